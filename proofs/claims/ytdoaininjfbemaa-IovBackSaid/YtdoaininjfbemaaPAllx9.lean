/- Printed by a copy of the printer that was turned for this claim: functions as plain Lean functions, with proofs that their calls come to these; or words that such proofs use. -/
import Derived.Test.YtdoaininjfbemaaPAllx0
import Derived.Test.YtdoaininjfbemaaPAllx2
import Derived.Test.YtdoaininjfbemaaPAllx3
import Derived.Test.YtdoaininjfbemaaPAllx5
import Derived.Test.YtdoaininjfbemaaPAllx7
import Derived.Test.YtdoaininjfbemaaPAllx8
namespace Go.Proofs.Ytdoaininjfbemaa.PAll
open Go.RowKit Go.Proofs.YtdoaininjfbemaaW.PrintWords Go.Proofs.YtdoaininjfbemaaW.PrintLast Go.Proofs.YtdoaininjfbemaaW.PrintMore
attribute [local go_sem] max2_int min2_int max_two min_two max_three min_three max_four min_four   -- for this text's walks alone
set_option linter.unusedVariables false
set_option linter.unusedSimpArgs false

/-! ### gangwayref0_CopyBytes: function 16 -/
abbrev gangwayref0_CopyBytes.t : Bool := true
abbrev gangwayref0_CopyBytes.f_ : Bool := false
theorem gangwayref0_CopyBytes.bc {w : World} {g : Nat} {cs : Array Value} {t : TypeId} (h : Aside0 (w.heap[g]? = some (.cells cs t (0, 0)))) (i : Nat) {v : Value} (e : cs[i]? = some v := by rfl) : w.cell? ⟨g, i, none⟩ = some v := (blk_cell h.out i).trans e
theorem gangwayref0_CopyBytes.bkept {W0 W W2 : World} {g : Nat} {o : Obj} {S : Nat → Prop} (_b : Aside0 (W0.heap[g]? = some o)) (h : W.heap[g]? = some o) (hk : Kept W W2 S) (hn : ¬ S g) : W2.heap[g]? = some o := blk_kept h hk hn
theorem gangwayref0_CopyBytes.bbelow {W0 w w1 : World} {g : Nat} {o : Obj} (_b : Aside0 (W0.heap[g]? = some o)) (h : w.heap[g]? = some o) (hb : Below w.heap.size w w1) : w1.heap[g]? = some o := blk_below h hb
theorem gangwayref0_CopyBytes.e1 {α : Type _} (xs : List α) (i : Nat) (a : α) : xs.toArray.setIfInBounds i a = (xs.set i a).toArray := by simp
theorem gangwayref0_CopyBytes.e2 {α : Type _} (x a : α) (xs : List α) : (x :: xs).set 0 a = a :: xs := rfl
theorem gangwayref0_CopyBytes.e3 {α : Type _} (x a : α) (xs : List α) (n : Nat) : (x :: xs).set (n + 1) a = x :: xs.set n a := rfl
theorem gangwayref0_CopyBytes.up {w w' : World} {a : Addr} {v : Value} (hb : Aside0 (Below w.heap.size w w')) (h : w.cell? a = some v) : w'.cell? a = some v := (hb.out.cell (World.block_lt_of_cell? w _ h)).trans h
def gangwayref0_CopyBytes.l0 : Nat → List Int → List Int → Int → Option (List Int)
 | 0, _, _, _ => none
 | k + 1, x0, x3, x4 => if x4 < (x0.length : Int) then (if 0 ≤ x4 then (if x3.length < 140737488355328 then (gangwayref0_CopyBytes.l0 k x0 (x3 ++ [rd x0 x4]) (wrap64 (x4 + 1))) else (none)) else (none)) else (some x3)
def gangwayref0_CopyBytes.f (k : Nat) (l0 : List Int) : Option (List Int) := gangwayref0_CopyBytes.l0 k l0 ([] : List Int) 0
theorem gangwayref0_CopyBytes.mono_l : ∀ k, (∀ y0 y1 y2, LeO (gangwayref0_CopyBytes.l0 k y0 y1 y2) (gangwayref0_CopyBytes.l0 (k + 1) y0 y1 y2))
 | 0 => fun _ _ _ r h => by simp [gangwayref0_CopyBytes.l0] at h
 | k + 1 => by
  have ih0 := gangwayref0_CopyBytes.mono_l k
  ·intro y0 y1 y2
   unfold gangwayref0_CopyBytes.l0
   repeat' first
   | (with_reducible apply ih0)
   | (with_reducible exact LeO.refl _)
   | (with_reducible exact LeO.none _)
   | (with_reducible refine LeO.ite ?_ ?_)
   | (with_reducible refine LeO.bind ?_ (fun _ => ?_))
   | apply ih0
   | exact LeO.none _
   | refine LeO.ite ?_ ?_
   | refine LeO.bind ?_ (fun _ => ?_)
theorem gangwayref0_CopyBytes.mono : ∀ a0 k, LeO (gangwayref0_CopyBytes.f k a0) (gangwayref0_CopyBytes.f (k + 1) a0) := by
 intro a0 k
 have ih0 := gangwayref0_CopyBytes.mono_l k
 unfold gangwayref0_CopyBytes.f
 repeat' first
   | (with_reducible apply ih0)
   | (with_reducible exact LeO.refl _)
   | (with_reducible exact LeO.none _)
   | (with_reducible refine LeO.ite ?_ ?_)
   | (with_reducible refine LeO.bind ?_ (fun _ => ?_))
   | apply ih0
   | exact LeO.none _
   | refine LeO.ite ?_ ?_
   | refine LeO.bind ?_ (fun _ => ?_)
theorem gangwayref0_CopyBytes.aa_0 {p : Prop} (h : p := by repeat (first | (with_reducible first | exact HB.out | apply below_alloc | apply pw_below_drewN | apply below_drew1) | exact HB.out)) : p := h
theorem gangwayref0_CopyBytes.am_ {p : Prop} (h : p) : Aside0 p := Aside0.mk h
theorem gangwayref0_CopyBytes.bm_ {α β : Type _} {o : Option α} {f : α → Option β} {b : β} (h : o.bind f = some b) : ∃ a, o = some a ∧ f a = some b := Option.bind_eq_some_iff.mp h
set_option maxHeartbeats 8000000 in
set_option maxRecDepth 100000 in
theorem gangwayref0_CopyBytes.calls (k : Nat) (A0 : Option Addr) (c0 : Nat) (l0 : List Int) (r : List Int) (w : World) (hr0 : Kd.C (Kd.int .u8) w A0 l0.length l0) (hc0 : l0.length ≤ c0) (h : gangwayref0_CopyBytes.f k l0 = some r) :
  Calls Try.prog 16 #[.slice A0 l0.length c0] w fun e w' => ∃ v0_ : Value, e = .returned (v0_) ∧ Kd.R (Kd.int .u8) 5 w' w.heap.size (fun _ => True) v0_ r ∧ Below w.heap.size w w' := by
 have HR0 := am_ hr0
 have HC0 := am_ hc0
 clear hr0 hc0
 have HB := am_ (Below.refl w.heap.size w)
 have H : (gangwayref0_CopyBytes.l0 k l0 ([] : List Int) 0) = some r := h
 clear h
 have H' := am_ H
 clear H
 go_enter Try.func16, Try.ntmps16
 go_wp2
 go_loopg [3, 4] k (fun kq v3 v4 w' => ∃ (x3_1 : List Int) (x4_1 : Int), v4 = .int .i64 x4_1 ∧ Aside0 (gangwayref0_CopyBytes.l0 kq l0 x3_1 x4_1 = some r) ∧ Aside0 (kq ≤ k) ∧ Aside0 (Kd.R (Kd.int .u8) 5 w' w.heap.size (fun _ => True) v3 x3_1) ∧ Aside0 (Below w.heap.size w w'))
 case atStart => exact ⟨(([] : List Int)), (0), (by first | rfl | (simp; done) | (simp [*]; done)), H', ⟨Nat.le_refl _⟩, ⟨by first | exact Kd.R_nil _ _ _ _ _ | exact Kd.N_nil _ _ _ _ _ | exact Kd.V_nil _ _ _ _ _ | exact Kd.Q_nil _ _ _ _ _ | exact Kd.S_nil _ _ _ _ _⟩, ⟨aa_0⟩⟩
 case round =>
  clear H'
  try clear c1
  obtain ⟨x3_1, x4_1, rfl, HA, HK1, HO_3, HB⟩ := hrel
  cases gk with
  | zero => exact absurd HA.out (by simp [gangwayref0_CopyBytes.l0])
  | succ k1 =>
   have H := HA.out
   clear HA
   simp only [gangwayref0_CopyBytes.l0] at H
   by_cases c2 : x4_1 < (l0.length : Int)
   ·rw [if_pos c2] at H
    have c2b0 : decide (x4_1 < (l0.length : Int)) = true := decide_eq_true c2
    clear c2
    by_cases c3 : 0 ≤ x4_1
    ·rw [if_pos c3] at H
     have c3b0 : decide (0 ≤ x4_1) = true := decide_eq_true c3
     clear c3
     by_cases c4 : x3_1.length < 140737488355328
     ·rw [if_pos c4] at H
      have LMc4 := am_ c4
      clear c4
      obtain ⟨y277, hy277⟩ : ∃ y_ : List Int, y_ = (x3_1 ++ [rd l0 x4_1]) := ⟨_, rfl⟩
      replace H : (gangwayref0_CopyBytes.l0 k1 l0 y277 (wrap64 (x4_1 + 1))) = some r := by first | (rw [hy277]; with_reducible exact H) | (have H2_ := (Option.bind_some _ _).symm.trans H; rw [hy277]; with_reducible exact H2_) | (have H2_ := (Option.bind_some _ _).symm.trans H; with_reducible exact H2_) | with_reducible exact H | (rw [hy277]; exact H) | exact H
      have Ny277 := am_ hy277
      clear hy277
      have H' := am_ H
      clear H
      have p276 : 0 ≤ (x4_1 : Int) := of_decide_eq_true (by first | (with_reducible assumption) | assumption)
      have q276 : x4_1 < (l0.length : Int) := of_decide_eq_true (by first | (with_reducible assumption) | assumption)
      obtain ⟨ad276, e276, hx276_0⟩ := Kd.at_int HR0.out x4_1 p276 q276
      cases e276
      replace hx276_0 := up HB hx276_0
      replace p276 := eq_true p276
      replace q276 := eq_true q276
      go_wp2_with (first | ((with_reducible refine gate_builtin (b := .append) (xs := #[.tmp 11, .tmp 16]) rfl ?_); at_builtin; refine Kd.R_append (Kd.int .u8) (w0 := w) w.heap.size rfl (.tmp 11) (.tmp 16) 23 5 (.int .u8 0) 1 rfl Try.underlying23 info5 rfl (by decide) (by omega) u3 x3_1 (rd l0 x4_1) [.int .u8 (rd l0 x4_1)] (fun _ => True) (fun _ => False) rfl rfl ?aP (fun _ hk => hk.elim) ?aF ?aO ?aB ?aS ?aL ?_; (case aP => exact rfl); (case aB => exact (by repeat (first | (with_reducible first | exact HB.out | apply below_alloc | apply pw_below_drewN | apply below_drew1) | exact HB.out))); (case aF => exact (fun _ _ => trivial)); (case aO => exact (by (with_reducible repeat (first | apply Kd.R_alloc | apply Kd.R_drewN | apply Kd.R_drew)); exact HO_3.out)); (case aS => exact (below_size (by repeat (first | (with_reducible first | exact HB.out | apply below_alloc | apply pw_below_drewN | apply below_drew1) | exact HB.out)))); (case aL => have := LMc4.out; omega); intro v278 w5 ho hb hg hat; rw [← Ny277.out] at ho; have n0_ := am_ (hb); have n1_ := am_ (ho); clear HB; clear HO_3; have HB := n0_; have HO279 := n1_; clear n0_ n1_; clear ho hb hg hat))
      go_roundg k1
      case measure => have := HK1.out; omega
      case rel => exact ⟨(y277), (wrap64 (x4_1 + 1)), (by first | rfl | (simp; done) | (simp [*]; done)), H', ⟨by have := HK1.out; omega⟩, ⟨by (with_reducible repeat (first | apply Kd.R_alloc | apply Kd.R_drewN | apply Kd.R_drew)); exact HO279.out⟩, ⟨aa_0⟩⟩
     ·rw [if_neg c4] at H
      exact absurd H (by simp)
    ·rw [if_neg c3] at H
     exact absurd H (by simp)
   ·rw [if_neg c2] at H
    have c2b0 : decide (x4_1 < (l0.length : Int)) = false := decide_eq_false c2
    clear c2
    obtain rfl := Option.some.inj H
    go_wp2
    go_ret
    exact ⟨_, by first | rfl | (simp [errW_none, errW_some] <;> rfl) | (simp [*, errW_none, errW_some] <;> rfl), by (with_reducible repeat (first | apply Kd.R_alloc | apply Kd.R_drewN | apply Kd.R_drew)); exact HO_3.out, by repeat (first | (with_reducible first | exact HB.out | apply below_alloc | apply pw_below_drewN | apply below_drew1) | exact HB.out)⟩

/-! ### gangwayref20_Scatter: function 17 -/
abbrev gangwayref20_Scatter.t : Bool := true
abbrev gangwayref20_Scatter.f_ : Bool := false
def gangwayref20_Scatter.bb0_ : Array Bool := #[t, t, t, t, t, t, t, t, t, t, t, t, t, t, t, t, t]
def gangwayref20_Scatter.bb1_ : Array Bool := #[t, t, t, t, t, t, t, t, t, t, t, t, t, t, t, t, f_]
def gangwayref20_Scatter.bb2_ : Array Bool := #[t, t, t, t, t, t, t, t, t, t, t, t, t, t, t, f_, f_]
def gangwayref20_Scatter.bb3_ : Array Bool := #[t, t, t, t, t, t, t, t, t, t, t, t, t, t, f_, f_, f_]
def gangwayref20_Scatter.bb4_ : Array Bool := #[t, t, t, t, t, t, t, t, t, t, f_, t, t, t, f_, f_, f_]
def gangwayref20_Scatter.bb5_ : Array Bool := #[t, t, t, t, t, t, t, t, f_, t, f_, t, t, t, f_, f_, f_]
def gangwayref20_Scatter.bb6_ : Array Bool := #[t, t, t, f_, t, t, t, t, f_, t, f_, t, t, t, f_, f_, f_]
def gangwayref20_Scatter.bb7_ : Array Bool := #[t, t, t, f_, t, t, t, t, f_, t, f_, t, t, f_, f_, f_, f_]
def gangwayref20_Scatter.bb8_ : Array Bool := #[t, t, t, f_, t, t, t, t, f_, t, f_, t, f_, f_, f_, f_, f_]
def gangwayref20_Scatter.bb9_ : Array Bool := #[t, t, t, f_, t, t, t, t, f_, t, f_, f_, f_, f_, f_, f_, f_]
def gangwayref20_Scatter.bb10_ : Array Bool := #[t, t, t, f_, t, t, t, t, f_, f_, f_, f_, f_, f_, f_, f_, f_]
def gangwayref20_Scatter.bb11_ : Array Bool := #[t, t, t, f_, t, t, t, f_, f_, f_, f_, f_, f_, f_, f_, f_, f_]
def gangwayref20_Scatter.bb12_ : Array Bool := #[t, t, t, f_, t, t, f_, f_, f_, f_, f_, f_, f_, f_, f_, f_, f_]
def gangwayref20_Scatter.bb13_ : Array Bool := #[t, t, t, f_, t, f_, f_, f_, f_, f_, f_, f_, f_, f_, f_, f_, f_]
def gangwayref20_Scatter.bb14_ : Array Bool := #[t, t, t, f_, f_, f_, f_, f_, f_, f_, f_, f_, f_, f_, f_, f_, f_]
def gangwayref20_Scatter.bb15_ : Array Bool := #[t, t, f_, f_, f_, f_, f_, f_, f_, f_, f_, f_, f_, f_, f_, f_, f_]
def gangwayref20_Scatter.bb16_ : Array Bool := #[t, f_, f_, f_, f_, f_, f_, f_, f_, f_, f_, f_, f_, f_, f_, f_, f_]
def gangwayref20_Scatter.bb17_ : Array Bool := #[f_, f_, f_, f_, f_, f_, f_, f_, f_, f_, f_, f_, f_, f_, f_, f_, f_]
theorem gangwayref20_Scatter.bc {w : World} {g : Nat} {cs : Array Value} {t : TypeId} (h : Aside0 (w.heap[g]? = some (.cells cs t (0, 0)))) (i : Nat) {v : Value} (e : cs[i]? = some v := by rfl) : w.cell? ⟨g, i, none⟩ = some v := (blk_cell h.out i).trans e
theorem gangwayref20_Scatter.bkept {W0 W W2 : World} {g : Nat} {o : Obj} {S : Nat → Prop} (_b : Aside0 (W0.heap[g]? = some o)) (h : W.heap[g]? = some o) (hk : Kept W W2 S) (hn : ¬ S g) : W2.heap[g]? = some o := blk_kept h hk hn
theorem gangwayref20_Scatter.bbelow {W0 w w1 : World} {g : Nat} {o : Obj} (_b : Aside0 (W0.heap[g]? = some o)) (h : w.heap[g]? = some o) (hb : Below w.heap.size w w1) : w1.heap[g]? = some o := blk_below h hb
theorem gangwayref20_Scatter.e1 {α : Type _} (xs : List α) (i : Nat) (a : α) : xs.toArray.setIfInBounds i a = (xs.set i a).toArray := by simp
theorem gangwayref20_Scatter.e2 {α : Type _} (x a : α) (xs : List α) : (x :: xs).set 0 a = a :: xs := rfl
theorem gangwayref20_Scatter.e3 {α : Type _} (x a : α) (xs : List α) (n : Nat) : (x :: xs).set (n + 1) a = x :: xs.set n a := rfl
mutual
def gangwayref20_Scatter.l0 : Nat → List (S50) → List Int → Int → Int → List Int → Int → Option (Int × List Int × Int)
 | 0, _, _, _, _, _, _ => none
 | k + 1, x1, x2, x7, x8, x1000, x1001 => if x8 < (x1.length : Int) then (gangwayref20_Scatter.l1 k x1 x2 x7 x8 0 x1000 x1001) else (some (x7, x1000, x1001))
def gangwayref20_Scatter.l1 : Nat → List (S50) → List Int → Int → Int → Int → List Int → Int → Option (Int × List Int × Int)
 | 0, _, _, _, _, _, _, _ => none
 | k + 1, x1, x2, x7, x8, x9, x1000, x1001 => if 0 ≤ x8 then (if x8 < (x1.length : Int) then (if x9 < ((rd_T50 x1 x8).f1) then (if x7 < (x2.length : Int) then (if 0 ≤ x7 then (if 0 ≤ (wrap64 (((rd_T50 x1 x8).f0) + x9)) then (if (wrap64 (((rd_T50 x1 x8).f0) + x9)) < (x1000.length : Int) then (gangwayref20_Scatter.l1 k x1 x2 (wrap64 (x7 + 1)) x8 (wrap64 (x9 + 1)) (x1000.set ((wrap64 (((rd_T50 x1 x8).f0) + x9)) : Int).toNat (rd x2 x7)) x1001) else (none)) else (none)) else (none)) else (gangwayref20_Scatter.l0 k x1 x2 x7 (wrap64 (x8 + 1)) x1000 x1001)) else (gangwayref20_Scatter.l0 k x1 x2 x7 (wrap64 (x8 + 1)) x1000 x1001)) else (none)) else (none)
end
def gangwayref20_Scatter.f (k : Nat) (l0_0 : List Int) (s0_1 : Int) (l1 : List (S50)) (l2 : List Int) : Option (Int × List Int × Int) := gangwayref20_Scatter.l0 k l1 l2 0 0 l0_0 s0_1
theorem gangwayref20_Scatter.mono_l : ∀ k, (∀ y0 y1 y2 y3 y4 y5, LeO (gangwayref20_Scatter.l0 k y0 y1 y2 y3 y4 y5) (gangwayref20_Scatter.l0 (k + 1) y0 y1 y2 y3 y4 y5)) ∧ (∀ y0 y1 y2 y3 y4 y5 y6, LeO (gangwayref20_Scatter.l1 k y0 y1 y2 y3 y4 y5 y6) (gangwayref20_Scatter.l1 (k + 1) y0 y1 y2 y3 y4 y5 y6))
 | 0 => ⟨fun _ _ _ _ _ _ r h => by simp [gangwayref20_Scatter.l0] at h, fun _ _ _ _ _ _ _ r h => by simp [gangwayref20_Scatter.l1] at h⟩
 | k + 1 => by
  obtain ⟨ih0, ih1⟩ := gangwayref20_Scatter.mono_l k
  refine ⟨?_, ?_⟩
  ·intro y0 y1 y2 y3 y4 y5
   unfold gangwayref20_Scatter.l0
   repeat' first
   | (with_reducible apply ih0)
   | (with_reducible apply ih1)
   | (with_reducible exact LeO.refl _)
   | (with_reducible exact LeO.none _)
   | (with_reducible refine LeO.ite ?_ ?_)
   | (with_reducible refine LeO.bind ?_ (fun _ => ?_))
   | apply ih0
   | apply ih1
   | exact LeO.none _
   | refine LeO.ite ?_ ?_
   | refine LeO.bind ?_ (fun _ => ?_)
  ·intro y0 y1 y2 y3 y4 y5 y6
   unfold gangwayref20_Scatter.l1
   repeat' first
   | (with_reducible apply ih0)
   | (with_reducible apply ih1)
   | (with_reducible exact LeO.refl _)
   | (with_reducible exact LeO.none _)
   | (with_reducible refine LeO.ite ?_ ?_)
   | (with_reducible refine LeO.bind ?_ (fun _ => ?_))
   | apply ih0
   | apply ih1
   | exact LeO.none _
   | refine LeO.ite ?_ ?_
   | refine LeO.bind ?_ (fun _ => ?_)
theorem gangwayref20_Scatter.mono : ∀ a0 a1 a2 a3 k, LeO (gangwayref20_Scatter.f k a0 a1 a2 a3) (gangwayref20_Scatter.f (k + 1) a0 a1 a2 a3) := by
 intro a0 a1 a2 a3 k
 obtain ⟨ih0, ih1⟩ := gangwayref20_Scatter.mono_l k
 unfold gangwayref20_Scatter.f
 repeat' first
   | (with_reducible apply ih0)
   | (with_reducible apply ih1)
   | (with_reducible exact LeO.refl _)
   | (with_reducible exact LeO.none _)
   | (with_reducible refine LeO.ite ?_ ?_)
   | (with_reducible refine LeO.bind ?_ (fun _ => ?_))
   | apply ih0
   | apply ih1
   | exact LeO.none _
   | refine LeO.ite ?_ ?_
   | refine LeO.bind ?_ (fun _ => ?_)
def gangwayref20_Scatter.T8 : Bool × List (List Nat × List Nat) := (true, [([], []), ([0], [0]), ([1], [1]), ([2], [2]), ([], []), ([], []), ([4, 5], [4, 5]), ([6], [6]), ([7], [7]), ([], []), ([8, 9], [8, 9]), ([], []), ([], []), ([11, 12], [11, 12]), ([13], [13]), ([3, 10, 0, 1, 2, 3, 4, 5, 6, 7, 8, 9, 10, 11, 12, 13, 14], [3, 10]), ([15, 14, 0, 1, 2, 3, 4, 5, 6, 7, 8, 9, 10, 11, 12, 13, 14], [14, 15])])
def gangwayref20_Scatter.B8 : List Nat := [0, 1, 3, 7, 0, 0, 48, 112, 240, 0, 1008, 0, 0, 6144, 14336, 32767, 65535]
theorem gangwayref20_Scatter.tab8 : rtab .any (opsOf Try.f17 8) = gangwayref20_Scatter.T8 := by kernel_rfl
theorem gangwayref20_Scatter.bits8 : waitsOk gangwayref20_Scatter.T8.2 gangwayref20_Scatter.B8 = true := by kernel_rfl
theorem gangwayref20_Scatter.aa_0 {p : Prop} (h : p := by first | (with_reducible assumption) | assumption) : p := h
theorem gangwayref20_Scatter.aa_1 {p : Prop} (h : p := by first | rfl | (simp; done) | (simp [*]; done)) : p := h
theorem gangwayref20_Scatter.aa_2 {p : Prop} (h : p := by repeat (first | (with_reducible first | exact HI0.out | apply IsS57.alloc | apply IsS57.drewN | apply IsS57.drew | apply IsS57.set_0 | apply IsS57.set_1) | exact HI0.out)) : p := h
theorem gangwayref20_Scatter.aa_3 {p : Prop} (h : p := by repeat (first | (with_reducible first | exact HK.out | apply Kept.alloc | apply Kept.drewN | apply Kept.drew | refine Kept.setCell ?_ (.inl (.inr rfl)) _) | exact HK.out)) : p := h
theorem gangwayref20_Scatter.aa_4 {p : Prop} (h : p := by repeat (first | (with_reducible first | exact HB.out | apply below_alloc | apply pw_below_drewN | apply below_drew1 | refine below_set ?_ (IsS57.ge HI0.out)) | exact HB.out)) : p := h
theorem gangwayref20_Scatter.aa_5 {p : Prop} (h : p := by (with_reducible repeat (first | apply Kd.R_alloc | apply Kd.R_drewN | apply Kd.R_drew)); exact HO_1000.out) : p := h
theorem gangwayref20_Scatter.am_ {p : Prop} (h : p) : Aside0 p := Aside0.mk h
theorem gangwayref20_Scatter.bm_ {α β : Type _} {o : Option α} {f : α → Option β} {b : β} (h : o.bind f = some b) : ∃ a, o = some a ∧ f a = some b := Option.bind_eq_some_iff.mp h
set_option maxHeartbeats 8000000 in
set_option maxRecDepth 100000 in
theorem gangwayref20_Scatter.calls (k : Nat) (g : Nat) (P0_0_ : Nat → Prop) (u9000_ : Value) (l0_0 : List Int) (s0_1 : Int) (A1 : Option Addr) (c1 : Nat) (l1 : List (S50)) (A2 : Option Addr) (c2 : Nat) (l2 : List Int) (r1 : Int) (r2 : List Int) (r3 : Int) (w0 w : World) (hI : IsS57 w0 w g u9000_ s0_1) (hB : Below w0.heap.size w0 w) (ho0_0 : Kd.R (Kd.int .u8) 5 w w0.heap.size P0_0_ u9000_ l0_0) (hr1 : ∀ W_, Kept w W_ (fun k_ => (P0_0_ k_) ∨ k_ = g) → Kd.C k50 W_ A1 l1.length l1) (hc1 : l1.length ≤ c1) (hr2 : ∀ W_, Kept w W_ (fun k_ => (P0_0_ k_) ∨ k_ = g) → Kd.C (Kd.int .u8) W_ A2 l2.length l2) (hc2 : l2.length ≤ c2) (h : gangwayref20_Scatter.f k l0_0 s0_1 l1 l2 = some (r1, r2, r3)) :
  Calls Try.prog 17 #[.pointer (some ⟨g, 0, none⟩), .slice A1 l1.length c1, .slice A2 l2.length c2] w fun e w' => ∃ v1_ : Value, e = .returned (.int .i64 r1) ∧ Kd.R (Kd.int .u8) 5 w' w0.heap.size (fun k_ => (P0_0_ k_ ∨ w.heap.size ≤ k_)) v1_ r2 ∧ IsS57 w0 w' g v1_ r3 ∧ Below w0.heap.size w0 w' ∧ Kept w w' (fun k_ => (P0_0_ k_) ∨ k_ = g) := by
 have HO0_0 := am_ (show Kd.R (Kd.int .u8) 5 w w0.heap.size (fun k_ => (P0_0_ k_ ∨ w.heap.size ≤ k_)) u9000_ l0_0 from Kd.R_mono ho0_0 (fun k_ hk => (.inl hk)))
 have HR1 := am_ hr1
 have HC1 := am_ hc1
 clear hr1 hc1
 have HR2 := am_ hr2
 have HC2 := am_ hc2
 clear hr2 hc2
 have HI0 := am_ hI
 have HL := am_ hB.size
 clear hI
 have HK := am_ (Kept.refl w (fun k_ => (P0_0_ k_) ∨ k_ = g))
 have HW0 := am_ hB.size
 have HB := am_ hB
 clear hB
 have H : (gangwayref20_Scatter.l0 k l1 l2 0 0 l0_0 s0_1) = some (r1, r2, r3) := h
 clear h
 have H' := am_ H
 clear H
 go_enter Try.func17, Try.ntmps17
 go_wp2
 go_loopg [7, 8] k (fun kq v7 v8 w' => ∃ (x7_1 : Int) (x8_1 : Int) (x1000_1 : List Int) (u1000 : Value), v7 = .int .i64 x7_1 ∧ v8 = .int .i64 x8_1 ∧ Aside0 (gangwayref20_Scatter.l0 kq l1 l2 x7_1 x8_1 x1000_1 s0_1 = some (r1, r2, r3)) ∧ Aside0 (kq ≤ k) ∧ Aside0 (Kd.R (Kd.int .u8) 5 w' w0.heap.size (fun k_ => (P0_0_ k_ ∨ w.heap.size ≤ k_)) u1000 x1000_1) ∧ Aside0 (IsS57 w0 w' g u1000 s0_1) ∧ Aside0 (Kept w w' (fun k_ => (P0_0_ k_) ∨ k_ = g)) ∧ Aside0 (Below w0.heap.size w0 w'))
 case atStart => exact ⟨(0), (0), (l0_0), (u9000_), aa_1, aa_1, H', ⟨Nat.le_refl _⟩, ⟨by (with_reducible repeat (first | apply Kd.R_alloc | apply Kd.R_drewN | apply Kd.R_drew)); exact HO0_0.out⟩, ⟨aa_2⟩, ⟨aa_3⟩, ⟨aa_4⟩⟩
 case round =>
  clear H'
  try clear c1
  try clear c2
  try clear p2
  obtain ⟨x7_1, x8_1, x1000_1, u1000, rfl, rfl, HA, HK1, HO_1000, HI0, HK, HB⟩ := hrel
  cases gk with
  | zero => exact absurd HA.out (by simp [gangwayref20_Scatter.l0])
  | succ k1 =>
   have H := HA.out
   clear HA
   simp only [gangwayref20_Scatter.l0] at H
   by_cases c4 : x8_1 < (l1.length : Int)
   ·rw [if_pos c4] at H
    have c4b0 : decide (x8_1 < (l1.length : Int)) = true := decide_eq_true c4
    clear c4
    have H' := am_ H
    clear H
    go_wp2
    go_loopg [7, 9] k1 (fun kq v7 v9 w' => ∃ (x7_2 : Int) (x9_2 : Int) (x1000_2 : List Int) (u1000 : Value), v7 = .int .i64 x7_2 ∧ v9 = .int .i64 x9_2 ∧ Aside0 (gangwayref20_Scatter.l1 kq l1 l2 x7_2 x8_1 x9_2 x1000_2 s0_1 = some (r1, r2, r3)) ∧ Aside0 (kq ≤ k1) ∧ Aside0 (Kd.R (Kd.int .u8) 5 w' w0.heap.size (fun k_ => (P0_0_ k_ ∨ w.heap.size ≤ k_)) u1000 x1000_2) ∧ Aside0 (IsS57 w0 w' g u1000 s0_1) ∧ Aside0 (Kept w w' (fun k_ => (P0_0_ k_) ∨ k_ = g)) ∧ Aside0 (Below w0.heap.size w0 w'))
    case atStart => exact ⟨(x7_1), (0), (x1000_1), (u1000), aa_1, aa_1, H', ⟨Nat.le_refl _⟩, ⟨aa_5⟩, ⟨aa_2⟩, ⟨aa_3⟩, ⟨aa_4⟩⟩
    case round =>
     clear H'
     try clear c1
     try clear c2
     try clear p2
     try clear c4
     try clear c4b0
     try clear p2
     obtain ⟨x7_2, x9_2, x1000_2, u1000, rfl, rfl, HA, HK2, HO_1000, HI0, HK, HB⟩ := hrel
     cases gk with
     | zero => exact absurd HA.out (by simp [gangwayref20_Scatter.l1])
     | succ k2 =>
      have H := HA.out
      clear HA
      simp only [gangwayref20_Scatter.l1] at H
      by_cases c5 : 0 ≤ x8_1
      ·rw [if_pos c5] at H
       have c5b0 : decide (0 ≤ x8_1) = true := decide_eq_true c5
       clear c5
       by_cases c6 : x8_1 < (l1.length : Int)
       ·rw [if_pos c6] at H
        have c6b0 : decide (x8_1 < (l1.length : Int)) = true := decide_eq_true c6
        clear c6
        by_cases c7 : x9_2 < ((rd_T50 l1 x8_1).f1)
        ·rw [if_pos c7] at H
         have c7b0 : decide (x9_2 < ((rd_T50 l1 x8_1).f1)) = true := decide_eq_true c7
         clear c7
         by_cases c8 : x7_2 < (l2.length : Int)
         ·rw [if_pos c8] at H
          have c8b0 : decide (x7_2 < (l2.length : Int)) = true := decide_eq_true c8
          clear c8
          by_cases c9 : 0 ≤ x7_2
          ·rw [if_pos c9] at H
           have c9b0 : decide (0 ≤ x7_2) = true := decide_eq_true c9
           clear c9
           obtain ⟨ji10, hji10⟩ : ∃ j_ : Int, (wrap64 (((rd_T50 l1 x8_1).f0) + x9_2)) = j_ := ⟨_, rfl⟩
           replace H : (if 0 ≤ (ji10) then (if (ji10) < (x1000_2.length : Int) then (gangwayref20_Scatter.l1 k2 l1 l2 (wrap64 (x7_2 + 1)) x8_1 (wrap64 (x9_2 + 1)) (x1000_2.set ((ji10) : Int).toNat (rd l2 x7_2)) s0_1) else (none)) else (none)) = some (r1, r2, r3) := by first | (rw [hji10] at H; exact H) | (simp only [hji10] at H ⊢; exact H)
           have hji10w : (IntKind.i64.wrap (((rd_T50 l1 x8_1).f0) + x9_2)) = ji10 := (i64_w _).trans hji10
           by_cases c11 : 0 ≤ (ji10)
           ·rw [if_pos c11] at H
            have c11b0 : decide (0 ≤ (ji10)) = true := decide_eq_true c11
            clear c11
            by_cases c12 : (ji10) < (x1000_2.length : Int)
            ·rw [if_pos c12] at H
             have c12b0 : decide ((ji10) < (x1000_2.length : Int)) = true := decide_eq_true c12
             clear c12
             obtain ⟨y283, hy283⟩ : ∃ y_ : List Int, y_ = (x1000_2.set ((ji10) : Int).toNat (rd l2 x7_2)) := ⟨_, rfl⟩
             replace H : (gangwayref20_Scatter.l1 k2 l1 l2 (wrap64 (x7_2 + 1)) x8_1 (wrap64 (x9_2 + 1)) y283 s0_1) = some (r1, r2, r3) := by first | (rw [hy283]; with_reducible exact H) | (have H2_ := (Option.bind_some _ _).symm.trans H; rw [hy283]; with_reducible exact H2_) | (have H2_ := (Option.bind_some _ _).symm.trans H; with_reducible exact H2_) | with_reducible exact H | (rw [hy283]; exact H) | exact H
             have Ny283 := am_ hy283
             clear hy283
             have H' := am_ H
             clear H
             have p280 : 0 ≤ (x8_1 : Int) := of_decide_eq_true aa_0
             have q280 : x8_1 < (l1.length : Int) := of_decide_eq_true aa_0
             obtain ⟨ad280, e280, hx280_0, hx280_1⟩ := at_T50 (Kd.C_kept_now HR1.out HK.out) x8_1 p280 q280
             cases e280
             replace p280 := eq_true p280
             replace q280 := eq_true q280
             try go_wp2
             have n0_ := am_ (Kd.R_drew HO_1000.out)
             have n1_ := am_ (IsS57.drew HI0.out)
             have n2_ := am_ (Kept.drew HK.out)
             have n3_ := am_ (below_drew1 HB.out)
             clear HO_1000
             clear HI0
             clear HK
             clear HB
             have HO_1000 := n0_
             have HI0 := n1_
             have HK := n2_
             have HB := n3_
             clear n0_ n1_ n2_ n3_
             have p281 : 0 ≤ (x8_1 : Int) := of_decide_eq_true aa_0
             have q281 : x8_1 < (l1.length : Int) := of_decide_eq_true aa_0
             obtain ⟨ad281, e281, hx281_0, hx281_1⟩ := at_T50 (Kd.C_kept_now HR1.out HK.out) x8_1 p281 q281
             obtain rfl : ad280 = ad281 := (by injection e281)
             replace p281 := eq_true p281
             replace q281 := eq_true q281
             have p282 : 0 ≤ (x7_2 : Int) := of_decide_eq_true aa_0
             have q282 : x7_2 < (l2.length : Int) := of_decide_eq_true aa_0
             obtain ⟨ad282, e282, hx282_0⟩ := Kd.at_int (Kd.C_kept_now HR2.out HK.out) x7_2 p282 q282
             cases e282
             replace p282 := eq_true p282
             replace q282 := eq_true q282
             have p13 : 0 ≤ ((ji10) : Int) := of_decide_eq_true aa_0
             have q13 : ((ji10) : Int) < ((x1000_2.length : Int) : Int) := of_decide_eq_true aa_0
             obtain ⟨go13, co13, eo13, gb13, gl13, cl13, HG13⟩ := Kd.R_form HO_1000.out (by omega)
             (first | cases eo13 | (injection eo13 with ea_ en_ ec_; (first | subst ea_ | (injection ea_ with ea_; subst ea_)); subst ec_; clear en_))
             have GB13 := am_ gb13
             have GG13 := am_ HG13
             clear gb13 gl13 HG13
             have HMgo13 := am_ (show (P0_0_ go13 ∨ w.heap.size ≤ go13) from (HO_1000.out.1 _ rfl))
             obtain ⟨hx13_0, hf13_0⟩ := Kd.R_celln 0 HO_1000.out ((ji10) : Int) p13 q13
             replace p13 := eq_true p13
             replace q13 := eq_true q13
             have HN0_go13 := am_ (show g ≠ go13 from by have h_ := IsS57.own_ne HI0.out HO_1000.out (by decide); intro e_; exact h_ (by rw [e_]; rfl))
             have HP15 := Kd.R_putn HO_1000.out ((ji10) : Int) (rd l2 x7_2)
             rw [← Ny283.out] at HP15
             have HQ15 := am_ HP15
             clear HP15
             refine start_ (n := 17) (S := fun w' => w'.cell? ⟨g, 0, none⟩ = some (.slice (some ⟨go13, 0, none⟩) x1000_2.length co13) ∧ w'.cell? ⟨g, 1, none⟩ = some (.int .i64 s0_1) ∧ w'.cell? (ad280.add ((x8_1).toNat * 2)) = some (.int .i64 ((rd_T50 l1 x8_1).f0)) ∧ w'.cell? ⟨(ad280.add ((x8_1).toNat * 2)).block, (ad280.add ((x8_1).toNat * 2)).off + 1, none⟩ = some (.int .i64 ((rd_T50 l1 x8_1).f1)) ∧ w'.cell? (ad282.add (x7_2).toNat) = some (.int .u8 (rd l2 x7_2))) (ds := [16]) bb17_ (by kernel_rfl) rfl rfl ⟨(blk_cell HI0.out.1 0).trans rfl, (blk_cell HI0.out.1 1).trans rfl, hx281_0, hx281_1, (Kd.foot_int (HR2.out _ (by repeat (first | exact HK.out | apply Kept.alloc | apply Kept.drewN | apply Kept.drew | refine Kept.setCell ?_ (Or.imp_left Or.inl HMgo13.out) _ | refine Kept.setCell ?_ (.inl (.inr rfl)) _))) x7_2 (of_eq_true p282) (of_eq_true q282))⟩ (fun hHeld => ?_); refine with_tabW gangwayref20_Scatter.tab8 gangwayref20_Scatter.bits8 (fun HT_ HW_ => ?_)
             generalize wr.drew = w14 at HO_1000 HI0 HK HB GG13 HQ15 hf13_0 hx13_0 hx281_0 hx281_1 hx282_0 hHeld ⊢
             refine pure_ (i := 0) (N := some 31) (v := ?_) (a' := ?_) bb16_ rfl rfl (any_of HT_.out (by kernel_rfl)) (fun _ _ _ h => h) (Or.inl ⟨by rfl, ?_⟩) ?_ ?_
             rotate_left; · intro w'; go_simp; with_reducible rfl
             rotate_left; · simp only [Act.put, e1, e2, e3, i64_w, i32_w]; rfl
             refine pure_ (i := 1) (N := some 32) (v := ?_) (a' := ?_) bb15_ rfl rfl (any_of HT_.out (by kernel_rfl)) (fun _ _ _ h => h) (Or.inl ⟨by rfl, ?_⟩) ?_ ?_
             rotate_left; · intro w'; go_simp; with_reducible rfl
             rotate_left; · simp only [Act.put, e1, e2, e3, i64_w, i32_w]; rfl
             refine pure_ (i := 2) (N := some 33) (v := ?_) (a' := ?_) bb14_ rfl rfl (any_of HT_.out (by kernel_rfl)) (fun _ _ _ h => h) (Or.inl ⟨by rfl, ?_⟩) ?_ ?_
             rotate_left; · intro w'; go_simp; with_reducible rfl
             rotate_left; · simp only [Act.put, e1, e2, e3, i64_w, i32_w]; rfl
             refine pure_ (i := 4) (N := some 35) (v := ?_) (a' := ?_) bb13_ rfl rfl (any_of HT_.out (by kernel_rfl)) (fun _ _ _ h => h) (Or.inl ⟨by rfl, ?_⟩) ?_ ?_
             rotate_left; · intro w'; go_simp; with_reducible rfl
             rotate_left; · simp only [Act.put, e1, e2, e3, i64_w, i32_w]; rfl
             refine pure_ (i := 5) (N := some 36) (v := ?_) (a' := ?_) bb12_ rfl rfl (any_of HT_.out (by kernel_rfl)) (fun _ _ _ h => h) (Or.inl ⟨by rfl, ?_⟩) ?_ ?_
             rotate_left; · intro w'; go_simp; with_reducible rfl
             rotate_left; · simp only [Act.put, e1, e2, e3, i64_w, i32_w]; rfl
             refine pure_ (i := 6) (N := some 37) (v := ?_) (a' := ?_) bb11_ rfl rfl (any_of HT_.out (by kernel_rfl)) (fun _ _ _ h => h) (Or.inl ⟨by rfl, ?_⟩) ?_ ?_
             rotate_left; · intro w'; go_simp; with_reducible rfl
             rotate_left; · simp only [Act.put, e1, e2, e3, i64_w, i32_w]; rfl
             refine pure_ (i := 7) (N := some 38) (v := ?_) (a' := ?_) bb10_ rfl rfl (any_of HT_.out (by kernel_rfl)) (fun _ _ _ h => h) (Or.inl ⟨by rfl, ?_⟩) ?_ ?_
             rotate_left; · intro w'; go_simp; with_reducible rfl
             rotate_left; · simp only [Act.put, e1, e2, e3, i64_w, i32_w]; rfl
             refine pure_ (i := 9) (N := some 40) (v := ?_) (a' := ?_) bb9_ rfl rfl (any_of HT_.out (by kernel_rfl)) (fun _ _ _ h => h) (Or.inl ⟨by rfl, ?_⟩) ?_ ?_
             rotate_left; · intro w'; go_simp; with_reducible rfl
             rotate_left; · simp only [Act.put, e1, e2, e3, i64_w, i32_w]; rfl
             refine pure_ (i := 11) (N := some 42) (v := ?_) (a' := ?_) bb8_ rfl rfl (any_of HT_.out (by kernel_rfl)) (fun _ _ _ h => h) (Or.inl ⟨by rfl, ?_⟩) ?_ ?_
             rotate_left; · intro w'; go_simp; with_reducible rfl
             rotate_left; · simp only [Act.put, e1, e2, e3, i64_w, i32_w]; rfl
             refine pure_ (i := 12) (N := some 43) (v := ?_) (a' := ?_) bb7_ rfl rfl (any_of HT_.out (by kernel_rfl)) (fun _ _ _ h => h) (Or.inl ⟨by rfl, ?_⟩) ?_ ?_
             rotate_left; · intro w'; go_simp; with_reducible rfl
             rotate_left; · simp only [Act.put, e1, e2, e3, i64_w, i32_w]; rfl
             refine pure_ (i := 13) (N := some 44) (v := ?_) (a' := ?_) bb6_ rfl rfl (any_of HT_.out (by kernel_rfl)) (fun _ _ _ h => h) (Or.inl ⟨by rfl, ?_⟩) ?_ ?_
             rotate_left; · intro w'; go_simp; with_reducible rfl
             rotate_left; · simp only [Act.put, e1, e2, e3, i64_w, i32_w]; rfl
             refine take_ (i := 3) (N := some 34) (v := ?_) (a' := ?_) bb5_ rfl rfl (take_ofW HT_.out HW_.out (by kernel_rfl)) (fun _ _ _ h => h) (Or.inl ⟨by rfl, ?_⟩) hHeld ?_ ?_
             rotate_left; · rintro w' ⟨s0, s1, s2, s3, s4⟩; go_simp; with_reducible rfl
             rotate_left; · simp only [Act.put, e1, e2, e3, i64_w, i32_w]; rfl
             refine take_ (i := 8) (N := some 39) (v := ?_) (a' := ?_) bb4_ rfl rfl (take_ofW HT_.out HW_.out (by kernel_rfl)) (fun _ _ _ h => h) (Or.inl ⟨by rfl, ?_⟩) hHeld ?_ ?_
             rotate_left; · rintro w' ⟨s0, s1, s2, s3, s4⟩; go_simp; with_reducible rfl
             rotate_left; · simp only [Act.put, e1, e2, e3, i64_w, i32_w]; rfl
             refine pure_ (i := 10) (N := some 41) (v := ?_) (a' := ?_) bb3_ rfl rfl (any_of HT_.out (by kernel_rfl)) (fun _ _ _ h => h) (Or.inl ⟨by rfl, ?_⟩) ?_ ?_
             rotate_left; · intro w'; go_simp; with_reducible rfl
             rotate_left; · simp only [Act.put, e1, e2, e3, i64_w, i32_w]; rfl
             refine take_ (i := 14) (N := some 45) (v := ?_) (a' := ?_) bb2_ rfl rfl (take_ofW HT_.out HW_.out (by kernel_rfl)) (fun _ _ _ h => h) (Or.inl ⟨by rfl, ?_⟩) hHeld ?_ ?_
             rotate_left; · rintro w' ⟨s0, s1, s2, s3, s4⟩; go_simp; with_reducible rfl
             rotate_left; · simp only [Act.put, e1, e2, e3, i64_w, i32_w]; rfl
             refine pure_ (i := 15) (N := some 46) (v := ?_) (a' := ?_) bb1_ rfl rfl (any_of HT_.out (by kernel_rfl)) (fun _ _ _ h => h) (Or.inl ⟨by rfl, ?_⟩) ?_ ?_
             rotate_left; · intro w'; go_simp; with_reducible rfl
             rotate_left; · simp only [Act.put, e1, e2, e3, i64_w, i32_w]; rfl
             refine last_ (i := 16) (N := none) bb0_ rfl rfl (one_of HT_.out (by kernel_rfl)) (by decide) (fun K hK => ?_)
             refine skip_ (w1 := ?_) (by rfl) rfl ?_ ?_
             rotate_left
             ·go_simp
              rfl
             refine hK.out _ _ ?_
             clear hK K
             refine done_ (done_of HT_.out (by kernel_rfl)) ?_
             try go_wp2
             go_roundg k2
             case measure => have := HK1.out; have := HK2.out; omega
             case rel => exact ⟨(wrap64 (x7_2 + 1)), (wrap64 (x9_2 + 1)), (y283), (.slice (some ⟨go13, 0, none⟩) x1000_2.length co13), aa_1, aa_1, H', ⟨by have := HK1.out; have := HK2.out; omega⟩, ⟨by (with_reducible repeat (first | apply Kd.R_alloc | apply Kd.R_drewN | apply Kd.R_drew)); exact HQ15.out⟩, ⟨by repeat (first | (with_reducible first | exact HI0.out | apply IsS57.alloc | apply IsS57.drewN | apply IsS57.drew | apply IsS57.set_0 | apply IsS57.set_1 | refine IsS57.far ?_ HN0_go13.out _) | exact HI0.out)⟩, ⟨by repeat (first | (with_reducible first | exact HK.out | apply Kept.alloc | apply Kept.drewN | apply Kept.drew | refine Kept.setCell ?_ (Or.imp_left Or.inl HMgo13.out) _ | refine Kept.setCell ?_ (.inl (.inr rfl)) _) | exact HK.out)⟩, ⟨by repeat (first | (with_reducible first | exact HB.out | apply below_alloc | apply pw_below_drewN | apply below_drew1 | refine below_set ?_ GB13.out | refine below_set ?_ (IsS57.ge HI0.out)) | exact HB.out)⟩⟩
            ·rw [if_neg c12] at H
             exact absurd H (by simp)
           ·rw [if_neg c11] at H
            exact absurd H (by simp)
          ·rw [if_neg c9] at H
           exact absurd H (by simp)
         ·rw [if_neg c8] at H
          have c8b0 : decide (x7_2 < (l2.length : Int)) = false := decide_eq_false c8
          clear c8
          have H' := am_ H
          clear H
          have p280 : 0 ≤ (x8_1 : Int) := of_decide_eq_true aa_0
          have q280 : x8_1 < (l1.length : Int) := of_decide_eq_true aa_0
          obtain ⟨ad280, e280, hx280_0, hx280_1⟩ := at_T50 (Kd.C_kept_now HR1.out HK.out) x8_1 p280 q280
          cases e280
          replace p280 := eq_true p280
          replace q280 := eq_true q280
          go_wp2
          go_roundg k2
          case measure => have := HK1.out; have := HK2.out; omega
          case rel => exact ⟨(x7_2), (wrap64 (x8_1 + 1)), (x1000_2), (u1000), aa_1, aa_1, H', ⟨by have := HK1.out; have := HK2.out; omega⟩, ⟨aa_5⟩, ⟨aa_2⟩, ⟨aa_3⟩, ⟨aa_4⟩⟩
        ·rw [if_neg c7] at H
         have c7b0 : decide (x9_2 < ((rd_T50 l1 x8_1).f1)) = false := decide_eq_false c7
         clear c7
         have H' := am_ H
         clear H
         have p280 : 0 ≤ (x8_1 : Int) := of_decide_eq_true aa_0
         have q280 : x8_1 < (l1.length : Int) := of_decide_eq_true aa_0
         obtain ⟨ad280, e280, hx280_0, hx280_1⟩ := at_T50 (Kd.C_kept_now HR1.out HK.out) x8_1 p280 q280
         cases e280
         replace p280 := eq_true p280
         replace q280 := eq_true q280
         go_wp2
         go_roundg k2
         case measure => have := HK1.out; have := HK2.out; omega
         case rel => exact ⟨(x7_2), (wrap64 (x8_1 + 1)), (x1000_2), (u1000), aa_1, aa_1, H', ⟨by have := HK1.out; have := HK2.out; omega⟩, ⟨aa_5⟩, ⟨aa_2⟩, ⟨aa_3⟩, ⟨aa_4⟩⟩
       ·rw [if_neg c6] at H
        exact absurd H (by simp)
      ·rw [if_neg c5] at H
       exact absurd H (by simp)
   ·rw [if_neg c4] at H
    have c4b0 : decide (x8_1 < (l1.length : Int)) = false := decide_eq_false c4
    clear c4
    simp only [Option.some.injEq, Prod.mk.injEq] at H
    obtain ⟨rfl, rfl, rfl⟩ := H
    go_wp2
    go_ret
    exact ⟨_, by first | rfl | (simp [errW_none, errW_some] <;> rfl) | (simp [*, errW_none, errW_some] <;> rfl), by (with_reducible repeat (first | apply Kd.R_alloc | apply Kd.R_drewN | apply Kd.R_drew)); exact HO_1000.out, by repeat (first | (with_reducible first | exact HI0.out | apply IsS57.alloc | apply IsS57.drewN | apply IsS57.drew | apply IsS57.set_0 | apply IsS57.set_1) | exact HI0.out), by repeat (first | (with_reducible first | exact HB.out | apply below_alloc | apply pw_below_drewN | apply below_drew1 | refine below_set ?_ (IsS57.ge HI0.out)) | exact HB.out), by repeat (first | (with_reducible first | exact HK.out | apply Kept.alloc | apply Kept.drewN | apply Kept.drew | refine Kept.setCell ?_ (.inl (.inr rfl)) _) | exact HK.out)⟩


/-! ### gangwaylaw19_Same: function 18 (by hand) -/
def gangwaylaw19_Same.f (k : Nat) (l0_0 : List Int) (s0_1 : Int) (l1_0 : List Int) (s1_1 : Int) : Option (Bool × List Int × Int) :=
  (mem_Memory_Read.f l0_0 s0_1 0 (l1_0.length : Int)).bind fun b => if b.2.1 = 0 then ((gangwayref0_EqBytes.f k b.1 l1_0).bind fun t => some (t, b.2.2.1, b.2.2.2)) else none
theorem gangwaylaw19_Same.mono : ∀ a0 a1 a2 a3 k, LeO (gangwaylaw19_Same.f k a0 a1 a2 a3) (gangwaylaw19_Same.f (k + 1) a0 a1 a2 a3) := by
  intro a0 a1 a2 a3 k r h
  unfold gangwaylaw19_Same.f at h ⊢
  obtain ⟨b, hb, h⟩ := Option.bind_eq_some_iff.1 h
  rw [hb, Option.bind_some]
  by_cases hc : b.2.1 = 0
  · rw [if_pos hc] at h ⊢
    obtain ⟨t, ht, h⟩ := Option.bind_eq_some_iff.1 h
    rw [gangwayref0_EqBytes.mono _ _ k _ ht, Option.bind_some]
    exact h
  · rw [if_neg hc] at h
    cases h
set_option maxHeartbeats 8000000 in
set_option maxRecDepth 100000 in
theorem gangwaylaw19_Same.calls (k : Nat) (g : Nat) (P0_0_ : Nat → Prop) (u9000_ : Value) (l0_0 : List Int) (s0_1 : Int) (g1 : Nat) (A1 : Option Addr) (c1 : Nat) (l1_0 : List Int) (s1_1 : Int) (r1 : Bool) (r2 : List Int) (r3 : Int) (w0 w : World) (hI : IsS72 w0 w g u9000_ s0_1) (hB : Below w0.heap.size w0 w) (ho0_0 : Kd.R (Kd.int .u8) 5 w w0.heap.size P0_0_ u9000_ l0_0) (hJ : ∀ W_, Kept w W_ (fun k_ => (P0_0_ k_) ∨ k_ = g) → W_.heap[g1]? = some (.cells #[.slice A1 l1_0.length c1, .int .i64 s1_1] 57 (0, 0)) ∧ Kd.C (Kd.int .u8) W_ A1 l1_0.length l1_0) (hc1 : l1_0.length ≤ c1) (h : gangwaylaw19_Same.f k l0_0 s0_1 l1_0 s1_1 = some (r1, r2, r3)) :
    Calls Try.prog 18 #[.pointer (some ⟨g, 0, none⟩), .pointer (some ⟨g1, 0, none⟩)] w fun e w' => ∃ v1_ : Value, e = .returned (.bool r1) ∧ Kd.R (Kd.int .u8) 5 w' w0.heap.size (fun k_ => (P0_0_ k_ ∨ w.heap.size ≤ k_)) v1_ r2 ∧ IsS72 w0 w' g v1_ r3 ∧ Below w0.heap.size w0 w' ∧ Kept w w' (fun k_ => (P0_0_ k_) ∨ k_ = g) := by
  unfold gangwaylaw19_Same.f at h
  obtain ⟨⟨rb, re, rl, rs⟩, hrd, h⟩ := Option.bind_eq_some_iff.1 h
  simp only at h
  by_cases hz : re = 0
  rotate_left
  · rw [if_neg hz] at h
    cases h
  rw [if_pos hz] at h
  obtain ⟨t, ht, h⟩ := Option.bind_eq_some_iff.1 h
  simp only [Option.some.injEq, Prod.mk.injEq] at h
  obtain ⟨rfl, rfl, rfl⟩ := h
  subst hz
  obtain ⟨hJb, hJc⟩ := hJ w (Kept.refl w _)
  have hcz0 : w.cell? ⟨g1, 0, none⟩ = some (.slice A1 l1_0.length c1) := (blk_cell hJb 0).trans rfl
  have HRD := Aside0.mk hrd
  have HT := Aside0.mk ht
  have HI := Aside0.mk hI
  have HB := Aside0.mk hB
  have HO := Aside0.mk ho0_0
  have HJ := Aside0.mk hJ
  have HC1 := Aside0.mk hc1
  clear hrd ht hI hB ho0_0 hJ hJb hJc hc1
  go_enter Try.func18, Try.ntmps18
  go_wp2_with (first
    | ((with_reducible refine gate_callee (f := 21) rfl ?_); refine goesL_ (some 14) rfl rfl Try.func21 (by kernel_rfl) rfl #[.pointer (some ⟨g, 0, none⟩), .int .i64 0, .int .i64 (l1_0.length : Int)] rfl (by (try simp only [List.map_toArray, List.map_cons, List.map_nil]); first | done | rfl | (simp only [List.length_drop, List.length_take]; rfl)) ?_
       (with_reducible refine (mem_Memory_Read.calls g P0_0_ u9000_ l0_0 s0_1 0 (l1_0.length : Int) rb 0 rl rs w0 _ HI.out HB.out HO.out HRD.out).mono ?_)
       rintro e w1 ⟨v0, v2, rfl, hr0, hr2, hi, hb, hk⟩
       refine ⟨_, rfl, ?_⟩
       obtain ⟨Ab, cb, hev⟩ := Kd.R_slice hr0
       subst hev
       obtain ⟨hJb, hJc⟩ := HJ.out w1 hk
       have hcy0 : w1.cell? ⟨g1, 0, none⟩ = some (.slice A1 l1_0.length c1) := (blk_cell hJb 0).trans rfl
       have HR0 := Aside0.mk hr0
       have HR2 := Aside0.mk hr2
       have HI1 := Aside0.mk hi
       have HB1 := Aside0.mk hb
       have HK1 := Aside0.mk hk
       have HJC := Aside0.mk hJc
       clear hr0 hr2 hi hb hk hJb hJc)
    | ((with_reducible refine gate_callee (f := 9) rfl ?_); refine goesL_ (some 18) rfl rfl Try.func9 (by kernel_rfl) rfl #[.int .i64 0] rfl (by (try simp only [List.map_toArray, List.map_cons, List.map_nil]); first | done | rfl | (simp only [List.length_drop, List.length_take]; rfl)) ?_
       (with_reducible refine (gangwaylaw19_num.calls 0 0 _ rfl).mono ?_)
       rintro e w2 ⟨rfl, ⟨nd, rfl⟩⟩
       refine ⟨_, rfl, ?_⟩)
    | (go_at_call 13
       (refine (gangwayref0_EqBytes.calls k Ab cb rb A1 c1 l1_0 t _ ?e1 ?e2 ?e3 ?e4 HT.out).mono ?_)
       (case e1 => exact Kd.C_drewN (Kd.R_reads' HR0.out).2.2 nd)
       (case e2 => exact (Kd.R_reads' HR0.out).2.1)
       (case e3 => exact Kd.C_drewN HJC.out nd)
       (case e4 => exact HC1.out)
       rintro e w3 ⟨rfl, ⟨nd2, rfl⟩⟩))
  go_ret
  exact ⟨v2, rfl, by (with_reducible repeat (first | apply Kd.R_alloc | apply Kd.R_drewN | apply Kd.R_drew)); exact Kd.R_mono HR2.out (fun k_ hk_ => hk_.1), by repeat (first | (with_reducible first | exact HI1.out | apply IsS72.alloc | apply IsS72.drewN | apply IsS72.drew) | exact HI1.out), by repeat (first | (with_reducible first | exact HB1.out | apply below_alloc | apply pw_below_drewN | apply below_drew1) | exact HB1.out), by repeat (first | (with_reducible first | exact HK1.out | apply Kept.alloc | apply Kept.drewN | apply Kept.drew) | exact HK1.out)⟩


/-! ### gangwaylaw19_wakes: function 20 -/
abbrev gangwaylaw19_wakes.t : Bool := true
abbrev gangwaylaw19_wakes.f_ : Bool := false
theorem gangwaylaw19_wakes.bc {w : World} {g : Nat} {cs : Array Value} {t : TypeId} (h : Aside0 (w.heap[g]? = some (.cells cs t (0, 0)))) (i : Nat) {v : Value} (e : cs[i]? = some v := by rfl) : w.cell? ⟨g, i, none⟩ = some v := (blk_cell h.out i).trans e
theorem gangwaylaw19_wakes.bkept {W0 W W2 : World} {g : Nat} {o : Obj} {S : Nat → Prop} (_b : Aside0 (W0.heap[g]? = some o)) (h : W.heap[g]? = some o) (hk : Kept W W2 S) (hn : ¬ S g) : W2.heap[g]? = some o := blk_kept h hk hn
theorem gangwaylaw19_wakes.bbelow {W0 w w1 : World} {g : Nat} {o : Obj} (_b : Aside0 (W0.heap[g]? = some o)) (h : w.heap[g]? = some o) (hb : Below w.heap.size w w1) : w1.heap[g]? = some o := blk_below h hb
theorem gangwaylaw19_wakes.e1 {α : Type _} (xs : List α) (i : Nat) (a : α) : xs.toArray.setIfInBounds i a = (xs.set i a).toArray := by simp
theorem gangwaylaw19_wakes.e2 {α : Type _} (x a : α) (xs : List α) : (x :: xs).set 0 a = a :: xs := rfl
theorem gangwaylaw19_wakes.e3 {α : Type _} (x a : α) (xs : List α) (n : Nat) : (x :: xs).set (n + 1) a = x :: xs.set n a := rfl
def gangwaylaw19_wakes.f (k : Nat)  : Option (Bool) := (gangwaylaw19_Both.f k (([9, 0, 0, 0, 2, 0, 0, 0] : List Int))).bind fun bt287 => (if bt287.1 = true then (if bt287.2.2.2.1 = true then ((iov_Pieces.f k bt287.2.1 bt287.2.2.1 0 1).bind fun bt299 => ((gangwaylaw19_num.f bt299.2.1).bind fun t307 => (if t307 = 0 then ((gangwayref0_EqPieces.f k bt299.1 (([(⟨9, 2⟩ : S50)] : List (S50)))).bind fun t311 => (some t311)) else (none)))) else ((iov_Pieces.f k bt287.2.1 bt287.2.2.1 0 1).bind fun bt312 => ((gangwaylaw19_num.f bt312.2.1).bind fun t320 => (if t320 = 0 then ((gangwayref0_EqPieces.f k bt312.1 (([(⟨9, 2⟩ : S50)] : List (S50)))).bind fun t324 => (some t324)) else (none))))) else (none))
theorem gangwaylaw19_wakes.mono : ∀ k, LeO (gangwaylaw19_wakes.f k ) (gangwaylaw19_wakes.f (k + 1) ) := by
 intro  k
 unfold gangwaylaw19_wakes.f
 repeat' first
   | (with_reducible exact gangwaylaw19_Both.mono _ _)
   | (with_reducible exact gangwayref0_EqPieces.mono _ _ _)
   | (with_reducible exact iov_Pieces.mono _ _ _ _ _)
   | (with_reducible exact LeO.refl _)
   | (with_reducible exact LeO.none _)
   | (with_reducible refine LeO.ite ?_ ?_)
   | (with_reducible refine LeO.bind ?_ (fun _ => ?_))
   | exact gangwaylaw19_Both.mono _ _
   | exact gangwayref0_EqPieces.mono _ _ _
   | exact iov_Pieces.mono _ _ _ _ _
   | exact LeO.none _
   | refine LeO.ite ?_ ?_
   | refine LeO.bind ?_ (fun _ => ?_)
theorem gangwaylaw19_wakes.aa_0 {p : Prop} (h : p := by repeat (first | (with_reducible first | exact HB.out | apply below_alloc | apply pw_below_drewN | apply below_drew1) | exact HB.out)) : p := h
theorem gangwaylaw19_wakes.aa_1 {p : Prop} (h : p := by (with_reducible repeat (first | apply Kd.R_alloc | apply Kd.R_drewN | apply Kd.R_drew)); exact HO286.out) : p := h
theorem gangwaylaw19_wakes.aa_2 {p : Prop} (h : p := by (try simp only [List.map_toArray, List.map_cons, List.map_nil]); first | done | rfl | (simp only [List.length_drop, List.length_take]; rfl)) : p := h
theorem gangwaylaw19_wakes.aa_3 {p : Prop} (h : p := by repeat (first | exact (Kd.R_reads' HO286.out).2.2 | (with_reducible refine Kd.C_alloc ?_ _) | (with_reducible refine Kd.C_drewN ?_ _) | (with_reducible refine Kd.C_drew ?_))) : p := h
theorem gangwaylaw19_wakes.aa_4 {p : Prop} (h : p := by repeat (first | (with_reducible first | exact HI292.out | apply IsS72.alloc | apply IsS72.drewN | apply IsS72.drew | apply IsS72.set_0 | apply IsS72.set_1) | exact HI292.out)) : p := h
theorem gangwaylaw19_wakes.am_ {p : Prop} (h : p) : Aside0 p := Aside0.mk h
theorem gangwaylaw19_wakes.bm_ {α β : Type _} {o : Option α} {f : α → Option β} {b : β} (h : o.bind f = some b) : ∃ a, o = some a ∧ f a = some b := Option.bind_eq_some_iff.mp h
set_option maxHeartbeats 8000000 in
set_option maxRecDepth 100000 in
theorem gangwaylaw19_wakes.calls (k : Nat)  (r : Bool) (w : World) (h : gangwaylaw19_wakes.f k  = some r) :
  Calls Try.prog 20 #[] w fun e w' => e = .returned (.bool r) ∧ Below w.heap.size w w' := by
 have hu50 := Try.underlying50
 have HB := am_ (Below.refl w.heap.size w)
 have H : ((gangwaylaw19_Both.f k (([9, 0, 0, 0, 2, 0, 0, 0] : List Int))).bind fun bt287 => (if bt287.1 = true then (if bt287.2.2.2.1 = true then ((iov_Pieces.f k bt287.2.1 bt287.2.2.1 0 1).bind fun bt299 => ((gangwaylaw19_num.f bt299.2.1).bind fun t307 => (if t307 = 0 then ((gangwayref0_EqPieces.f k bt299.1 (([(⟨9, 2⟩ : S50)] : List (S50)))).bind fun t311 => (some t311)) else (none)))) else ((iov_Pieces.f k bt287.2.1 bt287.2.2.1 0 1).bind fun bt312 => ((gangwaylaw19_num.f bt312.2.1).bind fun t320 => (if t320 = 0 then ((gangwayref0_EqPieces.f k bt312.1 (([(⟨9, 2⟩ : S50)] : List (S50)))).bind fun t324 => (some t324)) else (none))))) else (none))) = some r := h
 clear h
 obtain ⟨y284, hy284⟩ : ∃ y_ : List Int, y_ = (([9, 0, 0, 0, 2, 0, 0, 0] : List Int)) := ⟨_, rfl⟩
 replace H : ((gangwaylaw19_Both.f k y284).bind fun bt287 => (if bt287.1 = true then (if bt287.2.2.2.1 = true then ((iov_Pieces.f k bt287.2.1 bt287.2.2.1 0 1).bind fun bt299 => ((gangwaylaw19_num.f bt299.2.1).bind fun t307 => (if t307 = 0 then ((gangwayref0_EqPieces.f k bt299.1 (([(⟨9, 2⟩ : S50)] : List (S50)))).bind fun t311 => (some t311)) else (none)))) else ((iov_Pieces.f k bt287.2.1 bt287.2.2.1 0 1).bind fun bt312 => ((gangwaylaw19_num.f bt312.2.1).bind fun t320 => (if t320 = 0 then ((gangwayref0_EqPieces.f k bt312.1 (([(⟨9, 2⟩ : S50)] : List (S50)))).bind fun t324 => (some t324)) else (none))))) else (none))) = some r := by first | (rw [hy284]; with_reducible exact H) | (have H2_ := (Option.bind_some _ _).symm.trans H; rw [hy284]; with_reducible exact H2_) | (have H2_ := (Option.bind_some _ _).symm.trans H; with_reducible exact H2_) | with_reducible exact H | (rw [hy284]; exact H) | exact H
 have Ny284 := am_ hy284
 clear hy284
 replace H := bm_ H
 obtain ⟨⟨t287, t288, t291, t293, t294, t297⟩, A10, H⟩ := H
 replace H : (if t287 = true then (if t293 = true then ((iov_Pieces.f k t288 t291 0 1).bind fun bt299 => ((gangwaylaw19_num.f bt299.2.1).bind fun t307 => (if t307 = 0 then ((gangwayref0_EqPieces.f k bt299.1 (([(⟨9, 2⟩ : S50)] : List (S50)))).bind fun t311 => (some t311)) else (none)))) else ((iov_Pieces.f k t288 t291 0 1).bind fun bt312 => ((gangwaylaw19_num.f bt312.2.1).bind fun t320 => (if t320 = 0 then ((gangwayref0_EqPieces.f k bt312.1 (([(⟨9, 2⟩ : S50)] : List (S50)))).bind fun t324 => (some t324)) else (none))))) else (none)) = some r := H
 have A1 := am_ A10
 clear A10
 by_cases c2 : t287 = true
 ·subst c2
  have H1 : (if t293 = true then ((iov_Pieces.f k t288 t291 0 1).bind fun bt299 => ((gangwaylaw19_num.f bt299.2.1).bind fun t307 => (if t307 = 0 then ((gangwayref0_EqPieces.f k bt299.1 (([(⟨9, 2⟩ : S50)] : List (S50)))).bind fun t311 => (some t311)) else (none)))) else ((iov_Pieces.f k t288 t291 0 1).bind fun bt312 => ((gangwaylaw19_num.f bt312.2.1).bind fun t320 => (if t320 = 0 then ((gangwayref0_EqPieces.f k bt312.1 (([(⟨9, 2⟩ : S50)] : List (S50)))).bind fun t324 => (some t324)) else (none))))) = some r := by rw [if_pos rfl] at H; exact H
  clear H
  have H := H1
  clear H1
  by_cases c3 : t293 = true
  ·subst c3
   have H1 : ((iov_Pieces.f k t288 t291 0 1).bind fun bt299 => ((gangwaylaw19_num.f bt299.2.1).bind fun t307 => (if t307 = 0 then ((gangwayref0_EqPieces.f k bt299.1 (([(⟨9, 2⟩ : S50)] : List (S50)))).bind fun t311 => (some t311)) else (none)))) = some r := by rw [if_pos rfl] at H; exact H
   clear H
   have H := H1
   clear H1
   replace H := bm_ H
   obtain ⟨⟨t299, t302, t303, t306⟩, A40, H⟩ := H
   replace H : ((gangwaylaw19_num.f t302).bind fun t307 => (if t307 = 0 then ((gangwayref0_EqPieces.f k t299 (([(⟨9, 2⟩ : S50)] : List (S50)))).bind fun t311 => (some t311)) else (none))) = some r := H
   have A4 := am_ A40
   clear A40
   replace H := bm_ H
   obtain ⟨t307, A50, H⟩ := H
   replace H : (if t307 = 0 then ((gangwayref0_EqPieces.f k t299 (([(⟨9, 2⟩ : S50)] : List (S50)))).bind fun t311 => (some t311)) else (none)) = some r := H
   have A5 := am_ A50
   clear A50
   by_cases c6 : t307 = 0
   ·rw [if_pos c6] at H
    have c6b0 : (t307 == 0) = true := beq_iff_eq.mpr c6
    have c6b1 : (t307 != 0) = false := bne_eq_false_iff_eq.mpr c6
    clear c6
    obtain ⟨y308, hy308⟩ : ∃ y_ : List (S50), y_ = (([(⟨9, 2⟩ : S50)] : List (S50))) := ⟨_, rfl⟩
    replace H : ((gangwayref0_EqPieces.f k t299 y308).bind fun t311 => (some t311)) = some r := by first | (rw [hy308]; with_reducible exact H) | (have H2_ := (Option.bind_some _ _).symm.trans H; rw [hy308]; with_reducible exact H2_) | (have H2_ := (Option.bind_some _ _).symm.trans H; with_reducible exact H2_) | with_reducible exact H | (rw [hy308]; exact H) | exact H
    have Ny308 := am_ hy308
    clear hy308
    replace H := bm_ H
    obtain ⟨t311, A70, H⟩ := H
    replace H : (some t311) = some r := H
    have A7 := am_ A70
    clear A70
    obtain rfl := Option.some.inj H
    go_enter Try.func20, Try.ntmps20
    go_wp2_with (first | ((with_reducible refine gate_dst (N := 6) rfl ?_); (try (refine gate_guard (by rfl) ?_; dsimp only)); refine Kd.R_lit (Kd.int .u8) _ 5 ?hg (N := 6) ?hd (xs := ([9, 0, 0, 0, 2, 0, 0, 0] : List Int)) (inner := [.int .u8 9, .int .u8 0, .int .u8 0, .int .u8 0, .int .u8 2, .int .u8 0, .int .u8 0, .int .u8 0]) (ok := fun _ => True) (okp := fun _ => True) ?hr ?hp (fun _ hk => hk) trivial (Below.refl _ _) (Nat.le_refl _) (by simp) ?_; (case hd => rfl); (case hg => rfl); (case hr => first | (go_simp; done) | (go_simp; rfl)); (case hp => exact (Reps.one (show Kd.M (Kd.int .u8) _ _ _ 9 [.int .u8 9] from rfl) (Reps.one (show Kd.M (Kd.int .u8) _ _ _ 0 [.int .u8 0] from rfl) (Reps.one (show Kd.M (Kd.int .u8) _ _ _ 0 [.int .u8 0] from rfl) (Reps.one (show Kd.M (Kd.int .u8) _ _ _ 0 [.int .u8 0] from rfl) (Reps.one (show Kd.M (Kd.int .u8) _ _ _ 2 [.int .u8 2] from rfl) (Reps.one (show Kd.M (Kd.int .u8) _ _ _ 0 [.int .u8 0] from rfl) (Reps.one (show Kd.M (Kd.int .u8) _ _ _ 0 [.int .u8 0] from rfl) (Reps.one (show Kd.M (Kd.int .u8) _ _ _ 0 [.int .u8 0] from rfl) (Reps.none _ _)))))))))); intro v285 w8 ho9 hb hg_ hnew_; clear hg_ hnew_; (first | rw [← Ny284.out] at ho9 | (simp only [Int.reduceToNat] at ho9; rw [← Ny284.out] at ho9)); have n0_ := am_ (Kd.R_lower ho9 (below_size aa_0)); have n1_ := am_ (below_step aa_0 hb); clear HB; have HO286 := n0_; have HB := n1_; clear n0_ n1_; clear hb ho9; obtain ⟨Ao10, co10, eo10⟩ := Kd.R_slice HO286.out; subst eo10) | ((with_reducible refine gate_callee (f := 6) rfl ?_); refine goesL_ (some 7) rfl rfl Try.func6 (by kernel_rfl) rfl #[.slice Ao10 y284.length co10] rfl aa_2 ?_; (with_reducible refine (gangwaylaw19_Both.calls k _ _ y284 true t288 t291 true t294 t297 _ ?side1 ?side2 A1.out).mono ?_); (case side1 => exact aa_3); (case side2 => exact (Kd.R_reads' HO286.out).2.1); rintro e w11 ⟨v289, v295, pz292, pz298, rfl, ho0, ho1, hz292, hz298, hb⟩; refine ⟨_, rfl, ?_⟩; have n0_ := am_ (Kd.R_mono (Kd.R_told (Kd.R_told (Kd.R_old aa_1 hb) (Kd.R_base ho0)) (Kd.R_base ho1)) (fun _ h_ => h_.1)); have n1_ := am_ (Kd.R_lower (Kd.R_new' ho0 (Kd.R_lt aa_1)) (below_size aa_0)); have n2_ := am_ (Kd.R_lower (Kd.R_new' ho1 (Kd.R_lt aa_1)) (below_size aa_0)); have n3_ := am_ ((show (true = true → ∃ g_ : Nat, pz292 = .pointer (some ⟨g_, 0, none⟩) ∧ IsS72 w w11 g_ v289 t291) ∧ (true = false → pz292 = .pointer none) from ⟨fun h_ => (hz292.1 h_).elim fun g_ hg_ => ⟨g_, hg_.1, hg_.2.lower ((below_size aa_0))⟩, hz292.2⟩)); have n4_ := am_ ((show (true = true → ∃ g_ : Nat, pz298 = .pointer (some ⟨g_, 0, none⟩) ∧ IsS57 w w11 g_ v295 t297) ∧ (true = false → pz298 = .pointer none) from ⟨fun h_ => (hz298.1 h_).elim fun g_ hg_ => ⟨g_, hg_.1, hg_.2.lower ((below_size aa_0))⟩, hz298.2⟩)); have n5_ := am_ (below_step aa_0 hb); clear HO286; clear HB; have HO286 := n0_; have HO290 := n1_; have HO296 := n2_; have HZ292 := n3_; have HZ298 := n4_; have HB := n5_; clear n0_ n1_ n2_ n3_ n4_ n5_; (try clear hb); (try clear hb2); (try clear hk); (try clear hi); (try clear ho0); (try clear ho1); obtain ⟨g292, e_, hi_⟩ := HZ292.out.1 rfl; subst e_; have HI292 := am_ hi_; clear hi_ HZ292; obtain ⟨g298, e_, hi_⟩ := HZ298.out.1 rfl; subst e_; have HI298 := am_ hi_; clear hi_ HZ298; have NB292_298 := am_ (IsS72.ne_blk HI292.out HI298.out.1 (by decide)); have NB298_292 := am_ (Ne.symm NB292_298.out)) | ((with_reducible refine gate_callee (f := 7) rfl ?_); refine goesL_ (some 14) rfl rfl Try.func7 (by kernel_rfl) rfl #[.pointer (some ⟨g292, 0, none⟩), .int .i64 0, .int .i64 1] rfl aa_2 ?_; (with_reducible refine (iov_Pieces.calls k g292 (fun k_ => some k_ = (v289 : Value).ownBlock) v289 t288 t291 0 1 t299 t302 t303 t306 w _ ?side1 ?side2 ?side3 A4.out).mono ?_); (case side1 => exact aa_4); (case side2 => repeat (first | (with_reducible first | exact HB.out | apply below_alloc | apply pw_below_drewN | apply below_drew1 | refine below_set ?_ (IsS72.ge HI292.out) | refine below_set ?_ (IsS57.ge HI298.out)) | exact HB.out)); (case side3 => exact Kd.R_tight rfl HO290.out); rintro e w12 ⟨v300, v304, rfl, ho0, ho1, hi, hb, hkp⟩; refine ⟨_, rfl, ?_⟩; have n0_ := am_ (Kd.R_mono (ok' := fun k_ => some k_ ≠ (v295 : Value).ownBlock ∧ some k_ ≠ (v304 : Value).ownBlock) (Kd.R_keptB ((IsS72.apart HI292.out HO286.out (by decide))) hkp (fun k_ hk_ hs_ => Or.elim hs_ (fun hs_ => (hk_.1.1.2) hs_) (fun e_ => (hk_.2) e_))) (fun k_ hk_ => ⟨hk_.1.1.2, fun e_ => Or.elim (ho1.1 k_ e_.symm) (fun hs_ => hk_.2.1 (.inl hs_)) (fun hn_ => Nat.not_le.2 hk_.2.2 hn_)⟩)); have n1_ := am_ (Kd.R_mono (ok' := fun k_ => some k_ ≠ (.slice Ao10 y284.length co10 : Value).ownBlock ∧ some k_ ≠ (v304 : Value).ownBlock) (Kd.R_keptB ((IsS72.apart HI292.out HO296.out (by decide))) hkp (fun k_ hk_ hs_ => Or.elim hs_ (fun hs_ => (hk_.1.1) hs_) (fun e_ => (hk_.2) e_))) (fun k_ hk_ => ⟨hk_.1.1.2, fun e_ => Or.elim (ho1.1 k_ e_.symm) (fun hs_ => hk_.2.1 (.inl hs_)) (fun hn_ => Nat.not_le.2 hk_.2.2 hn_)⟩)); have n2_ := am_ (hi); have n3_ := am_ (IsS57.kept (by repeat (first | (with_reducible first | exact HI298.out | apply IsS57.alloc | apply IsS57.drewN | apply IsS57.drew | apply IsS57.set_0 | apply IsS57.set_1) | exact HI298.out)) hkp (fun hs_ => Or.elim hs_ (fun hs_ => (fun e_ => (IsS57.own_ne HI298.out HO290.out (by decide)) e_) hs_) (fun e_ => NB298_292.out e_))); have n4_ := am_ (Kd.R_mono (ok' := fun k_ => True) ho0 (fun k_ hk_ => trivial)); have n5_ := am_ (Kd.R_mono (ok' := fun k_ => some k_ ≠ (.slice Ao10 y284.length co10 : Value).ownBlock ∧ some k_ ≠ (v295 : Value).ownBlock) ho1 (fun k_ hk_ => ⟨Or.elim hk_ (fun hs_ => fun e_ => ((((IsS72.apart HI292.out HO286.out (by decide))).1 k_ e_.symm).1.1.2) hs_) (fun hn_ => (Kd.fresh' (Kd.R_lt aa_1) k_ hn_)), Or.elim hk_ (fun hs_ => fun e_ => ((((IsS72.apart HI292.out HO296.out (by decide))).1 k_ e_.symm).1.1) hs_) (fun hn_ => (Kd.fresh' (Kd.R_lt (by (with_reducible repeat (first | apply Kd.R_alloc | apply Kd.R_drewN | apply Kd.R_drew)); exact HO296.out)) k_ hn_))⟩)); have n6_ := am_ (hb); clear HO286; clear HO296; clear HI292; clear HI298; clear HB; clear HO290; have HO286 := n0_; have HO296 := n1_; have HI292 := n2_; have HI298 := n3_; have HO301 := n4_; have HO305 := n5_; have HB := n6_; clear n0_ n1_ n2_ n3_ n4_ n5_ n6_; (try clear hb); (try clear hkp); (try clear ho0); (try clear ho1)) | ((with_reducible refine gate_callee (f := 9) rfl ?_); refine goesL_ (some 18) rfl rfl Try.func9 (by kernel_rfl) rfl #[.int .i64 t302] rfl aa_2 ?_; (with_reducible refine (gangwaylaw19_num.calls t302 t307 _ A5.out).mono ?_); rintro e w' ⟨rfl, ⟨nd, rfl⟩⟩; refine ⟨_, rfl, ?_⟩) | ((with_reducible refine gate_dst (N := 23) rfl ?_); (try (refine gate_guard (by rfl) ?_; dsimp only)); refine Kd.R_lit k50 _ 50 ?hg (N := 23) ?hd (xs := ([(⟨9, 2⟩ : S50)] : List (S50))) (inner := [.int .i64 9, .int .i64 2]) (ok := fun _ => True) (okp := fun _ => True) ?hr ?hp (fun _ hk => hk) trivial (Below.refl _ _) (Nat.le_refl _) (by simp) ?_; (case hd => rfl); (case hg => rfl); (case hr => first | (go_simp; done) | (go_simp; rfl)); (case hp => exact (Reps.c2 (show Kd.M k50 _ _ _ (⟨9, 2⟩ : S50) [.int .i64 9, .int .i64 2] from (k50_mkM _ _ _ (⟨9, 2⟩ : S50) )) (Reps.none _ _))); intro v309 w13 ho14 hb hg_ hnew_; clear hg_ hnew_; (first | rw [← Ny308.out] at ho14 | (simp only [Int.reduceToNat] at ho14; rw [← Ny308.out] at ho14)); have n0_ := am_ (Kd.R_below aa_1 hb); have n1_ := am_ (Kd.R_below (by (with_reducible repeat (first | apply Kd.R_alloc | apply Kd.R_drewN | apply Kd.R_drew)); exact HO296.out) hb); have n2_ := am_ (Kd.R_elder' (by (with_reducible repeat (first | apply Kd.R_alloc | apply Kd.R_drewN | apply Kd.R_drew)); exact HO301.out) (Kd.R_base ho14) hb); have n3_ := am_ (Kd.R_below (by (with_reducible repeat (first | apply Kd.R_alloc | apply Kd.R_drewN | apply Kd.R_drew)); exact HO305.out) hb); have n4_ := am_ (Kd.R_lower (Kd.R_new' ho14 (Kd.R_lt (by (with_reducible repeat (first | apply Kd.R_alloc | apply Kd.R_drewN | apply Kd.R_drew)); exact HO301.out))) (below_size (by repeat (first | (with_reducible first | exact HB.out | apply below_alloc | apply pw_below_drewN | apply below_drew1 | refine below_set ?_ (IsS72.ge HI292.out) | refine below_set ?_ (IsS57.ge HI298.out)) | exact HB.out)))); have n5_ := am_ (IsS72.below (by repeat (first | (with_reducible first | exact HI292.out | apply IsS72.alloc | apply IsS72.drewN | apply IsS72.drew | apply IsS72.set_0 | apply IsS72.set_1) | exact HI292.out)) hb); have n6_ := am_ (IsS57.below (by repeat (first | (with_reducible first | exact HI298.out | apply IsS57.alloc | apply IsS57.drewN | apply IsS57.drew | apply IsS57.set_0 | apply IsS57.set_1) | exact HI298.out)) hb); have n7_ := am_ (below_step (by repeat (first | (with_reducible first | exact HB.out | apply below_alloc | apply pw_below_drewN | apply below_drew1 | refine below_set ?_ (IsS72.ge HI292.out) | refine below_set ?_ (IsS57.ge HI298.out)) | exact HB.out)) hb); clear HO286; clear HO296; clear HO301; clear HO305; clear HI292; clear HI298; clear HB; have HO286 := n0_; have HO296 := n1_; have HO301 := n2_; have HO305 := n3_; have HO310 := n4_; have HI292 := n5_; have HI298 := n6_; have HB := n7_; clear n0_ n1_ n2_ n3_ n4_ n5_ n6_ n7_; clear hb ho14; obtain ⟨Ao15, co15, eo15⟩ := Kd.R_slice HO301.out; subst eo15; obtain ⟨Ao16, co16, eo16⟩ := Kd.R_slice HO310.out; subst eo16) | (go_at_call 10; (with_reducible refine (gangwayref0_EqPieces.calls k _ _ t299 _ _ y308 t311 _ ?side1 ?side2 ?side3 ?side4 A7.out).mono ?_); (case side1 => repeat (first | exact (Kd.R_reads' HO301.out).2.2 | (with_reducible refine Kd.C_alloc ?_ _) | (with_reducible refine Kd.C_drewN ?_ _) | (with_reducible refine Kd.C_drew ?_))); (case side2 => exact (Kd.R_reads' HO301.out).2.1); (case side3 => repeat (first | exact (Kd.R_reads' HO310.out).2.2 | (with_reducible refine Kd.C_alloc ?_ _) | (with_reducible refine Kd.C_drewN ?_ _) | (with_reducible refine Kd.C_drew ?_))); (case side4 => exact (Kd.R_reads' HO310.out).2.1); rintro e w' ⟨rfl, ⟨nd, rfl⟩⟩))
    go_ret
    exact ⟨by first | rfl | (simp [errW_none, errW_some] <;> rfl) | (simp [*, errW_none, errW_some] <;> rfl), by repeat (first | (with_reducible first | exact HB.out | apply below_alloc | apply pw_below_drewN | apply below_drew1 | refine below_set ?_ (IsS72.ge HI292.out) | refine below_set ?_ (IsS57.ge HI298.out)) | exact HB.out)⟩
   ·rw [if_neg c6] at H
    exact absurd H (by simp)
  ·replace c3 := Bool.eq_false_iff.mpr c3
   subst c3
   have H1 : ((iov_Pieces.f k t288 t291 0 1).bind fun bt312 => ((gangwaylaw19_num.f bt312.2.1).bind fun t320 => (if t320 = 0 then ((gangwayref0_EqPieces.f k bt312.1 (([(⟨9, 2⟩ : S50)] : List (S50)))).bind fun t324 => (some t324)) else (none)))) = some r := by rw [if_neg (show ¬ (false = true) by decide)] at H; exact H
   clear H
   have H := H1
   clear H1
   replace H := bm_ H
   obtain ⟨⟨t312, t315, t316, t319⟩, A170, H⟩ := H
   replace H : ((gangwaylaw19_num.f t315).bind fun t320 => (if t320 = 0 then ((gangwayref0_EqPieces.f k t312 (([(⟨9, 2⟩ : S50)] : List (S50)))).bind fun t324 => (some t324)) else (none))) = some r := H
   have A17 := am_ A170
   clear A170
   replace H := bm_ H
   obtain ⟨t320, A180, H⟩ := H
   replace H : (if t320 = 0 then ((gangwayref0_EqPieces.f k t312 (([(⟨9, 2⟩ : S50)] : List (S50)))).bind fun t324 => (some t324)) else (none)) = some r := H
   have A18 := am_ A180
   clear A180
   by_cases c19 : t320 = 0
   ·rw [if_pos c19] at H
    have c19b0 : (t320 == 0) = true := beq_iff_eq.mpr c19
    have c19b1 : (t320 != 0) = false := bne_eq_false_iff_eq.mpr c19
    clear c19
    obtain ⟨y321, hy321⟩ : ∃ y_ : List (S50), y_ = (([(⟨9, 2⟩ : S50)] : List (S50))) := ⟨_, rfl⟩
    replace H : ((gangwayref0_EqPieces.f k t312 y321).bind fun t324 => (some t324)) = some r := by first | (rw [hy321]; with_reducible exact H) | (have H2_ := (Option.bind_some _ _).symm.trans H; rw [hy321]; with_reducible exact H2_) | (have H2_ := (Option.bind_some _ _).symm.trans H; with_reducible exact H2_) | with_reducible exact H | (rw [hy321]; exact H) | exact H
    have Ny321 := am_ hy321
    clear hy321
    replace H := bm_ H
    obtain ⟨t324, A200, H⟩ := H
    replace H : (some t324) = some r := H
    have A20 := am_ A200
    clear A200
    obtain rfl := Option.some.inj H
    go_enter Try.func20, Try.ntmps20
    go_wp2_with (first | ((with_reducible refine gate_dst (N := 6) rfl ?_); (try (refine gate_guard (by rfl) ?_; dsimp only)); refine Kd.R_lit (Kd.int .u8) _ 5 ?hg (N := 6) ?hd (xs := ([9, 0, 0, 0, 2, 0, 0, 0] : List Int)) (inner := [.int .u8 9, .int .u8 0, .int .u8 0, .int .u8 0, .int .u8 2, .int .u8 0, .int .u8 0, .int .u8 0]) (ok := fun _ => True) (okp := fun _ => True) ?hr ?hp (fun _ hk => hk) trivial (Below.refl _ _) (Nat.le_refl _) (by simp) ?_; (case hd => rfl); (case hg => rfl); (case hr => first | (go_simp; done) | (go_simp; rfl)); (case hp => exact (Reps.one (show Kd.M (Kd.int .u8) _ _ _ 9 [.int .u8 9] from rfl) (Reps.one (show Kd.M (Kd.int .u8) _ _ _ 0 [.int .u8 0] from rfl) (Reps.one (show Kd.M (Kd.int .u8) _ _ _ 0 [.int .u8 0] from rfl) (Reps.one (show Kd.M (Kd.int .u8) _ _ _ 0 [.int .u8 0] from rfl) (Reps.one (show Kd.M (Kd.int .u8) _ _ _ 2 [.int .u8 2] from rfl) (Reps.one (show Kd.M (Kd.int .u8) _ _ _ 0 [.int .u8 0] from rfl) (Reps.one (show Kd.M (Kd.int .u8) _ _ _ 0 [.int .u8 0] from rfl) (Reps.one (show Kd.M (Kd.int .u8) _ _ _ 0 [.int .u8 0] from rfl) (Reps.none _ _)))))))))); intro v285 w21 ho22 hb hg_ hnew_; clear hg_ hnew_; (first | rw [← Ny284.out] at ho22 | (simp only [Int.reduceToNat] at ho22; rw [← Ny284.out] at ho22)); have n0_ := am_ (Kd.R_lower ho22 (below_size aa_0)); have n1_ := am_ (below_step aa_0 hb); clear HB; have HO286 := n0_; have HB := n1_; clear n0_ n1_; clear hb ho22; obtain ⟨Ao23, co23, eo23⟩ := Kd.R_slice HO286.out; subst eo23) | ((with_reducible refine gate_callee (f := 6) rfl ?_); refine goesL_ (some 7) rfl rfl Try.func6 (by kernel_rfl) rfl #[.slice Ao23 y284.length co23] rfl aa_2 ?_; (with_reducible refine (gangwaylaw19_Both.calls k _ _ y284 true t288 t291 false t294 t297 _ ?side1 ?side2 A1.out).mono ?_); (case side1 => exact aa_3); (case side2 => exact (Kd.R_reads' HO286.out).2.1); rintro e w24 ⟨v289, v295, pz292, pz298, rfl, ho0, ho1, hz292, hz298, hb⟩; refine ⟨_, rfl, ?_⟩; have n0_ := am_ (Kd.R_mono (Kd.R_told (Kd.R_told (Kd.R_old aa_1 hb) (Kd.R_base ho0)) (Kd.R_base ho1)) (fun _ h_ => h_.1)); have n1_ := am_ (Kd.R_lower (Kd.R_new' ho0 (Kd.R_lt aa_1)) (below_size aa_0)); have n2_ := am_ (Kd.R_lower (Kd.R_new' ho1 (Kd.R_lt aa_1)) (below_size aa_0)); have n3_ := am_ ((show (true = true → ∃ g_ : Nat, pz292 = .pointer (some ⟨g_, 0, none⟩) ∧ IsS72 w w24 g_ v289 t291) ∧ (true = false → pz292 = .pointer none) from ⟨fun h_ => (hz292.1 h_).elim fun g_ hg_ => ⟨g_, hg_.1, hg_.2.lower ((below_size aa_0))⟩, hz292.2⟩)); have n4_ := am_ ((show (false = true → ∃ g_ : Nat, pz298 = .pointer (some ⟨g_, 0, none⟩) ∧ IsS57 w w24 g_ v295 t297) ∧ (false = false → pz298 = .pointer none) from ⟨fun h_ => (hz298.1 h_).elim fun g_ hg_ => ⟨g_, hg_.1, hg_.2.lower ((below_size aa_0))⟩, hz298.2⟩)); have n5_ := am_ (below_step aa_0 hb); clear HO286; clear HB; have HO286 := n0_; have HO290 := n1_; have HO296 := n2_; have HZ292 := n3_; have HZ298 := n4_; have HB := n5_; clear n0_ n1_ n2_ n3_ n4_ n5_; (try clear hb); (try clear hb2); (try clear hk); (try clear hi); (try clear ho0); (try clear ho1); obtain ⟨g292, e_, hi_⟩ := HZ292.out.1 rfl; subst e_; have HI292 := am_ hi_; clear hi_ HZ292; have e_ := HZ298.out.2 rfl; subst e_; clear HZ298) | ((with_reducible refine gate_callee (f := 7) rfl ?_); refine goesL_ (some 14) rfl rfl Try.func7 (by kernel_rfl) rfl #[.pointer (some ⟨g292, 0, none⟩), .int .i64 0, .int .i64 1] rfl aa_2 ?_; (with_reducible refine (iov_Pieces.calls k g292 (fun k_ => some k_ = (v289 : Value).ownBlock) v289 t288 t291 0 1 t312 t315 t316 t319 w _ ?side1 ?side2 ?side3 A17.out).mono ?_); (case side1 => exact aa_4); (case side2 => repeat (first | (with_reducible first | exact HB.out | apply below_alloc | apply pw_below_drewN | apply below_drew1 | refine below_set ?_ (IsS72.ge HI292.out)) | exact HB.out)); (case side3 => exact Kd.R_tight rfl HO290.out); rintro e w25 ⟨v313, v317, rfl, ho0, ho1, hi, hb, hkp⟩; refine ⟨_, rfl, ?_⟩; have n0_ := am_ (Kd.R_mono (ok' := fun k_ => some k_ ≠ (v295 : Value).ownBlock ∧ some k_ ≠ (v317 : Value).ownBlock) (Kd.R_keptB ((IsS72.apart HI292.out HO286.out (by decide))) hkp (fun k_ hk_ hs_ => Or.elim hs_ (fun hs_ => (hk_.1.1.2) hs_) (fun e_ => (hk_.2) e_))) (fun k_ hk_ => ⟨hk_.1.1.2, fun e_ => Or.elim (ho1.1 k_ e_.symm) (fun hs_ => hk_.2.1 (.inl hs_)) (fun hn_ => Nat.not_le.2 hk_.2.2 hn_)⟩)); have n1_ := am_ (Kd.R_mono (ok' := fun k_ => some k_ ≠ (.slice Ao23 y284.length co23 : Value).ownBlock ∧ some k_ ≠ (v317 : Value).ownBlock) (Kd.R_keptB ((IsS72.apart HI292.out HO296.out (by decide))) hkp (fun k_ hk_ hs_ => Or.elim hs_ (fun hs_ => (hk_.1.1) hs_) (fun e_ => (hk_.2) e_))) (fun k_ hk_ => ⟨hk_.1.1.2, fun e_ => Or.elim (ho1.1 k_ e_.symm) (fun hs_ => hk_.2.1 (.inl hs_)) (fun hn_ => Nat.not_le.2 hk_.2.2 hn_)⟩)); have n2_ := am_ (hi); have n3_ := am_ (Kd.R_mono (ok' := fun k_ => True) ho0 (fun k_ hk_ => trivial)); have n4_ := am_ (Kd.R_mono (ok' := fun k_ => some k_ ≠ (.slice Ao23 y284.length co23 : Value).ownBlock ∧ some k_ ≠ (v295 : Value).ownBlock) ho1 (fun k_ hk_ => ⟨Or.elim hk_ (fun hs_ => fun e_ => ((((IsS72.apart HI292.out HO286.out (by decide))).1 k_ e_.symm).1.1.2) hs_) (fun hn_ => (Kd.fresh' (Kd.R_lt aa_1) k_ hn_)), Or.elim hk_ (fun hs_ => fun e_ => ((((IsS72.apart HI292.out HO296.out (by decide))).1 k_ e_.symm).1.1) hs_) (fun hn_ => (Kd.fresh' (Kd.R_lt (by (with_reducible repeat (first | apply Kd.R_alloc | apply Kd.R_drewN | apply Kd.R_drew)); exact HO296.out)) k_ hn_))⟩)); have n5_ := am_ (hb); clear HO286; clear HO296; clear HI292; clear HB; clear HO290; have HO286 := n0_; have HO296 := n1_; have HI292 := n2_; have HO314 := n3_; have HO318 := n4_; have HB := n5_; clear n0_ n1_ n2_ n3_ n4_ n5_; (try clear hb); (try clear hkp); (try clear ho0); (try clear ho1)) | ((with_reducible refine gate_callee (f := 9) rfl ?_); refine goesL_ (some 18) rfl rfl Try.func9 (by kernel_rfl) rfl #[.int .i64 t315] rfl aa_2 ?_; (with_reducible refine (gangwaylaw19_num.calls t315 t320 _ A18.out).mono ?_); rintro e w' ⟨rfl, ⟨nd, rfl⟩⟩; refine ⟨_, rfl, ?_⟩) | ((with_reducible refine gate_dst (N := 23) rfl ?_); (try (refine gate_guard (by rfl) ?_; dsimp only)); refine Kd.R_lit k50 _ 50 ?hg (N := 23) ?hd (xs := ([(⟨9, 2⟩ : S50)] : List (S50))) (inner := [.int .i64 9, .int .i64 2]) (ok := fun _ => True) (okp := fun _ => True) ?hr ?hp (fun _ hk => hk) trivial (Below.refl _ _) (Nat.le_refl _) (by simp) ?_; (case hd => rfl); (case hg => rfl); (case hr => first | (go_simp; done) | (go_simp; rfl)); (case hp => exact (Reps.c2 (show Kd.M k50 _ _ _ (⟨9, 2⟩ : S50) [.int .i64 9, .int .i64 2] from (k50_mkM _ _ _ (⟨9, 2⟩ : S50) )) (Reps.none _ _))); intro v322 w26 ho27 hb hg_ hnew_; clear hg_ hnew_; (first | rw [← Ny321.out] at ho27 | (simp only [Int.reduceToNat] at ho27; rw [← Ny321.out] at ho27)); have n0_ := am_ (Kd.R_below aa_1 hb); have n1_ := am_ (Kd.R_below (by (with_reducible repeat (first | apply Kd.R_alloc | apply Kd.R_drewN | apply Kd.R_drew)); exact HO296.out) hb); have n2_ := am_ (Kd.R_elder' (by (with_reducible repeat (first | apply Kd.R_alloc | apply Kd.R_drewN | apply Kd.R_drew)); exact HO314.out) (Kd.R_base ho27) hb); have n3_ := am_ (Kd.R_below (by (with_reducible repeat (first | apply Kd.R_alloc | apply Kd.R_drewN | apply Kd.R_drew)); exact HO318.out) hb); have n4_ := am_ (Kd.R_lower (Kd.R_new' ho27 (Kd.R_lt (by (with_reducible repeat (first | apply Kd.R_alloc | apply Kd.R_drewN | apply Kd.R_drew)); exact HO314.out))) (below_size (by repeat (first | (with_reducible first | exact HB.out | apply below_alloc | apply pw_below_drewN | apply below_drew1 | refine below_set ?_ (IsS72.ge HI292.out)) | exact HB.out)))); have n5_ := am_ (IsS72.below (by repeat (first | (with_reducible first | exact HI292.out | apply IsS72.alloc | apply IsS72.drewN | apply IsS72.drew | apply IsS72.set_0 | apply IsS72.set_1) | exact HI292.out)) hb); have n6_ := am_ (below_step (by repeat (first | (with_reducible first | exact HB.out | apply below_alloc | apply pw_below_drewN | apply below_drew1 | refine below_set ?_ (IsS72.ge HI292.out)) | exact HB.out)) hb); clear HO286; clear HO296; clear HO314; clear HO318; clear HI292; clear HB; have HO286 := n0_; have HO296 := n1_; have HO314 := n2_; have HO318 := n3_; have HO323 := n4_; have HI292 := n5_; have HB := n6_; clear n0_ n1_ n2_ n3_ n4_ n5_ n6_; clear hb ho27; obtain ⟨Ao28, co28, eo28⟩ := Kd.R_slice HO314.out; subst eo28; obtain ⟨Ao29, co29, eo29⟩ := Kd.R_slice HO323.out; subst eo29) | (go_at_call 10; (with_reducible refine (gangwayref0_EqPieces.calls k _ _ t312 _ _ y321 t324 _ ?side1 ?side2 ?side3 ?side4 A20.out).mono ?_); (case side1 => repeat (first | exact (Kd.R_reads' HO314.out).2.2 | (with_reducible refine Kd.C_alloc ?_ _) | (with_reducible refine Kd.C_drewN ?_ _) | (with_reducible refine Kd.C_drew ?_))); (case side2 => exact (Kd.R_reads' HO314.out).2.1); (case side3 => repeat (first | exact (Kd.R_reads' HO323.out).2.2 | (with_reducible refine Kd.C_alloc ?_ _) | (with_reducible refine Kd.C_drewN ?_ _) | (with_reducible refine Kd.C_drew ?_))); (case side4 => exact (Kd.R_reads' HO323.out).2.1); rintro e w' ⟨rfl, ⟨nd, rfl⟩⟩))
    go_ret
    exact ⟨by first | rfl | (simp [errW_none, errW_some] <;> rfl) | (simp [*, errW_none, errW_some] <;> rfl), by repeat (first | (with_reducible first | exact HB.out | apply below_alloc | apply pw_below_drewN | apply below_drew1 | refine below_set ?_ (IsS72.ge HI292.out)) | exact HB.out)⟩
   ·rw [if_neg c19] at H
    exact absurd H (by simp)
 ·replace c2 := Bool.eq_false_iff.mpr c2
  subst c2
  have H1 : (none) = some r := by rw [if_neg (show ¬ (false = true) by decide)] at H; exact H
  clear H
  have H := H1
  clear H1
  exact absurd H (by simp)

end Go.Proofs.Ytdoaininjfbemaa.PAll
