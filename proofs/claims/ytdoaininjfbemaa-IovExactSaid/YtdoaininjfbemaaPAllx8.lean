/- Printed by a copy of the printer that was turned for this claim: functions as plain Lean functions, with proofs that their calls come to these; or words that such proofs use. -/
import Derived.Test.YtdoaininjfbemaaPAllx0
import Derived.Test.YtdoaininjfbemaaPAllx2
import Derived.Test.YtdoaininjfbemaaPAllx3
import Derived.Test.YtdoaininjfbemaaPAllx4
namespace Go.Proofs.Ytdoaininjfbemaa.PAll
open Go.RowKit Go.Proofs.YtdoaininjfbemaaW.PrintWords Go.Proofs.YtdoaininjfbemaaW.PrintLast Go.Proofs.YtdoaininjfbemaaW.PrintMore
attribute [local go_sem] max2_int min2_int max_two min_two max_three min_three max_four min_four   -- for this text's walks alone
set_option linter.unusedVariables false
set_option linter.unusedSimpArgs false

/-! ### gangwayref0_EqBytes: function 13 -/
abbrev gangwayref0_EqBytes.t : Bool := true
abbrev gangwayref0_EqBytes.f_ : Bool := false
theorem gangwayref0_EqBytes.bc {w : World} {g : Nat} {cs : Array Value} {t : TypeId} (h : Aside0 (w.heap[g]? = some (.cells cs t (0, 0)))) (i : Nat) {v : Value} (e : cs[i]? = some v := by rfl) : w.cell? ⟨g, i, none⟩ = some v := (blk_cell h.out i).trans e
theorem gangwayref0_EqBytes.bkept {W0 W W2 : World} {g : Nat} {o : Obj} {S : Nat → Prop} (_b : Aside0 (W0.heap[g]? = some o)) (h : W.heap[g]? = some o) (hk : Kept W W2 S) (hn : ¬ S g) : W2.heap[g]? = some o := blk_kept h hk hn
theorem gangwayref0_EqBytes.bbelow {W0 w w1 : World} {g : Nat} {o : Obj} (_b : Aside0 (W0.heap[g]? = some o)) (h : w.heap[g]? = some o) (hb : Below w.heap.size w w1) : w1.heap[g]? = some o := blk_below h hb
theorem gangwayref0_EqBytes.e1 {α : Type _} (xs : List α) (i : Nat) (a : α) : xs.toArray.setIfInBounds i a = (xs.set i a).toArray := by simp
theorem gangwayref0_EqBytes.e2 {α : Type _} (x a : α) (xs : List α) : (x :: xs).set 0 a = a :: xs := rfl
theorem gangwayref0_EqBytes.e3 {α : Type _} (x a : α) (xs : List α) (n : Nat) : (x :: xs).set (n + 1) a = x :: xs.set n a := rfl
def gangwayref0_EqBytes.l0 : Nat → List Int → List Int → Int → Option (Bool)
 | 0, _, _, _ => none
 | k + 1, x0, x1, x5 => if x5 < (x0.length : Int) then (if 0 ≤ x5 then (if x5 < (x1.length : Int) then (if (rd x0 x5) = (rd x1 x5) then (gangwayref0_EqBytes.l0 k x0 x1 (wrap64 (x5 + 1))) else (some false)) else (none)) else (none)) else (some true)
def gangwayref0_EqBytes.f (k : Nat) (l0 : List Int) (l1 : List Int) : Option (Bool) := if (l0.length : Int) = (l1.length : Int) then (gangwayref0_EqBytes.l0 k l0 l1 0) else (some false)
theorem gangwayref0_EqBytes.mono_l : ∀ k, (∀ y0 y1 y2, LeO (gangwayref0_EqBytes.l0 k y0 y1 y2) (gangwayref0_EqBytes.l0 (k + 1) y0 y1 y2))
 | 0 => fun _ _ _ r h => by simp [gangwayref0_EqBytes.l0] at h
 | k + 1 => by
  have ih0 := gangwayref0_EqBytes.mono_l k
  ·intro y0 y1 y2
   unfold gangwayref0_EqBytes.l0
   repeat' first
   | (with_reducible apply ih0)
   | (with_reducible exact LeO.refl _)
   | (with_reducible exact LeO.none _)
   | (with_reducible refine LeO.ite ?_ ?_)
   | (with_reducible refine LeO.bind ?_ (fun _ => ?_))
   | apply ih0
   | exact LeO.none _
   | refine LeO.ite ?_ ?_
   | refine LeO.bind ?_ (fun _ => ?_)
theorem gangwayref0_EqBytes.mono : ∀ a0 a1 k, LeO (gangwayref0_EqBytes.f k a0 a1) (gangwayref0_EqBytes.f (k + 1) a0 a1) := by
 intro a0 a1 k
 have ih0 := gangwayref0_EqBytes.mono_l k
 unfold gangwayref0_EqBytes.f
 repeat' first
   | (with_reducible apply ih0)
   | (with_reducible exact LeO.refl _)
   | (with_reducible exact LeO.none _)
   | (with_reducible refine LeO.ite ?_ ?_)
   | (with_reducible refine LeO.bind ?_ (fun _ => ?_))
   | apply ih0
   | exact LeO.none _
   | refine LeO.ite ?_ ?_
   | refine LeO.bind ?_ (fun _ => ?_)
theorem gangwayref0_EqBytes.am_ {p : Prop} (h : p) : Aside0 p := Aside0.mk h
theorem gangwayref0_EqBytes.bm_ {α β : Type _} {o : Option α} {f : α → Option β} {b : β} (h : o.bind f = some b) : ∃ a, o = some a ∧ f a = some b := Option.bind_eq_some_iff.mp h
set_option maxHeartbeats 8000000 in
set_option maxRecDepth 100000 in
theorem gangwayref0_EqBytes.calls (k : Nat) (A0 : Option Addr) (c0 : Nat) (l0 : List Int) (A1 : Option Addr) (c1 : Nat) (l1 : List Int) (r : Bool) (w : World) (hr0 : Kd.C (Kd.int .u8) w A0 l0.length l0) (hc0 : l0.length ≤ c0) (hr1 : Kd.C (Kd.int .u8) w A1 l1.length l1) (hc1 : l1.length ≤ c1) (h : gangwayref0_EqBytes.f k l0 l1 = some r) :
  Calls Try.prog 13 #[.slice A0 l0.length c0, .slice A1 l1.length c1] w fun e w' => e = .returned (.bool r) ∧ Drawn0 w w' := by
 have HR0 := am_ hr0
 have HC0 := am_ hc0
 clear hr0 hc0
 have HR1 := am_ hr1
 have HC1 := am_ hc1
 clear hr1 hc1
 have H : (if (l0.length : Int) = (l1.length : Int) then (gangwayref0_EqBytes.l0 k l0 l1 0) else (some false)) = some r := h
 clear h
 by_cases c3 : (l0.length : Int) = (l1.length : Int)
 ·rw [if_pos c3] at H
  have c3b0 : ((l0.length : Int) == (l1.length : Int)) = true := beq_iff_eq.mpr c3
  have c3b1 : ((l0.length : Int) != (l1.length : Int)) = false := bne_eq_false_iff_eq.mpr c3
  have c3b2 : (l0.length == l1.length) = true := by first | simpa using c3 | (simp at c3 ⊢; omega)
  clear c3
  have H' := am_ H
  clear H
  go_enter Try.func13, Try.ntmps13
  go_wp2
  repeat (go_quiet (fail); try go_wp2)
  go_loopg [5] k (fun kq v5 w' => ∃ (x5_1 : Int), v5 = .int .i64 x5_1 ∧ Aside0 (gangwayref0_EqBytes.l0 kq l0 l1 x5_1 = some r) ∧ Aside0 (kq ≤ k) ∧ Drawn0 w w')
  case atStart => exact ⟨(0), (by first | rfl | (simp; done) | (simp [*]; done)), H', ⟨Nat.le_refl _⟩, by repeat (first | exact Drawn0.refl _ | apply Drawn0.step)⟩
  case round =>
   clear H'
   try clear c1
   try clear p2
   try clear c3
   try clear c3b0
   try clear c3b1
   try clear c3b2
   obtain ⟨x5_1, rfl, HA, HK1, ⟨m1, rfl⟩⟩ := hrel
   cases gk with
   | zero => exact absurd HA.out (by simp [gangwayref0_EqBytes.l0])
   | succ k1 =>
    have H := HA.out
    clear HA
    simp only [gangwayref0_EqBytes.l0] at H
    by_cases c4 : x5_1 < (l0.length : Int)
    ·rw [if_pos c4] at H
     have c4b0 : decide (x5_1 < (l0.length : Int)) = true := decide_eq_true c4
     clear c4
     by_cases c5 : 0 ≤ x5_1
     ·rw [if_pos c5] at H
      have c5b0 : decide (0 ≤ x5_1) = true := decide_eq_true c5
      clear c5
      by_cases c6 : x5_1 < (l1.length : Int)
      ·rw [if_pos c6] at H
       have c6b0 : decide (x5_1 < (l1.length : Int)) = true := decide_eq_true c6
       clear c6
       by_cases c7 : (rd l0 x5_1) = (rd l1 x5_1)
       ·rw [if_pos c7] at H
        have c7b0 : ((rd l0 x5_1) == (rd l1 x5_1)) = true := beq_iff_eq.mpr c7
        have c7b1 : ((rd l0 x5_1) != (rd l1 x5_1)) = false := bne_eq_false_iff_eq.mpr c7
        clear c7
        have H' := am_ H
        clear H
        have p248 : 0 ≤ (x5_1 : Int) := of_decide_eq_true (by first | (with_reducible assumption) | assumption)
        have q248 : x5_1 < (l0.length : Int) := of_decide_eq_true (by first | (with_reducible assumption) | assumption)
        obtain ⟨ad248, e248, hx248_0⟩ := Kd.at_int HR0.out x5_1 p248 q248
        cases e248
        replace p248 := eq_true p248
        replace q248 := eq_true q248
        have p249 : 0 ≤ (x5_1 : Int) := of_decide_eq_true (by first | (with_reducible assumption) | assumption)
        have q249 : x5_1 < (l1.length : Int) := of_decide_eq_true (by first | (with_reducible assumption) | assumption)
        obtain ⟨ad249, e249, hx249_0⟩ := Kd.at_int HR1.out x5_1 p249 q249
        cases e249
        replace p249 := eq_true p249
        replace q249 := eq_true q249
        go_wp2
        repeat (go_quiet (fail); try go_wp2)
        go_roundg k1
        case measure => have := HK1.out; omega
        case rel => exact ⟨(wrap64 (x5_1 + 1)), (by first | rfl | (simp; done) | (simp [*]; done)), H', ⟨by have := HK1.out; omega⟩, by repeat (first | exact Drawn0.refl _ | apply Drawn0.step)⟩
       ·rw [if_neg c7] at H
        have c7b0 : ((rd l0 x5_1) == (rd l1 x5_1)) = false := beq_eq_false_iff_ne.mpr c7
        have c7b1 : ((rd l0 x5_1) != (rd l1 x5_1)) = true := bne_iff_ne.mpr c7
        obtain rfl := Option.some.inj H
        have p248 : 0 ≤ (x5_1 : Int) := of_decide_eq_true (by first | (with_reducible assumption) | assumption)
        have q248 : x5_1 < (l0.length : Int) := of_decide_eq_true (by first | (with_reducible assumption) | assumption)
        obtain ⟨ad248, e248, hx248_0⟩ := Kd.at_int HR0.out x5_1 p248 q248
        cases e248
        replace p248 := eq_true p248
        replace q248 := eq_true q248
        have p249 : 0 ≤ (x5_1 : Int) := of_decide_eq_true (by first | (with_reducible assumption) | assumption)
        have q249 : x5_1 < (l1.length : Int) := of_decide_eq_true (by first | (with_reducible assumption) | assumption)
        obtain ⟨ad249, e249, hx249_0⟩ := Kd.at_int HR1.out x5_1 p249 q249
        cases e249
        replace p249 := eq_true p249
        replace q249 := eq_true q249
        go_wp2
        repeat (go_quiet (fail); try go_wp2)
        go_ret
        exact ⟨by first | rfl | (simp; done) | (simp [*]; done), by repeat (first | exact Drawn0.refl _ | apply Drawn0.step)⟩
      ·rw [if_neg c6] at H
       exact absurd H (by simp)
     ·rw [if_neg c5] at H
      exact absurd H (by simp)
    ·rw [if_neg c4] at H
     have c4b0 : decide (x5_1 < (l0.length : Int)) = false := decide_eq_false c4
     clear c4
     obtain rfl := Option.some.inj H
     go_wp2
     repeat (go_quiet (fail); try go_wp2)
     go_ret
     exact ⟨by first | rfl | (simp; done) | (simp [*]; done), by repeat (first | exact Drawn0.refl _ | apply Drawn0.step)⟩
 ·rw [if_neg c3] at H
  have c3b0 : ((l0.length : Int) == (l1.length : Int)) = false := beq_eq_false_iff_ne.mpr c3
  have c3b1 : ((l0.length : Int) != (l1.length : Int)) = true := bne_iff_ne.mpr c3
  have c3b2 : (l0.length == l1.length) = false := by first | simpa using c3 | (simp at c3 ⊢; omega)
  obtain rfl := Option.some.inj H
  go_enter Try.func13, Try.ntmps13
  go_wp2
  repeat (go_quiet (fail); try go_wp2)
  go_ret
  exact ⟨by first | rfl | (simp; done) | (simp [*]; done), by repeat (first | exact Drawn0.refl _ | apply Drawn0.step)⟩

/-! ### gangwayref20_Gather: function 14 -/
abbrev gangwayref20_Gather.t : Bool := true
abbrev gangwayref20_Gather.f_ : Bool := false
def gangwayref20_Gather.bb0_ : Array Bool := #[t, t, t, t, t, t, t, t, t, t, t, t, t, t, t, t, t, t, t, t, t, t, t, t]
def gangwayref20_Gather.bb1_ : Array Bool := #[t, t, t, t, t, t, t, t, t, t, t, t, t, t, t, t, t, t, t, t, t, t, t, f_]
def gangwayref20_Gather.bb2_ : Array Bool := #[t, t, t, t, t, t, t, t, t, t, t, t, t, t, t, t, t, t, t, t, t, t, f_, f_]
def gangwayref20_Gather.bb3_ : Array Bool := #[t, t, t, t, t, t, t, t, t, t, t, t, t, t, t, t, t, t, t, t, t, f_, f_, f_]
def gangwayref20_Gather.bb4_ : Array Bool := #[t, t, t, t, t, t, t, t, t, t, t, t, t, t, t, t, t, t, t, t, f_, f_, f_, f_]
def gangwayref20_Gather.bb5_ : Array Bool := #[t, t, t, t, t, t, t, t, t, t, t, t, t, t, t, t, t, t, t, f_, f_, f_, f_, f_]
def gangwayref20_Gather.bb6_ : Array Bool := #[t, t, t, t, t, t, t, t, t, t, t, t, t, t, f_, t, t, t, t, f_, f_, f_, f_, f_]
def gangwayref20_Gather.bb7_ : Array Bool := #[t, t, t, t, t, t, t, t, t, f_, t, t, t, t, f_, t, t, t, t, f_, f_, f_, f_, f_]
def gangwayref20_Gather.bb8_ : Array Bool := #[t, t, t, t, f_, t, t, t, t, f_, t, t, t, t, f_, t, t, t, t, f_, f_, f_, f_, f_]
def gangwayref20_Gather.bb9_ : Array Bool := #[t, t, t, t, f_, t, t, t, t, f_, t, t, t, t, f_, t, t, t, f_, f_, f_, f_, f_, f_]
def gangwayref20_Gather.bb10_ : Array Bool := #[t, t, t, t, f_, t, t, t, t, f_, t, t, t, t, f_, t, t, f_, f_, f_, f_, f_, f_, f_]
def gangwayref20_Gather.bb11_ : Array Bool := #[t, t, t, t, f_, t, t, t, t, f_, t, t, t, t, f_, t, f_, f_, f_, f_, f_, f_, f_, f_]
def gangwayref20_Gather.bb12_ : Array Bool := #[t, t, t, t, f_, t, t, t, t, f_, t, t, t, t, f_, f_, f_, f_, f_, f_, f_, f_, f_, f_]
def gangwayref20_Gather.bb13_ : Array Bool := #[t, t, t, t, f_, t, t, t, t, f_, t, t, t, f_, f_, f_, f_, f_, f_, f_, f_, f_, f_, f_]
def gangwayref20_Gather.bb14_ : Array Bool := #[t, t, t, t, f_, t, t, t, t, f_, t, t, f_, f_, f_, f_, f_, f_, f_, f_, f_, f_, f_, f_]
def gangwayref20_Gather.bb15_ : Array Bool := #[t, t, t, t, f_, t, t, t, t, f_, t, f_, f_, f_, f_, f_, f_, f_, f_, f_, f_, f_, f_, f_]
def gangwayref20_Gather.bb16_ : Array Bool := #[t, t, t, t, f_, t, t, t, t, f_, f_, f_, f_, f_, f_, f_, f_, f_, f_, f_, f_, f_, f_, f_]
def gangwayref20_Gather.bb17_ : Array Bool := #[t, t, t, t, f_, t, t, t, f_, f_, f_, f_, f_, f_, f_, f_, f_, f_, f_, f_, f_, f_, f_, f_]
def gangwayref20_Gather.bb18_ : Array Bool := #[t, t, t, t, f_, t, t, f_, f_, f_, f_, f_, f_, f_, f_, f_, f_, f_, f_, f_, f_, f_, f_, f_]
def gangwayref20_Gather.bb19_ : Array Bool := #[t, t, t, t, f_, t, f_, f_, f_, f_, f_, f_, f_, f_, f_, f_, f_, f_, f_, f_, f_, f_, f_, f_]
def gangwayref20_Gather.bb20_ : Array Bool := #[t, t, t, t, f_, f_, f_, f_, f_, f_, f_, f_, f_, f_, f_, f_, f_, f_, f_, f_, f_, f_, f_, f_]
def gangwayref20_Gather.bb21_ : Array Bool := #[t, t, t, f_, f_, f_, f_, f_, f_, f_, f_, f_, f_, f_, f_, f_, f_, f_, f_, f_, f_, f_, f_, f_]
def gangwayref20_Gather.bb22_ : Array Bool := #[t, t, f_, f_, f_, f_, f_, f_, f_, f_, f_, f_, f_, f_, f_, f_, f_, f_, f_, f_, f_, f_, f_, f_]
def gangwayref20_Gather.bb23_ : Array Bool := #[t, f_, f_, f_, f_, f_, f_, f_, f_, f_, f_, f_, f_, f_, f_, f_, f_, f_, f_, f_, f_, f_, f_, f_]
def gangwayref20_Gather.bb24_ : Array Bool := #[f_, f_, f_, f_, f_, f_, f_, f_, f_, f_, f_, f_, f_, f_, f_, f_, f_, f_, f_, f_, f_, f_, f_, f_]
theorem gangwayref20_Gather.bc {w : World} {g : Nat} {cs : Array Value} {t : TypeId} (h : Aside0 (w.heap[g]? = some (.cells cs t (0, 0)))) (i : Nat) {v : Value} (e : cs[i]? = some v := by rfl) : w.cell? ⟨g, i, none⟩ = some v := (blk_cell h.out i).trans e
theorem gangwayref20_Gather.bkept {W0 W W2 : World} {g : Nat} {o : Obj} {S : Nat → Prop} (_b : Aside0 (W0.heap[g]? = some o)) (h : W.heap[g]? = some o) (hk : Kept W W2 S) (hn : ¬ S g) : W2.heap[g]? = some o := blk_kept h hk hn
theorem gangwayref20_Gather.bbelow {W0 w w1 : World} {g : Nat} {o : Obj} (_b : Aside0 (W0.heap[g]? = some o)) (h : w.heap[g]? = some o) (hb : Below w.heap.size w w1) : w1.heap[g]? = some o := blk_below h hb
theorem gangwayref20_Gather.e1 {α : Type _} (xs : List α) (i : Nat) (a : α) : xs.toArray.setIfInBounds i a = (xs.set i a).toArray := by simp
theorem gangwayref20_Gather.e2 {α : Type _} (x a : α) (xs : List α) : (x :: xs).set 0 a = a :: xs := rfl
theorem gangwayref20_Gather.e3 {α : Type _} (x a : α) (xs : List α) (n : Nat) : (x :: xs).set (n + 1) a = x :: xs.set n a := rfl
def gangwayref20_Gather.l0 : Nat → List (S50) → List Int → Int → List Int → Int → Option (List Int × List Int × Int)
 | 0, _, _, _, _, _ => none
 | k + 1, x1, x5, x6, x1000, x1001 => if x6 < (x1.length : Int) then (if 0 ≤ x6 then (if 0 ≤ ((rd_T50 x1 x6).f0) then (if ((rd_T50 x1 x6).f0) ≤ (wrap64 (((rd_T50 x1 x6).f0) + ((rd_T50 x1 x6).f1))) then (if (wrap64 (((rd_T50 x1 x6).f0) + ((rd_T50 x1 x6).f1))) ≤ (x1000.length : Int) then ((some ((x1000.take ((wrap64 (((rd_T50 x1 x6).f0) + ((rd_T50 x1 x6).f1))) : Int).toNat).drop (((rd_T50 x1 x6).f0) : Int).toNat : List Int)).bind fun y253 => (if x5.length + y253.length < 140737488355328 then (gangwayref20_Gather.l0 k x1 (x5 ++ y253) (wrap64 (x6 + 1)) x1000 x1001) else (none))) else (none)) else (none)) else (none)) else (none)) else (some (x5, x1000, x1001))
def gangwayref20_Gather.f (k : Nat) (l0_0 : List Int) (s0_1 : Int) (l1 : List (S50)) : Option (List Int × List Int × Int) := gangwayref20_Gather.l0 k l1 ([] : List Int) 0 l0_0 s0_1
theorem gangwayref20_Gather.mono_l : ∀ k, (∀ y0 y1 y2 y3 y4, LeO (gangwayref20_Gather.l0 k y0 y1 y2 y3 y4) (gangwayref20_Gather.l0 (k + 1) y0 y1 y2 y3 y4))
 | 0 => fun _ _ _ _ _ r h => by simp [gangwayref20_Gather.l0] at h
 | k + 1 => by
  have ih0 := gangwayref20_Gather.mono_l k
  ·intro y0 y1 y2 y3 y4
   unfold gangwayref20_Gather.l0
   repeat' first
   | (with_reducible apply ih0)
   | (with_reducible exact LeO.refl _)
   | (with_reducible exact LeO.none _)
   | (with_reducible refine LeO.ite ?_ ?_)
   | (with_reducible refine LeO.bind ?_ (fun _ => ?_))
   | apply ih0
   | exact LeO.none _
   | refine LeO.ite ?_ ?_
   | refine LeO.bind ?_ (fun _ => ?_)
theorem gangwayref20_Gather.mono : ∀ a0 a1 a2 k, LeO (gangwayref20_Gather.f k a0 a1 a2) (gangwayref20_Gather.f (k + 1) a0 a1 a2) := by
 intro a0 a1 a2 k
 have ih0 := gangwayref20_Gather.mono_l k
 unfold gangwayref20_Gather.f
 repeat' first
   | (with_reducible apply ih0)
   | (with_reducible exact LeO.refl _)
   | (with_reducible exact LeO.none _)
   | (with_reducible refine LeO.ite ?_ ?_)
   | (with_reducible refine LeO.bind ?_ (fun _ => ?_))
   | apply ih0
   | exact LeO.none _
   | refine LeO.ite ?_ ?_
   | refine LeO.bind ?_ (fun _ => ?_)
def gangwayref20_Gather.T5 : Bool × List (List Nat × List Nat) := (true, [([], []), ([], []), ([1], [1]), ([2], [2]), ([3], [3]), ([], []), ([], []), ([5, 6], [5, 6]), ([7], [7]), ([8], [8]), ([], []), ([], []), ([10, 11], [10, 11]), ([12], [12]), ([13], [13]), ([], []), ([], []), ([15, 16], [15, 16]), ([17], [17]), ([18], [18]), ([14, 19], [14, 19]), ([4, 9, 20], [4, 9, 20]), ([0, 21], [0, 21]), ([22, 22, 0, 1, 2, 3, 4, 5, 6, 7, 8, 9, 10, 11, 12, 13, 14, 15, 16, 17, 18, 19, 20, 21, 22], [0, 22])])
def gangwayref20_Gather.B5 : List Nat := [0, 0, 2, 6, 14, 0, 0, 96, 224, 480, 0, 0, 3072, 7168, 15360, 0, 0, 98304, 229376, 491520, 1047552, 2097150, 4194303, 8388607]
theorem gangwayref20_Gather.tab5 : rtab .any (opsOf Try.f14 5) = gangwayref20_Gather.T5 := by kernel_rfl
theorem gangwayref20_Gather.bits5 : waitsOk gangwayref20_Gather.T5.2 gangwayref20_Gather.B5 = true := by kernel_rfl
theorem gangwayref20_Gather.aa_0 {p : Prop} (h : p := by first | (with_reducible assumption) | assumption) : p := h
theorem gangwayref20_Gather.aa_1 {p : Prop} (h : p := by repeat (first | (with_reducible first | exact HI0.out | apply IsS57.alloc | apply IsS57.drewN | apply IsS57.drew | apply IsS57.set_0 | apply IsS57.set_1) | exact HI0.out)) : p := h
theorem gangwayref20_Gather.aa_2 {p : Prop} (h : p := by repeat (first | (with_reducible first | exact HK.out | apply Kept.alloc | apply Kept.drewN | apply Kept.drew | refine Kept.setCell ?_ (.inl (.inr rfl)) _) | exact HK.out)) : p := h
theorem gangwayref20_Gather.aa_3 {p : Prop} (h : p := by repeat (first | (with_reducible first | exact HB.out | apply below_alloc | apply pw_below_drewN | apply below_drew1 | refine below_set ?_ (IsS57.ge HI0.out)) | exact HB.out)) : p := h
theorem gangwayref20_Gather.am_ {p : Prop} (h : p) : Aside0 p := Aside0.mk h
theorem gangwayref20_Gather.bm_ {α β : Type _} {o : Option α} {f : α → Option β} {b : β} (h : o.bind f = some b) : ∃ a, o = some a ∧ f a = some b := Option.bind_eq_some_iff.mp h
set_option maxHeartbeats 8000000 in
set_option maxRecDepth 100000 in
theorem gangwayref20_Gather.calls (k : Nat) (g : Nat) (P0_0_ : Nat → Prop) (u9000_ : Value) (l0_0 : List Int) (s0_1 : Int) (A1 : Option Addr) (c1 : Nat) (l1 : List (S50)) (r1 : List Int) (r2 : List Int) (r3 : Int) (w0 w : World) (hI : IsS57 w0 w g u9000_ s0_1) (hB : Below w0.heap.size w0 w) (ho0_0 : Kd.R (Kd.int .u8) 5 w w0.heap.size P0_0_ u9000_ l0_0) (hr1 : ∀ W_, Kept w W_ (fun k_ => (P0_0_ k_) ∨ k_ = g) → Kd.C k50 W_ A1 l1.length l1) (hc1 : l1.length ≤ c1) (h : gangwayref20_Gather.f k l0_0 s0_1 l1 = some (r1, r2, r3)) :
  Calls Try.prog 14 #[.pointer (some ⟨g, 0, none⟩), .slice A1 l1.length c1] w fun e w' => ∃ v0_ v1_ : Value, e = .returned (v0_) ∧ Kd.R (Kd.int .u8) 5 w' w0.heap.size (fun k_ => (P0_0_ k_ ∨ w.heap.size ≤ k_) ∧ some k_ ≠ (v1_ : Value).ownBlock) v0_ r1 ∧ Kd.R (Kd.int .u8) 5 w' w0.heap.size (fun k_ => (P0_0_ k_ ∨ w.heap.size ≤ k_) ∧ some k_ ≠ (v0_ : Value).ownBlock) v1_ r2 ∧ IsS57 w0 w' g v1_ r3 ∧ Below w0.heap.size w0 w' ∧ Kept w w' (fun k_ => (P0_0_ k_) ∨ k_ = g) := by
 have HO0_0 := am_ (show Kd.R (Kd.int .u8) 5 w w0.heap.size (fun k_ => (P0_0_ k_ ∨ w.heap.size ≤ k_)) u9000_ l0_0 from Kd.R_mono ho0_0 (fun k_ hk => (.inl hk)))
 have HR1 := am_ hr1
 have HC1 := am_ hc1
 clear hr1 hc1
 have HI0 := am_ hI
 have HL := am_ hB.size
 clear hI
 have HK := am_ (Kept.refl w (fun k_ => (P0_0_ k_) ∨ k_ = g))
 have HW0 := am_ hB.size
 have HB := am_ hB
 clear hB
 have H : (gangwayref20_Gather.l0 k l1 ([] : List Int) 0 l0_0 s0_1) = some (r1, r2, r3) := h
 clear h
 have H' := am_ H
 clear H
 go_enter Try.func14, Try.ntmps14
 go_wp2
 go_loopg [5, 6] k (fun kq v5 v6 w' => ∃ (x5_1 : List Int) (x6_1 : Int), v6 = .int .i64 x6_1 ∧ Aside0 (gangwayref20_Gather.l0 kq l1 x5_1 x6_1 l0_0 s0_1 = some (r1, r2, r3)) ∧ Aside0 (kq ≤ k) ∧ Aside0 (Kd.R (Kd.int .u8) 5 w' w0.heap.size (fun k_ => (P0_0_ k_ ∨ w.heap.size ≤ k_) ∧ some k_ ≠ (u9000_ : Value).ownBlock) v5 x5_1) ∧ Aside0 (Kd.R (Kd.int .u8) 5 w' w0.heap.size (fun k_ => (P0_0_ k_ ∨ w.heap.size ≤ k_) ∧ some k_ ≠ (v5 : Value).ownBlock) u9000_ l0_0) ∧ Aside0 (IsS57 w0 w' g u9000_ s0_1) ∧ Aside0 (Kept w w' (fun k_ => (P0_0_ k_) ∨ k_ = g)) ∧ Aside0 (Below w0.heap.size w0 w'))
 case atStart => exact ⟨(([] : List Int)), (0), (by first | rfl | (simp; done) | (simp [*]; done)), H', ⟨Nat.le_refl _⟩, ⟨by first | exact Kd.R_nil _ _ _ _ _ | exact Kd.N_nil _ _ _ _ _ | exact Kd.V_nil _ _ _ _ _ | exact Kd.Q_nil _ _ _ _ _ | exact Kd.S_nil _ _ _ _ _⟩, ⟨by (with_reducible repeat (first | apply Kd.R_alloc | apply Kd.R_drewN | apply Kd.R_drew)); exact Kd.R_mono HO0_0.out (fun _ hk => ⟨hk, (by simp [Value.ownBlock])⟩)⟩, ⟨aa_1⟩, ⟨aa_2⟩, ⟨aa_3⟩⟩
 case round =>
  clear H'
  try clear c1
  try clear p2
  obtain ⟨x5_1, x6_1, rfl, HA, HK1, HO_5, HO_1000, HI0, HK, HB⟩ := hrel
  cases gk with
  | zero => exact absurd HA.out (by simp [gangwayref20_Gather.l0])
  | succ k1 =>
   have H := HA.out
   clear HA
   simp only [gangwayref20_Gather.l0] at H
   by_cases c3 : x6_1 < (l1.length : Int)
   ·rw [if_pos c3] at H
    have c3b0 : decide (x6_1 < (l1.length : Int)) = true := decide_eq_true c3
    clear c3
    by_cases c4 : 0 ≤ x6_1
    ·rw [if_pos c4] at H
     have c4b0 : decide (0 ≤ x6_1) = true := decide_eq_true c4
     clear c4
     by_cases c5 : 0 ≤ ((rd_T50 l1 x6_1).f0)
     ·rw [if_pos c5] at H
      have c5b0 := eq_true c5
      have c5b1 : decide (0 ≤ ((rd_T50 l1 x6_1).f0)) = true := decide_eq_true c5
      clear c5
      by_cases c6 : ((rd_T50 l1 x6_1).f0) ≤ (wrap64 (((rd_T50 l1 x6_1).f0) + ((rd_T50 l1 x6_1).f1)))
      ·rw [if_pos c6] at H
       have c6b0 := eq_true c6
       have c6b1 : decide (((rd_T50 l1 x6_1).f0) ≤ (wrap64 (((rd_T50 l1 x6_1).f0) + ((rd_T50 l1 x6_1).f1)))) = true := decide_eq_true c6
       by_cases c7 : (wrap64 (((rd_T50 l1 x6_1).f0) + ((rd_T50 l1 x6_1).f1))) ≤ (l0_0.length : Int)
       ·rw [if_pos c7] at H
        have c7b0 := eq_true c7
        have c7b1 : decide ((wrap64 (((rd_T50 l1 x6_1).f0) + ((rd_T50 l1 x6_1).f1))) ≤ (l0_0.length : Int)) = true := decide_eq_true c7
        obtain ⟨y253, hy253⟩ : ∃ y_ : List Int, y_ = ((l0_0.take ((wrap64 (((rd_T50 l1 x6_1).f0) + ((rd_T50 l1 x6_1).f1))) : Int).toNat).drop (((rd_T50 l1 x6_1).f0) : Int).toNat) := ⟨_, rfl⟩
        replace H : (if x5_1.length + y253.length < 140737488355328 then (gangwayref20_Gather.l0 k1 l1 (x5_1 ++ y253) (wrap64 (x6_1 + 1)) l0_0 s0_1) else (none)) = some (r1, r2, r3) := by first | (rw [hy253]; with_reducible exact H) | (have H2_ := (Option.bind_some _ _).symm.trans H; rw [hy253]; with_reducible exact H2_) | (have H2_ := (Option.bind_some _ _).symm.trans H; with_reducible exact H2_) | with_reducible exact H | (rw [hy253]; exact H) | exact H
        have Ny253 := am_ hy253
        clear hy253
        by_cases c8 : x5_1.length + y253.length < 140737488355328
        ·rw [if_pos c8] at H
         have LMc8 := am_ c8
         clear c8
         obtain ⟨y257, hy257⟩ : ∃ y_ : List Int, y_ = (x5_1 ++ y253) := ⟨_, rfl⟩
         replace H : (gangwayref20_Gather.l0 k1 l1 y257 (wrap64 (x6_1 + 1)) l0_0 s0_1) = some (r1, r2, r3) := by first | (rw [hy257]; with_reducible exact H) | (have H2_ := (Option.bind_some _ _).symm.trans H; rw [hy257]; with_reducible exact H2_) | (have H2_ := (Option.bind_some _ _).symm.trans H; with_reducible exact H2_) | with_reducible exact H | (rw [hy257]; exact H) | exact H
         have Ny257 := am_ hy257
         clear hy257
         have H' := am_ H
         clear H
         try go_wp2
         have n0_ := am_ (Kd.R_drew HO_5.out)
         have n1_ := am_ (Kd.R_drew HO_1000.out)
         have n2_ := am_ (IsS57.drew HI0.out)
         have n3_ := am_ (Kept.drew HK.out)
         have n4_ := am_ (below_drew1 HB.out)
         clear HO_5
         clear HO_1000
         clear HI0
         clear HK
         clear HB
         have HO_5 := n0_
         have HO_1000 := n1_
         have HI0 := n2_
         have HK := n3_
         have HB := n4_
         clear n0_ n1_ n2_ n3_ n4_
         have p250 : 0 ≤ (x6_1 : Int) := of_decide_eq_true aa_0
         have q250 : x6_1 < (l1.length : Int) := of_decide_eq_true aa_0
         obtain ⟨ad250, e250, hx250_0, hx250_1⟩ := at_T50 (Kd.C_kept_now HR1.out HK.out) x6_1 p250 q250
         cases e250
         replace p250 := eq_true p250
         replace q250 := eq_true q250
         have p251 : 0 ≤ (x6_1 : Int) := of_decide_eq_true aa_0
         have q251 : x6_1 < (l1.length : Int) := of_decide_eq_true aa_0
         obtain ⟨ad251, e251, hx251_0, hx251_1⟩ := at_T50 (Kd.C_kept_now HR1.out HK.out) x6_1 p251 q251
         obtain rfl : ad250 = ad251 := (by injection e251)
         replace p251 := eq_true p251
         replace q251 := eq_true q251
         have p252 : 0 ≤ (x6_1 : Int) := of_decide_eq_true aa_0
         have q252 : x6_1 < (l1.length : Int) := of_decide_eq_true aa_0
         obtain ⟨ad252, e252, hx252_0, hx252_1⟩ := at_T50 (Kd.C_kept_now HR1.out HK.out) x6_1 p252 q252
         obtain rfl : ad250 = ad252 := (by injection e252)
         replace p252 := eq_true p252
         replace q252 := eq_true q252
         obtain ⟨Ao11, co11, eo11⟩ := Kd.R_slice HO_1000.out
         (first | subst eo11 | (injection eo11 with f1_ f2_ f3_; have f4_ := f1_.symm; have f5_ := f3_.symm; clear f1_ f2_ f3_; subst f4_; subst f5_))
         have q10 : ((wrap64 (((rd_T50 l1 x6_1).f0) + ((rd_T50 l1 x6_1).f1))) : Int) ≤ ((l0_0.length : Int) : Int) := of_decide_eq_true aa_0
         obtain ⟨i010, hi010, _, hsz10, _⟩ := info_parts info5
         have hroom10 : l0_0.length ≤ co11 := (Kd.R_reads' HO_1000.out).2.1
         have hC10 : Kd.C (Kd.int .u8) _ Ao11 l0_0.length l0_0 := (Kd.R_reads' HO_1000.out).2.2
         have ql10 : (((rd_T50 l1 x6_1).f0) : Int) ≤ ((wrap64 (((rd_T50 l1 x6_1).f0) + ((rd_T50 l1 x6_1).f1))) : Int) := of_decide_eq_true aa_0
         have q010 : (0 : Int) ≤ (((rd_T50 l1 x6_1).f0) : Int) := of_decide_eq_true aa_0
         have hcut10 := cut_mid (P := Try.prog) 23 5 .i64 .i64 Try.underlying23 hi010 1 hsz10 Ao11 l0_0.length co11 ((rd_T50 l1 x6_1).f0) (wrap64 (((rd_T50 l1 x6_1).f0) + ((rd_T50 l1 x6_1).f1))) q010 ql10 q10 hroom10
         have hr10 := Kd.C_mid (lo := (((rd_T50 l1 x6_1).f0) : Int).toNat) (hi := ((wrap64 (((rd_T50 l1 x6_1).f0) + ((rd_T50 l1 x6_1).f1))) : Int).toNat) (c := co11) hC10 (by omega) (by omega) hroom10
         obtain ⟨A10, hA10⟩ : ∃ A1, A1 = (if co11 = (((rd_T50 l1 x6_1).f0) : Int).toNat then Ao11 else (Ao11 : Option Addr).map (·.add ((((rd_T50 l1 x6_1).f0) : Int).toNat * 1))) := ⟨_, rfl⟩
         obtain ⟨c10, hc10⟩ : ∃ c1, c1 = co11 - (((rd_T50 l1 x6_1).f0) : Int).toNat := ⟨_, rfl⟩
         have hy10 : y253.length = ((wrap64 (((rd_T50 l1 x6_1).f0) + ((rd_T50 l1 x6_1).f1))) : Int).toNat - (((rd_T50 l1 x6_1).f0) : Int).toNat := (by rw [Ny253.out, List.length_drop, List.length_take] <;> omega)
         rw [show ((l0_0).take ((wrap64 (((rd_T50 l1 x6_1).f0) + ((rd_T50 l1 x6_1).f1))) : Int).toNat).drop (((rd_T50 l1 x6_1).f0) : Int).toNat = y253 from Ny253.out.symm] at hr10
         replace hr10 : Kd.C (Kd.int .u8) _ A10 y253.length y253 := (by rw [hA10]; exact hr10)
         rw [← hy10, ← hA10, ← hc10] at hcut10
         have HR256 := am_ hr10
         have HC256 := am_ (show y253.length ≤ c10 from by rw [hy10, hc10]; exact Nat.sub_le_sub_right (Nat.le_trans (by omega) hroom10) _)
         clear hr10 hC10 hroom10 hi010 hsz10 hc10
         have KY10 := am_ hy10
         have KA10 := am_ hA10
         clear hy10 hA10
         have KL10 := am_ (show ((wrap64 (((rd_T50 l1 x6_1).f0) + ((rd_T50 l1 x6_1).f1))) : Int).toNat ≤ l0_0.length from by omega)
         have KM10 := am_ (show (((rd_T50 l1 x6_1).f0) : Int).toNat ≤ ((wrap64 (((rd_T50 l1 x6_1).f0) + ((rd_T50 l1 x6_1).f1))) : Int).toNat from by omega)
         replace q10 := eq_true q10
         refine start_ (n := 24) (S := fun w' => w'.cell? ⟨g, 0, none⟩ = some (.slice Ao11 l0_0.length co11) ∧ w'.cell? ⟨g, 1, none⟩ = some (.int .i64 s0_1) ∧ w'.cell? (ad250.add ((x6_1).toNat * 2)) = some (.int .i64 ((rd_T50 l1 x6_1).f0)) ∧ w'.cell? ⟨(ad250.add ((x6_1).toNat * 2)).block, (ad250.add ((x6_1).toNat * 2)).off + 1, none⟩ = some (.int .i64 ((rd_T50 l1 x6_1).f1))) (ds := [22]) bb24_ (by kernel_rfl) rfl rfl ⟨(blk_cell HI0.out.1 0).trans rfl, (blk_cell HI0.out.1 1).trans rfl, hx250_0, hx250_1⟩ (fun hHeld => ?_); refine with_tabW gangwayref20_Gather.tab5 gangwayref20_Gather.bits5 (fun HT_ HW_ => ?_)
         generalize wr.drew = w9 at HO_5 HO_1000 HI0 HK HB HR256 hx250_0 hx250_1 hx251_0 hx251_1 hx252_0 hx252_1 hHeld ⊢
         refine pure_ (i := 0) (N := some 13) (v := ?_) (a' := ?_) bb23_ rfl rfl (any_of HT_.out (by kernel_rfl)) (fun _ _ _ h => h) (Or.inl ⟨by rfl, ?_⟩) ?_ ?_
         rotate_left; · intro w'; go_simp; with_reducible rfl
         rotate_left; · simp only [Act.put, e1, e2, e3, i64_w, i32_w]; rfl
         refine pure_ (i := 1) (N := some 14) (v := ?_) (a' := ?_) bb22_ rfl rfl (any_of HT_.out (by kernel_rfl)) (fun _ _ _ h => h) (Or.inl ⟨by rfl, ?_⟩) ?_ ?_
         rotate_left; · intro w'; go_simp; with_reducible rfl
         rotate_left; · simp only [Act.put, e1, e2, e3, i64_w, i32_w]; rfl
         refine pure_ (i := 2) (N := some 15) (v := ?_) (a' := ?_) bb21_ rfl rfl (any_of HT_.out (by kernel_rfl)) (fun _ _ _ h => h) (Or.inl ⟨by rfl, ?_⟩) ?_ ?_
         rotate_left; · intro w'; go_simp; with_reducible rfl
         rotate_left; · simp only [Act.put, e1, e2, e3, i64_w, i32_w]; rfl
         refine pure_ (i := 3) (N := some 16) (v := ?_) (a' := ?_) bb20_ rfl rfl (any_of HT_.out (by kernel_rfl)) (fun _ _ _ h => h) (Or.inl ⟨by rfl, ?_⟩) ?_ ?_
         rotate_left; · intro w'; go_simp; with_reducible rfl
         rotate_left; · simp only [Act.put, e1, e2, e3, i64_w, i32_w]; rfl
         refine pure_ (i := 5) (N := some 18) (v := ?_) (a' := ?_) bb19_ rfl rfl (any_of HT_.out (by kernel_rfl)) (fun _ _ _ h => h) (Or.inl ⟨by rfl, ?_⟩) ?_ ?_
         rotate_left; · intro w'; go_simp; with_reducible rfl
         rotate_left; · simp only [Act.put, e1, e2, e3, i64_w, i32_w]; rfl
         refine pure_ (i := 6) (N := some 19) (v := ?_) (a' := ?_) bb18_ rfl rfl (any_of HT_.out (by kernel_rfl)) (fun _ _ _ h => h) (Or.inl ⟨by rfl, ?_⟩) ?_ ?_
         rotate_left; · intro w'; go_simp; with_reducible rfl
         rotate_left; · simp only [Act.put, e1, e2, e3, i64_w, i32_w]; rfl
         refine pure_ (i := 7) (N := some 20) (v := ?_) (a' := ?_) bb17_ rfl rfl (any_of HT_.out (by kernel_rfl)) (fun _ _ _ h => h) (Or.inl ⟨by rfl, ?_⟩) ?_ ?_
         rotate_left; · intro w'; go_simp; with_reducible rfl
         rotate_left; · simp only [Act.put, e1, e2, e3, i64_w, i32_w]; rfl
         refine pure_ (i := 8) (N := some 21) (v := ?_) (a' := ?_) bb16_ rfl rfl (any_of HT_.out (by kernel_rfl)) (fun _ _ _ h => h) (Or.inl ⟨by rfl, ?_⟩) ?_ ?_
         rotate_left; · intro w'; go_simp; with_reducible rfl
         rotate_left; · simp only [Act.put, e1, e2, e3, i64_w, i32_w]; rfl
         refine pure_ (i := 10) (N := some 23) (v := ?_) (a' := ?_) bb15_ rfl rfl (any_of HT_.out (by kernel_rfl)) (fun _ _ _ h => h) (Or.inl ⟨by rfl, ?_⟩) ?_ ?_
         rotate_left; · intro w'; go_simp; with_reducible rfl
         rotate_left; · simp only [Act.put, e1, e2, e3, i64_w, i32_w]; rfl
         refine pure_ (i := 11) (N := some 24) (v := ?_) (a' := ?_) bb14_ rfl rfl (any_of HT_.out (by kernel_rfl)) (fun _ _ _ h => h) (Or.inl ⟨by rfl, ?_⟩) ?_ ?_
         rotate_left; · intro w'; go_simp; with_reducible rfl
         rotate_left; · simp only [Act.put, e1, e2, e3, i64_w, i32_w]; rfl
         refine pure_ (i := 12) (N := some 25) (v := ?_) (a' := ?_) bb13_ rfl rfl (any_of HT_.out (by kernel_rfl)) (fun _ _ _ h => h) (Or.inl ⟨by rfl, ?_⟩) ?_ ?_
         rotate_left; · intro w'; go_simp; with_reducible rfl
         rotate_left; · simp only [Act.put, e1, e2, e3, i64_w, i32_w]; rfl
         refine pure_ (i := 13) (N := some 26) (v := ?_) (a' := ?_) bb12_ rfl rfl (any_of HT_.out (by kernel_rfl)) (fun _ _ _ h => h) (Or.inl ⟨by rfl, ?_⟩) ?_ ?_
         rotate_left; · intro w'; go_simp; with_reducible rfl
         rotate_left; · simp only [Act.put, e1, e2, e3, i64_w, i32_w]; rfl
         refine pure_ (i := 15) (N := some 28) (v := ?_) (a' := ?_) bb11_ rfl rfl (any_of HT_.out (by kernel_rfl)) (fun _ _ _ h => h) (Or.inl ⟨by rfl, ?_⟩) ?_ ?_
         rotate_left; · intro w'; go_simp; with_reducible rfl
         rotate_left; · simp only [Act.put, e1, e2, e3, i64_w, i32_w]; rfl
         refine pure_ (i := 16) (N := some 29) (v := ?_) (a' := ?_) bb10_ rfl rfl (any_of HT_.out (by kernel_rfl)) (fun _ _ _ h => h) (Or.inl ⟨by rfl, ?_⟩) ?_ ?_
         rotate_left; · intro w'; go_simp; with_reducible rfl
         rotate_left; · simp only [Act.put, e1, e2, e3, i64_w, i32_w]; rfl
         refine pure_ (i := 17) (N := some 30) (v := ?_) (a' := ?_) bb9_ rfl rfl (any_of HT_.out (by kernel_rfl)) (fun _ _ _ h => h) (Or.inl ⟨by rfl, ?_⟩) ?_ ?_
         rotate_left; · intro w'; go_simp; with_reducible rfl
         rotate_left; · simp only [Act.put, e1, e2, e3, i64_w, i32_w]; rfl
         refine pure_ (i := 18) (N := some 31) (v := ?_) (a' := ?_) bb8_ rfl rfl (any_of HT_.out (by kernel_rfl)) (fun _ _ _ h => h) (Or.inl ⟨by rfl, ?_⟩) ?_ ?_
         rotate_left; · intro w'; go_simp; with_reducible rfl
         rotate_left; · simp only [Act.put, e1, e2, e3, i64_w, i32_w]; rfl
         refine take_ (i := 4) (N := some 17) (v := ?_) (a' := ?_) bb7_ rfl rfl (take_ofW HT_.out HW_.out (by kernel_rfl)) (fun _ _ _ h => h) (Or.inl ⟨by rfl, ?_⟩) hHeld ?_ ?_
         rotate_left; · rintro w' ⟨s0, s1, s2, s3⟩; go_simp; with_reducible rfl
         rotate_left; · simp only [Act.put, e1, e2, e3, i64_w, i32_w]; rfl
         refine take_ (i := 9) (N := some 22) (v := ?_) (a' := ?_) bb6_ rfl rfl (take_ofW HT_.out HW_.out (by kernel_rfl)) (fun _ _ _ h => h) (Or.inl ⟨by rfl, ?_⟩) hHeld ?_ ?_
         rotate_left; · rintro w' ⟨s0, s1, s2, s3⟩; go_simp; with_reducible rfl
         rotate_left; · simp only [Act.put, e1, e2, e3, i64_w, i32_w]; rfl
         refine take_ (i := 14) (N := some 27) (v := ?_) (a' := ?_) bb5_ rfl rfl (take_ofW HT_.out HW_.out (by kernel_rfl)) (fun _ _ _ h => h) (Or.inl ⟨by rfl, ?_⟩) hHeld ?_ ?_
         rotate_left; · rintro w' ⟨s0, s1, s2, s3⟩; go_simp; with_reducible rfl
         rotate_left; · simp only [Act.put, e1, e2, e3, i64_w, i32_w]; rfl
         refine take_ (i := 19) (N := some 32) (v := ?_) (a' := ?_) bb4_ rfl rfl (take_ofW HT_.out HW_.out (by kernel_rfl)) (fun _ _ _ h => h) (Or.inl ⟨by rfl, ?_⟩) hHeld ?_ ?_
         rotate_left; · rintro w' ⟨s0, s1, s2, s3⟩; go_simp; with_reducible rfl
         rotate_left; · simp only [Act.put, e1, e2, e3, i64_w, i32_w]; rfl
         refine pure_ (i := 20) (N := some 33) (v := ?_) (a' := ?_) bb3_ rfl rfl (any_of HT_.out (by kernel_rfl)) (fun _ _ _ h => h) (Or.inl ⟨by rfl, ?_⟩) ?_ ?_
         rotate_left; · intro w'; go_simp; with_reducible rfl
         rotate_left; · simp only [Act.put, e1, e2, e3, i64_w, i32_w]; rfl
         refine pure_ (i := 21) (N := some 34) (v := ?_) (a' := ?_) bb2_ rfl rfl (any_of HT_.out (by kernel_rfl)) (fun _ _ _ h => h) (Or.inl ⟨by rfl, ?_⟩) ?_ ?_
         rotate_left; · intro w'; go_simp; with_reducible rfl
         rotate_left; · simp only [Act.put, e1, e2, e3, i64_w, i32_w]; rfl
         refine last_ (i := 22) (N := some 35) bb1_ rfl rfl (one_of HT_.out (by kernel_rfl)) (by decide) (fun K hK => ?_)
         refine Kd.R_append_rows_step (Kd.int .u8) (w0 := w0) w0.heap.size (by rfl) (.tmp 13) (.tmp 34) 23 5 (.int .u8 0) 1 rfl Try.underlying23 info5 rfl (by decide) (by omega) u5 x5_1 y253 _ _ _ (fun k_ => (P0_0_ k_ ∨ w.heap.size ≤ k_) ∧ some k_ ≠ (.slice Ao11 l0_0.length co11 : Value).ownBlock) (fun _ => False) rfl rfl ?aO ?aR (fun _ _ h => h) (fun _ h => h.elim) ?aF ?aB ?aS ?aL ?_
         (case aR => repeat (first | exact (by repeat (first | (with_reducible exact HR256.out) | (with_reducible refine Kd.C_alloc ?_ _) | (with_reducible refine Kd.C_drewN ?_ _) | (with_reducible refine Kd.C_drew ?_) | exact HR256.out)) | (with_reducible refine Kd.C_alloc ?_ _) | (with_reducible refine Kd.C_drewN ?_ _) | (with_reducible refine Kd.C_drew ?_)))
         (case aB => exact (by repeat (first | (with_reducible first | exact HB.out | apply below_alloc | apply pw_below_drewN | apply below_drew1 | refine below_set ?_ (IsS57.ge HI0.out)) | exact HB.out)))
         (case aF => exact (fun k_ hk => ⟨(.inr (Nat.le_trans (by first | exact HK.out.1 | exact (show Kept w _ (fun k_ => (P0_0_ k_) ∨ k_ = g) from by repeat (first | (with_reducible first | exact HK.out | apply Kept.alloc | apply Kept.drewN | apply Kept.drew | refine Kept.setCell ?_ (.inl (.inr rfl)) _) | exact HK.out)).1) hk)), Kd.fresh' (Kd.R_lt (by (with_reducible repeat (first | apply Kd.R_alloc | apply Kd.R_drewN | apply Kd.R_drew)); exact HO_1000.out)) k_ hk⟩))
         (case aO => exact (by (with_reducible repeat (first | apply Kd.R_alloc | apply Kd.R_drewN | apply Kd.R_drew)); exact HO_5.out))
         (case aS => exact (below_size (by repeat (first | (with_reducible first | exact HB.out | apply below_alloc | apply pw_below_drewN | apply below_drew1 | refine below_set ?_ (IsS57.ge HI0.out)) | exact HB.out))))
         (case aL => have := LMc8.out; omega)
         intro v258 w12 ho hb hg hat
         rw [← Ny257.out] at ho
         have n0_ := am_ (Kd.R_after (ok := (fun k_ => (P0_0_ k_ ∨ w.heap.size ≤ k_))) (by (with_reducible repeat (first | apply Kd.R_alloc | apply Kd.R_drewN | apply Kd.R_drew)); exact HO_1000.out) hg hat)
         have n1_ := am_ (IsS57.grown (by repeat (first | (with_reducible first | exact HI0.out | apply IsS57.alloc | apply IsS57.drewN | apply IsS57.drew | apply IsS57.set_0 | apply IsS57.set_1) | exact HI0.out)) hg (IsS57.own_ne HI0.out HO_5.out (by decide)))
         have n2_ := am_ (hb)
         have n3_ := am_ (Kept.of_grown (S := (fun k_ => (P0_0_ k_) ∨ k_ = g)) hg (by repeat (first | (with_reducible first | exact HK.out | apply Kept.alloc | apply Kept.drewN | apply Kept.drew | refine Kept.setCell ?_ (.inl (.inr rfl)) _) | exact HK.out)) (fun k_ e_ => Or.imp_left Or.inl ((HO_5.out.1 k_ e_).1)))
         have n4_ := am_ ((show Kd.C (Kd.int .u8) w12 A10 y253.length y253 from by rw [Ny253.out, KA10.out]; exact Kd.C_mid (lo := (((rd_T50 l1 x6_1).f0) : Int).toNat) (hi := ((wrap64 (((rd_T50 l1 x6_1).f0) + ((rd_T50 l1 x6_1).f1))) : Int).toNat) (c := co11) ((Kd.R_reads' (Kd.R_after (ok := (fun k_ => (P0_0_ k_ ∨ w.heap.size ≤ k_))) (by (with_reducible repeat (first | apply Kd.R_alloc | apply Kd.R_drewN | apply Kd.R_drew)); exact HO_1000.out) hg hat)).2.2) KM10.out KL10.out ((Kd.R_reads' (Kd.R_after (ok := (fun k_ => (P0_0_ k_ ∨ w.heap.size ≤ k_))) (by (with_reducible repeat (first | apply Kd.R_alloc | apply Kd.R_drewN | apply Kd.R_drew)); exact HO_1000.out) hg hat)).2.1)))
         have n5_ := am_ (ho)
         clear HO_1000
         clear HI0
         clear HB
         clear HK
         clear HR256
         clear HO_5
         have HO_1000 := n0_
         have HI0 := n1_
         have HB := n2_
         have HK := n3_
         have HR256 := n4_
         have HO259 := n5_
         clear n0_ n1_ n2_ n3_ n4_ n5_
         clear ho hb hg hat
         refine hK.out _ _ ?_
         clear hK K
         refine norm_ (a' := ?_) ?_ ?_
         rotate_left
         ·show Act.put _ (some 35) _ = _
          simp only [Act.put, e1, e2, e3, i64_w, i32_w]
          rfl
         refine pure_ (i := 23) (N := some 5) (v := ?_) (a' := ?_) bb0_ rfl rfl (any_of HT_.out (by kernel_rfl)) (fun _ _ _ h => h) (Or.inl ⟨by rfl, ?_⟩) ?_ ?_
         rotate_left; · intro w'; go_simp; with_reducible rfl
         rotate_left; · simp only [Act.put, e1, e2, e3, i64_w, i32_w]; rfl
         refine done_ (done_of HT_.out (by kernel_rfl)) ?_
         try go_wp2
         go_roundg k1
         case measure => have := HK1.out; omega
         case rel => exact ⟨(y257), (wrap64 (x6_1 + 1)), (by first | rfl | (simp; done) | (simp [*]; done)), H', ⟨by have := HK1.out; omega⟩, ⟨by (with_reducible repeat (first | apply Kd.R_alloc | apply Kd.R_drewN | apply Kd.R_drew)); exact HO259.out⟩, ⟨by (with_reducible repeat (first | apply Kd.R_alloc | apply Kd.R_drewN | apply Kd.R_drew)); exact HO_1000.out⟩, ⟨aa_1⟩, ⟨aa_2⟩, ⟨aa_3⟩⟩
        ·rw [if_neg c8] at H
         exact absurd H (by simp)
       ·rw [if_neg c7] at H
        exact absurd H (by simp)
      ·rw [if_neg c6] at H
       exact absurd H (by simp)
     ·rw [if_neg c5] at H
      exact absurd H (by simp)
    ·rw [if_neg c4] at H
     exact absurd H (by simp)
   ·rw [if_neg c3] at H
    have c3b0 : decide (x6_1 < (l1.length : Int)) = false := decide_eq_false c3
    clear c3
    simp only [Option.some.injEq, Prod.mk.injEq] at H
    obtain ⟨rfl, rfl, rfl⟩ := H
    go_wp2
    go_ret
    exact ⟨_, _, by first | rfl | (simp [errW_none, errW_some] <;> rfl) | (simp [*, errW_none, errW_some] <;> rfl), by (with_reducible repeat (first | apply Kd.R_alloc | apply Kd.R_drewN | apply Kd.R_drew)); exact HO_5.out, by (with_reducible repeat (first | apply Kd.R_alloc | apply Kd.R_drewN | apply Kd.R_drew)); exact HO_1000.out, by repeat (first | (with_reducible first | exact HI0.out | apply IsS57.alloc | apply IsS57.drewN | apply IsS57.drew | apply IsS57.set_0 | apply IsS57.set_1) | exact HI0.out), by repeat (first | (with_reducible first | exact HB.out | apply below_alloc | apply pw_below_drewN | apply below_drew1 | refine below_set ?_ (IsS57.ge HI0.out)) | exact HB.out), by repeat (first | (with_reducible first | exact HK.out | apply Kept.alloc | apply Kept.drewN | apply Kept.drew | refine Kept.setCell ?_ (.inl (.inr rfl)) _) | exact HK.out)⟩

/-! ### iov_Scatter: function 15 -/
abbrev iov_Scatter.t : Bool := true
abbrev iov_Scatter.f_ : Bool := false
def iov_Scatter.bb0_ : Array Bool := #[t, t, t, t, t, t, t, t, t, t]
def iov_Scatter.bb1_ : Array Bool := #[t, t, t, t, t, t, t, t, t, f_]
def iov_Scatter.bb2_ : Array Bool := #[t, t, f_, t, t, t, t, t, t, f_]
def iov_Scatter.bb3_ : Array Bool := #[t, t, f_, t, t, t, t, t, f_, f_]
def iov_Scatter.bb4_ : Array Bool := #[t, t, f_, t, t, t, t, f_, f_, f_]
def iov_Scatter.bb5_ : Array Bool := #[t, t, f_, t, t, t, f_, f_, f_, f_]
def iov_Scatter.bb6_ : Array Bool := #[t, t, f_, t, t, f_, f_, f_, f_, f_]
def iov_Scatter.bb7_ : Array Bool := #[t, t, f_, t, f_, f_, f_, f_, f_, f_]
def iov_Scatter.bb8_ : Array Bool := #[t, t, f_, f_, f_, f_, f_, f_, f_, f_]
def iov_Scatter.bb9_ : Array Bool := #[t, f_, f_, f_, f_, f_, f_, f_, f_, f_]
def iov_Scatter.bb10_ : Array Bool := #[f_, f_, f_, f_, f_, f_, f_, f_, f_, f_]
theorem iov_Scatter.bc {w : World} {g : Nat} {cs : Array Value} {t : TypeId} (h : Aside0 (w.heap[g]? = some (.cells cs t (0, 0)))) (i : Nat) {v : Value} (e : cs[i]? = some v := by rfl) : w.cell? ⟨g, i, none⟩ = some v := (blk_cell h.out i).trans e
theorem iov_Scatter.bkept {W0 W W2 : World} {g : Nat} {o : Obj} {S : Nat → Prop} (_b : Aside0 (W0.heap[g]? = some o)) (h : W.heap[g]? = some o) (hk : Kept W W2 S) (hn : ¬ S g) : W2.heap[g]? = some o := blk_kept h hk hn
theorem iov_Scatter.bbelow {W0 w w1 : World} {g : Nat} {o : Obj} (_b : Aside0 (W0.heap[g]? = some o)) (h : w.heap[g]? = some o) (hb : Below w.heap.size w w1) : w1.heap[g]? = some o := blk_below h hb
theorem iov_Scatter.e1 {α : Type _} (xs : List α) (i : Nat) (a : α) : xs.toArray.setIfInBounds i a = (xs.set i a).toArray := by simp
theorem iov_Scatter.e2 {α : Type _} (x a : α) (xs : List α) : (x :: xs).set 0 a = a :: xs := rfl
theorem iov_Scatter.e3 {α : Type _} (x a : α) (xs : List α) (n : Nat) : (x :: xs).set (n + 1) a = x :: xs.set n a := rfl
def iov_Scatter.l0 : Nat → List Int → Int → List (S50) → Int → Int → List Int → Int → Option (Int × Int × List Int × Int)
 | 0, _, _, _, _, _, _, _ => none
 | k + 1, x2, x9, x22, x23, x24, x1000, x1001 => if x24 < x23 then (if 0 ≤ x24 then (if x24 < (x22.length : Int) then (if 0 ≤ x9 then (if x9 ≤ (wrap64 (x9 + (mn ((rd_T50 x22 x24).f1) (wrap64 ((x2.length : Int) - x9))))) then (if (wrap64 (x9 + (mn ((rd_T50 x22 x24).f1) (wrap64 ((x2.length : Int) - x9))))) ≤ (x2.length : Int) then ((mem_Memory_Write.f x1000 x1001 ((rd_T50 x22 x24).f0) ((x2.take ((wrap64 (x9 + (mn ((rd_T50 x22 x24).f1) (wrap64 ((x2.length : Int) - x9))))) : Int).toNat).drop (x9 : Int).toNat)).bind fun bt271 => (iov_Scatter.l0 k x2 (wrap64 (x9 + (mn ((rd_T50 x22 x24).f1) (wrap64 ((x2.length : Int) - x9))))) x22 x23 (wrap64 (x24 + 1)) bt271.2.1 bt271.2.2)) else (none)) else (none)) else (none)) else (none)) else (none)) else (some (x9, 0, x1000, x1001))
def iov_Scatter.f (k : Nat) (l0_0 : List Int) (s0_1 : Int) (l1 : List (S50)) (l2 : List Int) : Option (Int × Int × List Int × Int) := (iov_all.f l0_0 s0_1 l1).bind fun bt260 => (if bt260.1 = 0 then (iov_Scatter.l0 k l2 0 l1 (l1.length : Int) 0 bt260.2.1 bt260.2.2) else (some (0, bt260.1, bt260.2.1, bt260.2.2)))
theorem iov_Scatter.mono_l : ∀ k, (∀ y0 y1 y2 y3 y4 y5 y6, LeO (iov_Scatter.l0 k y0 y1 y2 y3 y4 y5 y6) (iov_Scatter.l0 (k + 1) y0 y1 y2 y3 y4 y5 y6))
 | 0 => fun _ _ _ _ _ _ _ r h => by simp [iov_Scatter.l0] at h
 | k + 1 => by
  have ih0 := iov_Scatter.mono_l k
  ·intro y0 y1 y2 y3 y4 y5 y6
   unfold iov_Scatter.l0
   repeat' first
   | (with_reducible apply ih0)
   | (with_reducible exact LeO.refl _)
   | (with_reducible exact LeO.none _)
   | (with_reducible refine LeO.ite ?_ ?_)
   | (with_reducible refine LeO.bind ?_ (fun _ => ?_))
   | apply ih0
   | exact LeO.none _
   | refine LeO.ite ?_ ?_
   | refine LeO.bind ?_ (fun _ => ?_)
theorem iov_Scatter.mono : ∀ a0 a1 a2 a3 k, LeO (iov_Scatter.f k a0 a1 a2 a3) (iov_Scatter.f (k + 1) a0 a1 a2 a3) := by
 intro a0 a1 a2 a3 k
 have ih0 := iov_Scatter.mono_l k
 unfold iov_Scatter.f
 repeat' first
   | (with_reducible apply ih0)
   | (with_reducible exact LeO.refl _)
   | (with_reducible exact LeO.none _)
   | (with_reducible refine LeO.ite ?_ ?_)
   | (with_reducible refine LeO.bind ?_ (fun _ => ?_))
   | apply ih0
   | exact LeO.none _
   | refine LeO.ite ?_ ?_
   | refine LeO.bind ?_ (fun _ => ?_)
def iov_Scatter.T10 : Bool × List (List Nat × List Nat) := (true, [([], []), ([], []), ([1], [1]), ([], []), ([], []), ([], []), ([], []), ([5, 6], [5, 6]), ([3, 4, 7], [3, 4, 7]), ([0, 2, 8], [0, 2, 8])])
def iov_Scatter.B10 : List Nat := [0, 0, 2, 0, 0, 0, 0, 96, 248, 511]
theorem iov_Scatter.tab10 : rtab .any (opsOf Try.f15 10) = iov_Scatter.T10 := by kernel_rfl
theorem iov_Scatter.bits10 : waitsOk iov_Scatter.T10.2 iov_Scatter.B10 = true := by kernel_rfl
theorem iov_Scatter.aa_0 {p : Prop} (h : p := by repeat (first | (with_reducible first | exact HK.out | apply Kept.alloc | apply Kept.drewN | apply Kept.drew | refine Kept.setCell ?_ (.inl (.inr rfl)) _) | exact HK.out)) : p := h
theorem iov_Scatter.aa_1 {p : Prop} (h : p := by first | exact HK.out.1 | exact (show Kept w _ (fun k_ => (P0_0_ k_) ∨ k_ = g) from by repeat (first | (with_reducible first | exact HK.out | apply Kept.alloc | apply Kept.drewN | apply Kept.drew | refine Kept.setCell ?_ (.inl (.inr rfl)) _) | exact HK.out)).1) : p := h
theorem iov_Scatter.aa_2 {p : Prop} (h : p := by repeat (first | (with_reducible first | exact HK.out | apply Kept.alloc | apply Kept.drewN | apply Kept.drew | refine Kept.setCell ?_ (.inl (.inr rfl)) _ | refine Kept.setCell ?_ (.inr GW266.out) _) | exact HK.out)) : p := h
theorem iov_Scatter.aa_3 {p : Prop} (h : p := by repeat (first | (with_reducible first | exact HI0.out | apply IsS72.alloc | apply IsS72.drewN | apply IsS72.drew | apply IsS72.set_0 | apply IsS72.set_1 | refine IsS72.far ?_ NB0_266.out _) | exact HI0.out)) : p := h
theorem iov_Scatter.aa_4 {p : Prop} (h : p := by repeat (first | (with_reducible first | exact HB.out | apply below_alloc | apply pw_below_drewN | apply below_drew1 | refine below_set ?_ (IsS72.ge HI0.out) | refine below_set ?_ GE266.out) | exact HB.out)) : p := h
theorem iov_Scatter.aa_5 {p : Prop} (h : p := by repeat (first | (with_reducible first | exact HI0.out | apply IsS72.alloc | apply IsS72.drewN | apply IsS72.drew | apply IsS72.set_0 | apply IsS72.set_1) | exact HI0.out)) : p := h
theorem iov_Scatter.aa_6 {p : Prop} (h : p := by repeat (first | (with_reducible first | exact HB.out | apply below_alloc | apply pw_below_drewN | apply below_drew1 | refine below_set ?_ (IsS72.ge HI0.out)) | exact HB.out)) : p := h
theorem iov_Scatter.am_ {p : Prop} (h : p) : Aside0 p := Aside0.mk h
theorem iov_Scatter.bm_ {α β : Type _} {o : Option α} {f : α → Option β} {b : β} (h : o.bind f = some b) : ∃ a, o = some a ∧ f a = some b := Option.bind_eq_some_iff.mp h
set_option maxHeartbeats 8000000 in
set_option maxRecDepth 100000 in
theorem iov_Scatter.calls (k : Nat) (g : Nat) (P0_0_ : Nat → Prop) (u9000_ : Value) (l0_0 : List Int) (s0_1 : Int) (A1 : Option Addr) (c1 : Nat) (l1 : List (S50)) (A2 : Option Addr) (c2 : Nat) (l2 : List Int) (r1 : Int) (r2 : Int) (r3 : List Int) (r4 : Int) (w0 w : World) (hI : IsS72 w0 w g u9000_ s0_1) (hB : Below w0.heap.size w0 w) (ho0_0 : Kd.R (Kd.int .u8) 5 w w0.heap.size P0_0_ u9000_ l0_0) (hr1 : ∀ W_, Kept w W_ (fun k_ => (P0_0_ k_) ∨ k_ = g) → Kd.C k50 W_ A1 l1.length l1) (hc1 : l1.length ≤ c1) (hr2 : ∀ W_, Kept w W_ (fun k_ => (P0_0_ k_) ∨ k_ = g) → Kd.C (Kd.int .u8) W_ A2 l2.length l2) (hc2 : l2.length ≤ c2) (h : iov_Scatter.f k l0_0 s0_1 l1 l2 = some (r1, r2, r3, r4)) :
  Calls Try.prog 15 #[.pointer (some ⟨g, 0, none⟩), .slice A1 l1.length c1, .slice A2 l2.length c2] w fun e w' => ∃ v2_ : Value, e = .returned (.tuple #[.int .i64 r1, .int .i64 r2]) ∧ Kd.R (Kd.int .u8) 5 w' w0.heap.size (fun k_ => (P0_0_ k_ ∨ w.heap.size ≤ k_)) v2_ r3 ∧ IsS72 w0 w' g v2_ r4 ∧ Below w0.heap.size w0 w' ∧ Kept w w' (fun k_ => (P0_0_ k_) ∨ k_ = g) := by
 have hu50 := Try.underlying50
 have HO0_0 := am_ (show Kd.R (Kd.int .u8) 5 w w0.heap.size (fun k_ => (P0_0_ k_ ∨ w.heap.size ≤ k_)) u9000_ l0_0 from Kd.R_mono ho0_0 (fun k_ hk => (.inl hk)))
 have HR1 := am_ hr1
 have HC1 := am_ hc1
 clear hr1 hc1
 have HR2 := am_ hr2
 have HC2 := am_ hc2
 clear hr2 hc2
 have HI0 := am_ hI
 have HL := am_ hB.size
 clear hI
 have HK := am_ (Kept.refl w (fun k_ => (P0_0_ k_) ∨ k_ = g))
 have HW0 := am_ hB.size
 have HB := am_ hB
 clear hB
 have H : ((iov_all.f l0_0 s0_1 l1).bind fun bt260 => (if bt260.1 = 0 then (iov_Scatter.l0 k l2 0 l1 (l1.length : Int) 0 bt260.2.1 bt260.2.2) else (some (0, bt260.1, bt260.2.1, bt260.2.2)))) = some (r1, r2, r3, r4) := h
 clear h
 replace H := bm_ H
 obtain ⟨⟨t260, t261, t264⟩, A40, H⟩ := H
 replace H : (if t260 = 0 then (iov_Scatter.l0 k l2 0 l1 (l1.length : Int) 0 t261 t264) else (some (0, t260, t261, t264))) = some (r1, r2, r3, r4) := H
 have A4 := am_ A40
 clear A40
 by_cases c5 : t260 = 0
 ·rw [if_pos c5] at H
  have c5b0 : (t260 == 0) = true := beq_iff_eq.mpr c5
  have c5b1 : (t260 != 0) = false := bne_eq_false_iff_eq.mpr c5
  clear c5
  have H' := am_ H
  clear H
  go_enter Try.func15, Try.ntmps15
  go_wp2_with (first | ((with_reducible refine gate_callee (f := 28) rfl ?_); refine goesL_ (some 16) rfl rfl Try.func28 (by kernel_rfl) rfl #[.pointer (some ⟨g, 0, none⟩), .slice A1 l1.length c1] rfl (by (try simp only [List.map_toArray, List.map_cons, List.map_nil]); first | done | rfl | (simp only [List.length_drop, List.length_take]; rfl)) ?_; (with_reducible refine (iov_all.calls g (fun k_ => some k_ = (u9000_ : Value).ownBlock) u9000_ l0_0 s0_1 _ _ l1 t260 t261 t264 w0 _ ?side1 ?side2 ?side3 ?side4 ?side5 A4.out).mono ?_); (case side1 => exact aa_5); (case side2 => exact aa_6); (case side3 => exact Kd.R_tight rfl HO0_0.out); (case side4 => exact Kd.C_kept_call HR1.out aa_0 (fun k_ hs_ => Or.elim hs_ (fun hs_ => (fun e_ => Or.imp_left Or.inl ((HO0_0.out.1 k_ e_.symm))) hs_) (fun e_ => .inl (.inr e_)))); (case side5 => exact HC1.out); rintro e w6 ⟨v262, rfl, ho0, hi, hb, hkp⟩; refine ⟨_, rfl, ?_⟩; have n0_ := am_ (hi); have n1_ := am_ (Kd.R_mono (ok' := fun k_ => (P0_0_ k_ ∨ w.heap.size ≤ k_)) ho0 (fun k_ hk_ => Or.elim hk_ (fun hs_ => (HO0_0.out.1 k_ (hs_).symm)) (fun hn_ => (.inr (Nat.le_trans aa_1 hn_))))); have n2_ := am_ (Kept.then_ (S := (fun k_ => (P0_0_ k_) ∨ k_ = g)) aa_0 hkp (fun k_ hs_ => Or.elim hs_ (fun hs_ => (fun e_ => Or.imp_left Or.inl ((HO0_0.out.1 k_ e_.symm))) hs_) (fun e_ => .inl (.inr e_)))); have n3_ := am_ (hb); clear HI0; clear HK; clear HB; clear HO0_0; have HI0 := n0_; have HO263 := n1_; have HK := n2_; have HB := n3_; clear n0_ n1_ n2_ n3_; (try clear hb); (try clear hkp); (try clear ho0)))
  go_loopg [9, 24] k (fun kq v9 v24 w' => ∃ (x9_1 : Int) (x24_1 : Int) (x1000_1 : List Int) (x1001_1 : Int) (u1000 : Value), v9 = .int .i64 x9_1 ∧ v24 = .int .i64 x24_1 ∧ Aside0 (iov_Scatter.l0 kq l2 x9_1 l1 (l1.length : Int) x24_1 x1000_1 x1001_1 = some (r1, r2, r3, r4)) ∧ Aside0 (kq ≤ k) ∧ Aside0 (Kd.R (Kd.int .u8) 5 w' w0.heap.size (fun k_ => (P0_0_ k_ ∨ w.heap.size ≤ k_)) u1000 x1000_1) ∧ Aside0 (IsS72 w0 w' g u1000 x1001_1) ∧ Aside0 (Kept w w' (fun k_ => (P0_0_ k_) ∨ k_ = g)) ∧ Aside0 (Below w0.heap.size w0 w'))
  case atStart => exact ⟨(0), (0), (t261), (t264), (v262), (by first | rfl | (simp; done) | (simp [*]; done)), (by first | rfl | (simp; done) | (simp [*]; done)), H', ⟨Nat.le_refl _⟩, ⟨by (with_reducible repeat (first | apply Kd.R_alloc | apply Kd.R_drewN | apply Kd.R_drew)); exact HO263.out⟩, ⟨aa_5⟩, ⟨aa_0⟩, ⟨aa_6⟩⟩
  case round =>
   clear H'
   try clear c1
   try clear c2
   try clear p2
   try clear c5
   try clear c5b0
   try clear c5b1
   obtain ⟨x9_1, x24_1, x1000_1, x1001_1, u1000, rfl, rfl, HA, HK1, HO_1000, HI0, HK, HB⟩ := hrel
   cases gk with
   | zero => exact absurd HA.out (by simp [iov_Scatter.l0])
   | succ k1 =>
    have H := HA.out
    clear HA
    simp only [iov_Scatter.l0] at H
    by_cases c7 : x24_1 < (l1.length : Int)
    ·rw [if_pos c7] at H
     have c7b0 : decide (x24_1 < (l1.length : Int)) = true := decide_eq_true c7
     clear c7
     by_cases c8 : 0 ≤ x24_1
     ·rw [if_pos c8] at H
      have c8b0 : decide (0 ≤ x24_1) = true := decide_eq_true c8
      clear c8
      by_cases c9 : x24_1 < (l1.length : Int)
      ·rw [if_pos c9] at H
       have c9b0 : decide (x24_1 < (l1.length : Int)) = true := decide_eq_true c9
       clear c9
       obtain ⟨ji10, hji10⟩ : ∃ j_ : Int, (mn ((rd_T50 l1 x24_1).f1) (wrap64 ((l2.length : Int) - x9_1))) = j_ := ⟨_, rfl⟩
       replace H : (if 0 ≤ x9_1 then (if x9_1 ≤ (wrap64 (x9_1 + (ji10))) then (if (wrap64 (x9_1 + (ji10))) ≤ (l2.length : Int) then ((mem_Memory_Write.f x1000_1 x1001_1 ((rd_T50 l1 x24_1).f0) ((l2.take ((wrap64 (x9_1 + (ji10))) : Int).toNat).drop (x9_1 : Int).toNat)).bind fun bt271 => (iov_Scatter.l0 k1 l2 (wrap64 (x9_1 + (ji10))) l1 (l1.length : Int) (wrap64 (x24_1 + 1)) bt271.2.1 bt271.2.2)) else (none)) else (none)) else (none)) = some (r1, r2, r3, r4) := by first | (rw [hji10] at H; exact H) | (simp only [hji10] at H ⊢; exact H)
       have hji10_ : (if (wrap64 ((l2.length : Int) - x9_1)) < ((rd_T50 l1 x24_1).f1) then (wrap64 ((l2.length : Int) - x9_1)) else ((rd_T50 l1 x24_1).f1)) = ji10 := hji10
       by_cases c11 : 0 ≤ x9_1
       ·rw [if_pos c11] at H
        have c11b0 := eq_true c11
        have c11b1 : decide (0 ≤ x9_1) = true := decide_eq_true c11
        clear c11
        by_cases c12 : x9_1 ≤ (wrap64 (x9_1 + (ji10)))
        ·rw [if_pos c12] at H
         have c12b0 := eq_true c12
         have c12b1 : decide (x9_1 ≤ (wrap64 (x9_1 + (ji10)))) = true := decide_eq_true c12
         by_cases c13 : (wrap64 (x9_1 + (ji10))) ≤ (l2.length : Int)
         ·rw [if_pos c13] at H
          have c13b0 := eq_true c13
          have c13b1 : decide ((wrap64 (x9_1 + (ji10))) ≤ (l2.length : Int)) = true := decide_eq_true c13
          obtain ⟨y267, hy267⟩ : ∃ y_ : List Int, y_ = ((l2.take ((wrap64 (x9_1 + (ji10))) : Int).toNat).drop (x9_1 : Int).toNat) := ⟨_, rfl⟩
          replace H : ((mem_Memory_Write.f x1000_1 x1001_1 ((rd_T50 l1 x24_1).f0) y267).bind fun bt271 => (iov_Scatter.l0 k1 l2 (wrap64 (x9_1 + (ji10))) l1 (l1.length : Int) (wrap64 (x24_1 + 1)) bt271.2.1 bt271.2.2)) = some (r1, r2, r3, r4) := by first | (rw [hy267]; with_reducible exact H) | (have H2_ := (Option.bind_some _ _).symm.trans H; rw [hy267]; with_reducible exact H2_) | (have H2_ := (Option.bind_some _ _).symm.trans H; with_reducible exact H2_) | with_reducible exact H | (rw [hy267]; exact H) | exact H
          have Ny267 := am_ hy267
          clear hy267
          replace H := bm_ H
          obtain ⟨⟨t271, t272, t275⟩, A140, H⟩ := H
          replace H : (iov_Scatter.l0 k1 l2 (wrap64 (x9_1 + (ji10))) l1 (l1.length : Int) (wrap64 (x24_1 + 1)) t272 t275) = some (r1, r2, r3, r4) := H
          have A14 := am_ A140
          clear A140
          have H' := am_ H
          clear H
          have p265 : 0 ≤ (x24_1 : Int) := of_decide_eq_true (by first | (with_reducible assumption) | assumption)
          have q265 : x24_1 < (l1.length : Int) := of_decide_eq_true (by first | (with_reducible assumption) | assumption)
          obtain ⟨ad265, e265, hx265_0, hx265_1⟩ := at_T50 (Kd.C_kept_now HR1.out HK.out) x24_1 p265 q265
          cases e265
          replace p265 := eq_true p265
          replace q265 := eq_true q265
          try go_wp2_with (first | ((with_reducible refine gate_dst (N := 12) rfl ?_); refine box_event ?hg (N := 12) ?hd (cs := #[.int .i64 0, .int .i64 0]) (t := 50) ?hr ?_; (case hd => rfl); (case hg => rfl); (case hr => first | (go_simp; done) | (go_simp; rfl)); intro gb266 hg w15 hbox hb; have n0_ := am_ (Kd.R_below (by (with_reducible repeat (first | apply Kd.R_alloc | apply Kd.R_drewN | apply Kd.R_drew)); exact HO_1000.out) hb); have n1_ := am_ (IsS72.below (by repeat (first | (with_reducible first | exact HI0.out | apply IsS72.alloc | apply IsS72.drewN | apply IsS72.drew | apply IsS72.set_0 | apply IsS72.set_1) | exact HI0.out)) hb); have n2_ := am_ (Kept.below (S := (fun k_ => (P0_0_ k_) ∨ k_ = g)) aa_0 hb); have n3_ := am_ (below_step (by repeat (first | (with_reducible first | exact HB.out | apply below_alloc | apply pw_below_drewN | apply below_drew1 | refine below_set ?_ (IsS72.ge HI0.out)) | exact HB.out)) hb); have n4_ := am_ (hbox); have n5_ := am_ ((by rw [hg]; exact aa_1 : w.heap.size ≤ gb266)); have n6_ := am_ ((by rw [hg]; exact (below_size (by repeat (first | (with_reducible first | exact HB.out | apply below_alloc | apply pw_below_drewN | apply below_drew1 | refine below_set ?_ (IsS72.ge HI0.out)) | exact HB.out))) : w0.heap.size ≤ gb266)); have n7_ := am_ ((by rw [hg]; exact Nat.ne_of_lt (IsS72.lt (show IsS72 w0 _ g u1000 x1001_1 from by repeat (first | (with_reducible first | exact HI0.out | apply IsS72.alloc | apply IsS72.drewN | apply IsS72.drew | apply IsS72.set_0 | apply IsS72.set_1) | exact HI0.out))) : g ≠ gb266)); have n8_ := am_ ((by rw [hg]; exact Nat.ne_of_gt (IsS72.lt (show IsS72 w0 _ g u1000 x1001_1 from by repeat (first | (with_reducible first | exact HI0.out | apply IsS72.alloc | apply IsS72.drewN | apply IsS72.drew | apply IsS72.set_0 | apply IsS72.set_1) | exact HI0.out))) : gb266 ≠ g)); clear HO_1000; clear HI0; clear HK; clear HB; have HO_1000 := n0_; have HI0 := n1_; have HK := n2_; have HB := n3_; have BK266 := n4_; have GW266 := n5_; have GE266 := n6_; have NB0_266 := n7_; have NB266_0 := n8_; clear n0_ n1_ n2_ n3_ n4_ n5_ n6_ n7_ n8_; clear hb hbox hg; have hnb16 := NB266_0.out; have hnc16 := NB0_266.out; have hcz17_0 : w15.cell? ⟨gb266, 0, none⟩ = some (.int .i64 0) := (bc BK266 0); have hcz17_1 : w15.cell? ⟨gb266, 1, none⟩ = some (.int .i64 0) := (bc BK266 1); have hfz17_0 := blk_frozen BK266.out 0; have hfz17_1 := blk_frozen BK266.out 1))
          have n0_ : Aside0 (Kd.R (Kd.int .u8) 5 ((w15.setCell ⟨gb266, 0, none⟩ (.int .i64 ((rd_T50 l1 x24_1).f0))).setCell ⟨gb266, 1, none⟩ (.int .i64 ((rd_T50 l1 x24_1).f1))) w0.heap.size (fun k_ => (P0_0_ k_ ∨ w.heap.size ≤ k_)) u1000 x1000_1) := ⟨by (with_reducible repeat (first | apply Kd.R_alloc | apply Kd.R_drewN | apply Kd.R_drew)); exact Kd.R_mono (Kd.R_far (p := ⟨gb266, 1, none⟩) (Kd.R_far (p := ⟨gb266, 0, none⟩) (Kd.R_types HO_1000.out BK266.out (by decide)) (fun _ hk => hk.2) (.int .i64 ((rd_T50 l1 x24_1).f0))) (fun _ hk => hk.2) (.int .i64 ((rd_T50 l1 x24_1).f1))) (fun _ hk => hk.1)⟩
          have n1_ : Aside0 (((w15.setCell ⟨gb266, 0, none⟩ (.int .i64 ((rd_T50 l1 x24_1).f0))).setCell ⟨gb266, 1, none⟩ (.int .i64 ((rd_T50 l1 x24_1).f1))).heap[gb266]? = some (.cells #[.int .i64 ((rd_T50 l1 x24_1).f0), .int .i64 ((rd_T50 l1 x24_1).f1)] 50 (0, 0))) := ⟨by (with_reducible repeat (first | refine blk_drewN ?_ _ | refine blk_drew ?_ | refine blk_alloc ?_ _)); refine blk_put (cs := #[.int .i64 ((rd_T50 l1 x24_1).f0), .int .i64 0]) ?_ 1 _ rfl; (with_reducible repeat (first | refine blk_drewN ?_ _ | refine blk_drew ?_ | refine blk_alloc ?_ _)); refine blk_put (cs := #[.int .i64 0, .int .i64 0]) ?_ 0 _ rfl; (with_reducible repeat (first | refine blk_drewN ?_ _ | refine blk_drew ?_ | refine blk_alloc ?_ _)); exact BK266.out⟩
          have n2_ : Aside0 (IsS72 w0 ((w15.setCell ⟨gb266, 0, none⟩ (.int .i64 ((rd_T50 l1 x24_1).f0))).setCell ⟨gb266, 1, none⟩ (.int .i64 ((rd_T50 l1 x24_1).f1))) g u1000 x1001_1) := ⟨aa_3⟩
          have n3_ : Aside0 (Kept w ((w15.setCell ⟨gb266, 0, none⟩ (.int .i64 ((rd_T50 l1 x24_1).f0))).setCell ⟨gb266, 1, none⟩ (.int .i64 ((rd_T50 l1 x24_1).f1))) (fun k_ => (P0_0_ k_) ∨ k_ = g)) := ⟨aa_2⟩
          have n4_ : Aside0 (Below w0.heap.size w0 ((w15.setCell ⟨gb266, 0, none⟩ (.int .i64 ((rd_T50 l1 x24_1).f0))).setCell ⟨gb266, 1, none⟩ (.int .i64 ((rd_T50 l1 x24_1).f1)))) := ⟨aa_4⟩
          (try clear HO_1000)
          (try clear BK266)
          (try clear HI0)
          (try clear HK)
          (try clear HB)
          generalize ((w15.setCell ⟨gb266, 0, none⟩ (.int .i64 ((rd_T50 l1 x24_1).f0))).setCell ⟨gb266, 1, none⟩ (.int .i64 ((rd_T50 l1 x24_1).f1))) = w18 at n0_ n1_ n2_ n3_ n4_ ⊢
          have HO_1000 := n0_
          have BK266 := n1_
          have HI0 := n2_
          have HK := n3_
          have HB := n4_
          clear n0_ n1_ n2_ n3_ n4_
          have n0_ := am_ (Kd.R_drew HO_1000.out)
          have n1_ := am_ (blk_drew BK266.out)
          have n2_ := am_ (IsS72.drew HI0.out)
          have n3_ := am_ (Kept.drew HK.out)
          have n4_ := am_ (below_drew1 HB.out)
          clear HO_1000
          clear BK266
          clear HI0
          clear HK
          clear HB
          have HO_1000 := n0_
          have BK266 := n1_
          have HI0 := n2_
          have HK := n3_
          have HB := n4_
          clear n0_ n1_ n2_ n3_ n4_
          have q20 : ((wrap64 (x9_1 + (ji10))) : Int) ≤ ((l2.length : Int) : Int) := of_decide_eq_true (by first | (with_reducible assumption) | assumption)
          obtain ⟨i020, hi020, _, hsz20, _⟩ := info_parts info5
          have hroom20 : l2.length ≤ c2 := HC2.out
          have hC20 : Kd.C (Kd.int .u8) _ A2 l2.length l2 := (Kd.C_kept_now HR2.out HK.out)
          have ql20 : (x9_1 : Int) ≤ ((wrap64 (x9_1 + (ji10))) : Int) := of_decide_eq_true (by first | (with_reducible assumption) | assumption)
          have q020 : (0 : Int) ≤ (x9_1 : Int) := of_decide_eq_true (by first | (with_reducible assumption) | assumption)
          have hcut20 := cut_mid (P := Try.prog) 23 5 .i64 .i64 Try.underlying23 hi020 1 hsz20 A2 l2.length c2 x9_1 (wrap64 (x9_1 + (ji10))) q020 ql20 q20 hroom20
          have hr20 := Kd.C_mid (lo := (x9_1 : Int).toNat) (hi := ((wrap64 (x9_1 + (ji10))) : Int).toNat) (c := c2) hC20 (by omega) (by omega) hroom20
          obtain ⟨A20, hA20⟩ : ∃ A1, A1 = (if c2 = (x9_1 : Int).toNat then A2 else (A2 : Option Addr).map (·.add ((x9_1 : Int).toNat * 1))) := ⟨_, rfl⟩
          obtain ⟨c20, hc20⟩ : ∃ c1, c1 = c2 - (x9_1 : Int).toNat := ⟨_, rfl⟩
          have hy20 : y267.length = ((wrap64 (x9_1 + (ji10))) : Int).toNat - (x9_1 : Int).toNat := (by rw [Ny267.out, List.length_drop, List.length_take] <;> omega)
          rw [show ((l2).take ((wrap64 (x9_1 + (ji10))) : Int).toNat).drop (x9_1 : Int).toNat = y267 from Ny267.out.symm] at hr20
          replace hr20 : Kd.C (Kd.int .u8) _ A20 y267.length y267 := (by rw [hA20]; exact hr20)
          rw [← hy20, ← hA20, ← hc20] at hcut20
          have HR270 := am_ hr20
          have HC270 := am_ (show y267.length ≤ c20 from by rw [hy20, hc20]; exact Nat.sub_le_sub_right (Nat.le_trans (by omega) hroom20) _)
          clear hr20 hC20 hroom20 hi020 hsz20 hc20
          have KY20 := am_ hy20
          have KA20 := am_ hA20
          clear hy20 hA20
          have KL20 := am_ (show ((wrap64 (x9_1 + (ji10))) : Int).toNat ≤ l2.length from by omega)
          have KM20 := am_ (show (x9_1 : Int).toNat ≤ ((wrap64 (x9_1 + (ji10))) : Int).toNat from by omega)
          replace q20 := eq_true q20
          refine start_ (n := 10) (S := fun w' => w'.cell? ⟨gb266, 0, none⟩ = some (.int .i64 ((rd_T50 l1 x24_1).f0)) ∧ w'.cell? ⟨gb266, 1, none⟩ = some (.int .i64 ((rd_T50 l1 x24_1).f1))) (ds := []) bb10_ (by kernel_rfl) rfl rfl ⟨bc BK266 0, bc BK266 1⟩ (fun hHeld => ?_); refine with_tabW iov_Scatter.tab10 iov_Scatter.bits10 (fun HT_ HW_ => ?_)
          generalize w18.drew = w19 at HO_1000 BK266 HI0 HK HB HR270 hHeld ⊢
          refine pure_ (i := 0) (N := some 35) (v := ?_) (a' := ?_) bb9_ rfl rfl (any_of HT_.out (by kernel_rfl)) (fun _ _ _ h => h) (Or.inl ⟨by rfl, ?_⟩) ?_ ?_
          rotate_left; · intro w'; go_simp; with_reducible rfl
          rotate_left; · simp only [Act.put, e1, e2, e3, i64_w, i32_w]; rfl
          refine pure_ (i := 1) (N := some 36) (v := ?_) (a' := ?_) bb8_ rfl rfl (any_of HT_.out (by kernel_rfl)) (fun _ _ _ h => h) (Or.inl ⟨by rfl, ?_⟩) ?_ ?_
          rotate_left; · intro w'; go_simp; with_reducible rfl
          rotate_left; · simp only [Act.put, e1, e2, e3, i64_w, i32_w]; rfl
          refine pure_ (i := 3) (N := some 38) (v := ?_) (a' := ?_) bb7_ rfl rfl (any_of HT_.out (by kernel_rfl)) (fun _ _ _ h => h) (Or.inl ⟨by rfl, ?_⟩) ?_ ?_
          rotate_left; · intro w'; go_simp; with_reducible rfl
          rotate_left; · simp only [Act.put, e1, e2, e3, i64_w, i32_w]; rfl
          refine pure_ (i := 4) (N := some 39) (v := ?_) (a' := ?_) bb6_ rfl rfl (any_of HT_.out (by kernel_rfl)) (fun _ _ _ h => h) (Or.inl ⟨by rfl, ?_⟩) ?_ ?_
          rotate_left; · intro w'; go_simp; with_reducible rfl
          rotate_left; · simp only [Act.put, e1, e2, e3, i64_w, i32_w]; rfl
          refine pure_ (i := 5) (N := some 40) (v := ?_) (a' := ?_) bb5_ rfl rfl (any_of HT_.out (by kernel_rfl)) (fun _ _ _ h => h) (Or.inl ⟨by rfl, ?_⟩) ?_ ?_
          rotate_left; · intro w'; go_simp; with_reducible rfl
          rotate_left; · simp only [Act.put, e1, e2, e3, i64_w, i32_w]; rfl
          refine pure_ (i := 6) (N := some 41) (v := ?_) (a' := ?_) bb4_ rfl rfl (any_of HT_.out (by kernel_rfl)) (fun _ _ _ h => h) (Or.inl ⟨by rfl, ?_⟩) ?_ ?_
          rotate_left; · intro w'; go_simp; with_reducible rfl
          rotate_left; · simp only [Act.put, e1, e2, e3, i64_w, i32_w]; rfl
          refine pure_ (i := 7) (N := some 42) (v := ?_) (a' := ?_) bb3_ rfl rfl (any_of HT_.out (by kernel_rfl)) (fun _ _ _ h => h) (Or.inl ⟨by rfl, ?_⟩) ?_ ?_
          rotate_left; · intro w'; go_simp; with_reducible rfl
          rotate_left; · simp only [Act.put, e1, e2, e3, i64_w, i32_w]; rfl
          refine pure_ (i := 8) (N := some 43) (v := ?_) (a' := ?_) bb2_ rfl rfl (any_of HT_.out (by kernel_rfl)) (fun _ _ _ h => h) (Or.inl ⟨by rfl, ?_⟩) ?_ ?_
          rotate_left; · intro w'; go_simp; with_reducible rfl
          rotate_left; · simp only [Act.put, e1, e2, e3, i64_w, i32_w]; rfl
          refine take_ (i := 2) (N := some 37) (v := ?_) (a' := ?_) bb1_ rfl rfl (take_ofW HT_.out HW_.out (by kernel_rfl)) (fun _ _ _ h => h) (Or.inl ⟨by rfl, ?_⟩) hHeld ?_ ?_
          rotate_left; · rintro w' ⟨s0, s1⟩; go_simp; with_reducible rfl
          rotate_left; · simp only [Act.put, e1, e2, e3, i64_w, i32_w]; rfl
          refine one_ (i := 9) (N := some 44) bb0_ rfl rfl (one_of HT_.out (by kernel_rfl)) (by decide) (fun K hK => ?_)
          refine Go.Proofs.YtdoaininjfbemaaO.goesRM_ Try.func24 (by kernel_rfl) rfl #[.pointer (some ⟨g, 0, none⟩), .int .i64 ((rd_T50 l1 x24_1).f0), .slice A20 y267.length c20] (by rfl) rfl rfl (by rfl) (by (try simp only [List.map_toArray, List.map_cons, List.map_nil]); first | done | rfl | (simp; done) | rfl | (simp only [List.length_drop, List.length_take]; rfl)) ?_
          with_reducible refine (mem_Memory_Write.calls g (fun k_ => some k_ = (u1000 : Value).ownBlock) u1000 x1000_1 x1001_1 ((rd_T50 l1 x24_1).f0) _ _ y267 t271 t272 t275 w0 _ ?side1 ?side2 ?side3 ?side4 ?side5 A14.out).mono ?_
          (case side1 => exact aa_3)
          (case side2 => exact aa_4)
          (case side3 => exact Kd.R_tight rfl HO_1000.out)
          (case side4 => exact fun W_ hk_ => (show Kd.C (Kd.int .u8) W_ A20 y267.length y267 from by rw [Ny267.out, KA20.out]; exact Kd.C_mid (lo := (x9_1 : Int).toNat) (hi := ((wrap64 (x9_1 + (ji10))) : Int).toNat) (c := c2) (Kd.C_kept_call HR2.out aa_2 (fun k_ hs_ => Or.elim hs_ (fun hs_ => (fun e_ => Or.imp_left Or.inl ((HO_1000.out.1 k_ e_.symm))) hs_) (fun e_ => .inl (.inr e_))) W_ hk_) KM20.out KL20.out HC2.out))
          (case side5 => exact HC270.out)
          rintro e w21 ⟨v273, rfl, ho0, hi, hb, hkp⟩
          refine ⟨_, rfl, ?_⟩
          have n0_ := am_ (hi)
          have n1_ := am_ (bkept BK266 (by (with_reducible repeat (first | refine blk_drewN ?_ _ | refine blk_drew ?_ | refine blk_alloc ?_ _)); exact BK266.out) hkp (fun hs_ => Or.elim hs_ (fun hs_ => (fun e_ => (Kd.R_ne HO_1000.out BK266.out (by decide)) e_) hs_) (fun e_ => NB266_0.out e_)))
          have n2_ := am_ (Kd.R_mono (ok' := fun k_ => (P0_0_ k_ ∨ w.heap.size ≤ k_)) ho0 (fun k_ hk_ => Or.elim hk_ (fun hs_ => (HO_1000.out.1 k_ (hs_).symm)) (fun hn_ => (.inr (Nat.le_trans (by first | exact HK.out.1 | exact (show Kept w _ (fun k_ => (P0_0_ k_) ∨ k_ = g) from by repeat (first | (with_reducible first | exact HK.out | apply Kept.alloc | apply Kept.drewN | apply Kept.drew | refine Kept.setCell ?_ (.inl (.inr rfl)) _ | refine Kept.setCell ?_ (.inr GW266.out) _) | exact HK.out)).1) hn_)))))
          have n3_ := am_ (Kept.then_ (S := (fun k_ => (P0_0_ k_) ∨ k_ = g)) aa_2 hkp (fun k_ hs_ => Or.elim hs_ (fun hs_ => (fun e_ => Or.imp_left Or.inl ((HO_1000.out.1 k_ e_.symm))) hs_) (fun e_ => .inl (.inr e_))))
          have n4_ := am_ (hb)
          have n5_ := am_ ((show Kd.C (Kd.int .u8) w21 A20 y267.length y267 from by rw [Ny267.out, KA20.out]; exact Kd.C_mid (lo := (x9_1 : Int).toNat) (hi := ((wrap64 (x9_1 + (ji10))) : Int).toNat) (c := c2) (Kd.C_kept_now HR2.out (show Kept w w21 (fun k_ => (P0_0_ k_) ∨ k_ = g) from (Kept.then_ (S := (fun k_ => (P0_0_ k_) ∨ k_ = g)) aa_2 hkp (fun k_ hs_ => Or.elim hs_ (fun hs_ => (fun e_ => Or.imp_left Or.inl ((HO_1000.out.1 k_ e_.symm))) hs_) (fun e_ => .inl (.inr e_)))))) KM20.out KL20.out HC2.out))
          clear HI0
          clear BK266
          clear HK
          clear HB
          clear HR270
          clear HO_1000
          have HI0 := n0_
          have BK266 := n1_
          have HO274 := n2_
          have HK := n3_
          have HB := n4_
          have HR270 := n5_
          clear n0_ n1_ n2_ n3_ n4_ n5_
          (try clear hb)
          (try clear hkp)
          (try clear ho0)
          refine hK.out _ _ ⟨bc BK266 0, bc BK266 1⟩ (fun hHeld => ?_)
          clear hK K
          refine norm_ (a' := ?_) ?_ ?_
          rotate_left
          ·show Act.put _ (some 44) _ = _
           simp only [Act.put, e1, e2, e3, i64_w, i32_w]
           rfl
          refine done_ (done_of HT_.out (by kernel_rfl)) ?_
          try go_wp2
          go_roundg k1
          case measure => have := HK1.out; omega
          case rel => exact ⟨(wrap64 (x9_1 + (ji10))), (wrap64 (x24_1 + 1)), (t272), (t275), (v273), (by first | rfl | (simp; done) | (simp only [← hji10] <;> (first | rfl | simp)) | (simp [*]; done)), (by first | rfl | (simp; done) | (simp [*]; done)), H', ⟨by have := HK1.out; omega⟩, ⟨by (with_reducible repeat (first | apply Kd.R_alloc | apply Kd.R_drewN | apply Kd.R_drew)); exact HO274.out⟩, ⟨aa_3⟩, ⟨aa_2⟩, ⟨aa_4⟩⟩
         ·rw [if_neg c13] at H
          exact absurd H (by simp)
        ·rw [if_neg c12] at H
         exact absurd H (by simp)
       ·rw [if_neg c11] at H
        exact absurd H (by simp)
      ·rw [if_neg c9] at H
       exact absurd H (by simp)
     ·rw [if_neg c8] at H
      exact absurd H (by simp)
    ·rw [if_neg c7] at H
     have c7b0 : decide (x24_1 < (l1.length : Int)) = false := decide_eq_false c7
     clear c7
     simp only [Option.some.injEq, Prod.mk.injEq] at H
     obtain ⟨rfl, rfl, rfl, rfl⟩ := H
     go_wp2
     go_ret2
     exact ⟨_, by first | rfl | (simp [errW_none, errW_some] <;> rfl) | (simp [*, errW_none, errW_some] <;> rfl), by (with_reducible repeat (first | apply Kd.R_alloc | apply Kd.R_drewN | apply Kd.R_drew)); exact HO_1000.out, by repeat (first | (with_reducible first | exact HI0.out | apply IsS72.alloc | apply IsS72.drewN | apply IsS72.drew | apply IsS72.set_0 | apply IsS72.set_1) | exact HI0.out), by repeat (first | (with_reducible first | exact HB.out | apply below_alloc | apply pw_below_drewN | apply below_drew1 | refine below_set ?_ (IsS72.ge HI0.out)) | exact HB.out), by repeat (first | (with_reducible first | exact HK.out | apply Kept.alloc | apply Kept.drewN | apply Kept.drew | refine Kept.setCell ?_ (.inl (.inr rfl)) _) | exact HK.out)⟩
 ·rw [if_neg c5] at H
  have c5b0 : (t260 == 0) = false := beq_eq_false_iff_ne.mpr c5
  have c5b1 : (t260 != 0) = true := bne_iff_ne.mpr c5
  simp only [Option.some.injEq, Prod.mk.injEq] at H
  obtain ⟨rfl, rfl, rfl, rfl⟩ := H
  go_enter Try.func15, Try.ntmps15
  go_wp2_with (first | ((with_reducible refine gate_callee (f := 28) rfl ?_); refine goesL_ (some 16) rfl rfl Try.func28 (by kernel_rfl) rfl #[.pointer (some ⟨g, 0, none⟩), .slice A1 l1.length c1] rfl (by (try simp only [List.map_toArray, List.map_cons, List.map_nil]); first | done | rfl | (simp only [List.length_drop, List.length_take]; rfl)) ?_; (with_reducible refine (iov_all.calls g (fun k_ => some k_ = (u9000_ : Value).ownBlock) u9000_ l0_0 s0_1 _ _ l1 t260 t261 t264 w0 _ ?side1 ?side2 ?side3 ?side4 ?side5 A4.out).mono ?_); (case side1 => exact aa_5); (case side2 => exact aa_6); (case side3 => exact Kd.R_tight rfl HO0_0.out); (case side4 => exact Kd.C_kept_call HR1.out aa_0 (fun k_ hs_ => Or.elim hs_ (fun hs_ => (fun e_ => Or.imp_left Or.inl ((HO0_0.out.1 k_ e_.symm))) hs_) (fun e_ => .inl (.inr e_)))); (case side5 => exact HC1.out); rintro e w22 ⟨v262, rfl, ho0, hi, hb, hkp⟩; refine ⟨_, rfl, ?_⟩; have n0_ := am_ (hi); have n1_ := am_ (Kd.R_mono (ok' := fun k_ => (P0_0_ k_ ∨ w.heap.size ≤ k_)) ho0 (fun k_ hk_ => Or.elim hk_ (fun hs_ => (HO0_0.out.1 k_ (hs_).symm)) (fun hn_ => (.inr (Nat.le_trans aa_1 hn_))))); have n2_ := am_ (Kept.then_ (S := (fun k_ => (P0_0_ k_) ∨ k_ = g)) aa_0 hkp (fun k_ hs_ => Or.elim hs_ (fun hs_ => (fun e_ => Or.imp_left Or.inl ((HO0_0.out.1 k_ e_.symm))) hs_) (fun e_ => .inl (.inr e_)))); have n3_ := am_ (hb); clear HI0; clear HK; clear HB; clear HO0_0; have HI0 := n0_; have HO263 := n1_; have HK := n2_; have HB := n3_; clear n0_ n1_ n2_ n3_; (try clear hb); (try clear hkp); (try clear ho0)))
  go_ret2
  exact ⟨_, by first | rfl | (simp [errW_none, errW_some] <;> rfl) | (simp [*, errW_none, errW_some] <;> rfl), by (with_reducible repeat (first | apply Kd.R_alloc | apply Kd.R_drewN | apply Kd.R_drew)); exact HO263.out, by repeat (first | (with_reducible first | exact HI0.out | apply IsS72.alloc | apply IsS72.drewN | apply IsS72.drew | apply IsS72.set_0 | apply IsS72.set_1) | exact HI0.out), by repeat (first | (with_reducible first | exact HB.out | apply below_alloc | apply pw_below_drewN | apply below_drew1 | refine below_set ?_ (IsS72.ge HI0.out)) | exact HB.out), by repeat (first | (with_reducible first | exact HK.out | apply Kept.alloc | apply Kept.drewN | apply Kept.drew | refine Kept.setCell ?_ (.inl (.inr rfl)) _) | exact HK.out)⟩

/-! ### iov_Scatter: function 15 (by hand) -/
def iov_Scatter_nil.f : Option (Int × Int) := some (0, 100)
set_option maxHeartbeats 8000000 in
set_option maxRecDepth 100000 in
theorem iov_Scatter_nil.calls (r1 r2 : Int) (w : World) (h : iov_Scatter_nil.f = some (r1, r2)) :
    Calls Try.prog 15 #[.pointer none, .slice none 0 0, .slice none 0 0] w fun e w' => e = .returned (.tuple #[.int .i64 r1, .int .i64 r2]) ∧ Below w.heap.size w w' := by
  simp only [iov_Scatter_nil.f, Option.some.injEq, Prod.mk.injEq] at h
  obtain ⟨rfl, rfl⟩ := h
  have hmf : ∀ (fn : Fn) (first cap : Array Value) (w : World), (Instr.makeFunc fn first cap).run Try.prog w = .ok (.func fn first cap) w := fun _ _ _ _ => rfl
  go_enter Try.func15, Try.ntmps15
  go_wp2_with (first
    | (go_at_call 28; (refine (iov_all_nil.calls _).mono ?_); rintro e w1 ⟨rfl, hb1⟩))
  go_ret2
  exact ⟨rfl, by repeat (first | exact hb1 | (exact below_step (by repeat (first | exact Below.refl _ _ | apply pw_below_drewN | apply below_drew1 | apply below_alloc)) hb1) | apply pw_below_drewN | apply below_drew1 | apply below_alloc)⟩


end Go.Proofs.Ytdoaininjfbemaa.PAll
