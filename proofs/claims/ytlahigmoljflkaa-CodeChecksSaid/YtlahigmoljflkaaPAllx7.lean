/- Printed by a copy of the printer that was turned for this claim: functions as plain Lean functions, with proofs that their calls come to these; or words that such proofs use. -/
import Derived.Test.YtlahigmoljflkaaPAllx0
import Derived.Test.YtlahigmoljflkaaPAllx1
import Derived.Test.YtlahigmoljflkaaPAllx6
namespace Go.Proofs.Ytlahigmoljflkaa.PAll
open Go.RowKit Go.Proofs.YtlahigmoljflkaaW.PrintWords Go.Proofs.YtlahigmoljflkaaW.PrintLast Go.Proofs.YtlahigmoljflkaaW.PrintMore
attribute [local go_sem] max2_int min2_int max_two min_two max_three min_three max_four min_four   -- for this text's walks alone
set_option linter.unusedVariables false
set_option linter.unusedSimpArgs false

abbrev gangwayref0_EqInstrs.t : Bool := true
abbrev gangwayref0_EqInstrs.f_ : Bool := false
def gangwayref0_EqInstrs.bb0_ : Array Bool := #[t, t, t, t, t, t, t, t, t, t]
def gangwayref0_EqInstrs.bb1_ : Array Bool := #[t, t, t, t, t, t, t, t, t, f_]
def gangwayref0_EqInstrs.bb2_ : Array Bool := #[t, t, t, t, t, t, t, t, f_, f_]
def gangwayref0_EqInstrs.bb3_ : Array Bool := #[t, t, t, t, t, t, t, f_, f_, f_]
def gangwayref0_EqInstrs.bb4_ : Array Bool := #[t, t, t, f_, t, t, t, f_, f_, f_]
def gangwayref0_EqInstrs.bb5_ : Array Bool := #[t, t, t, f_, t, t, f_, f_, f_, f_]
def gangwayref0_EqInstrs.bb6_ : Array Bool := #[t, t, t, f_, t, f_, f_, f_, f_, f_]
def gangwayref0_EqInstrs.bb7_ : Array Bool := #[t, t, t, f_, f_, f_, f_, f_, f_, f_]
def gangwayref0_EqInstrs.bb8_ : Array Bool := #[t, t, f_, f_, f_, f_, f_, f_, f_, f_]
def gangwayref0_EqInstrs.bb9_ : Array Bool := #[t, f_, f_, f_, f_, f_, f_, f_, f_, f_]
def gangwayref0_EqInstrs.bb10_ : Array Bool := #[f_, f_, f_, f_, f_, f_, f_, f_, f_, f_]
theorem gangwayref0_EqInstrs.bc {w : World} {g : Nat} {cs : Array Value} {t : TypeId} (h : Aside0 (w.heap[g]? = some (.cells cs t (0, 0)))) (i : Nat) {v : Value} (e : cs[i]? = some v := by rfl) : w.cell? ⟨g, i, none⟩ = some v := (blk_cell h.out i).trans e
theorem gangwayref0_EqInstrs.bbelow {W0 w w1 : World} {g : Nat} {o : Obj} (_b : Aside0 (W0.heap[g]? = some o)) (h : w.heap[g]? = some o) (hb : Below w.heap.size w w1) : w1.heap[g]? = some o := blk_below h hb
theorem gangwayref0_EqInstrs.e1 {α : Type _} (xs : List α) (i : Nat) (a : α) : xs.toArray.setIfInBounds i a = (xs.set i a).toArray := by simp
theorem gangwayref0_EqInstrs.e2 {α : Type _} (x a : α) (xs : List α) : (x :: xs).set 0 a = a :: xs := rfl
theorem gangwayref0_EqInstrs.e3 {α : Type _} (x a : α) (xs : List α) (n : Nat) : (x :: xs).set (n + 1) a = x :: xs.set n a := rfl
theorem gangwayref0_EqInstrs.up {w w' : World} {a : Addr} {v : Value} (hb : Aside0 (Below w.heap.size w w')) (h : w.cell? a = some v) : w'.cell? a = some v := (hb.out.cell (World.block_lt_of_cell? w _ h)).trans h
mutual
def gangwayref0_EqInstrs.q.f : Nat → Int → Int → Int → Int → Int → Int → List Int → List (S45) → List (S45) → Int → Int → Int → Int → Int → Int → List Int → List (S45) → List (S45) → Option (Bool)
 | 0, _, _, _, _, _, _, _, _, _, _, _, _, _, _, _, _, _, _ => none
 | k + 1, a0_0, a0_1, a0_2, a0_3, a0_4, a0_5, l0_6, l0_7, l0_8, a1_0, a1_1, a1_2, a1_3, a1_4, a1_5, l1_6, l1_7, l1_8 => if a0_0 = a1_0 then (if a0_1 = a1_1 then (if a0_2 = a1_2 then (if a0_3 = a1_3 then (if a0_4 = a1_4 then (if a0_5 = a1_5 then ((gangwayref0_EqNumbers.f k l0_6 l1_6).bind fun t239 => (if t239 = true then ((gangwayref0_EqInstrs.f k l0_7 l1_7).bind fun t240 => (if t240 = true then ((gangwayref0_EqInstrs.f k l0_8 l1_8).bind fun t241 => (some t241)) else (some false))) else (some false))) else (some false)) else (some false)) else (some false)) else (some false)) else (some false)) else (some false)
def gangwayref0_EqInstrs.l0 : Nat → List (S45) → List (S45) → Int → Option (Bool)
 | 0, _, _, _ => none
 | k + 1, x0, x1, x5 => if x5 < (x0.length : Int) then (if 0 ≤ x5 then (if x5 < (x1.length : Int) then ((gangwayref0_EqInstrs.q.f k ((rd_T45 x0 x5).f0) ((rd_T45 x0 x5).f1) ((rd_T45 x0 x5).f2) ((rd_T45 x0 x5).f3) ((rd_T45 x0 x5).f4) ((rd_T45 x0 x5).f5) ((rd_T45 x0 x5).f6) ((rd_T45 x0 x5).f7) ((rd_T45 x0 x5).f8) ((rd_T45 x1 x5).f0) ((rd_T45 x1 x5).f1) ((rd_T45 x1 x5).f2) ((rd_T45 x1 x5).f3) ((rd_T45 x1 x5).f4) ((rd_T45 x1 x5).f5) ((rd_T45 x1 x5).f6) ((rd_T45 x1 x5).f7) ((rd_T45 x1 x5).f8)).bind fun t244 => (if t244 = true then (gangwayref0_EqInstrs.l0 k x0 x1 (wrap64 (x5 + 1))) else (some false))) else (none)) else (none)) else (some true)
def gangwayref0_EqInstrs.f : Nat → List (S45) → List (S45) → Option (Bool)
 | 0, _, _ => none
 | k + 1, l0, l1 => if (l0.length : Int) = (l1.length : Int) then (gangwayref0_EqInstrs.l0 k l0 l1 0) else (some false)
end
theorem gangwayref0_EqInstrs.mono_l : ∀ k, (∀ y0 y1, LeO (gangwayref0_EqInstrs.f k y0 y1) (gangwayref0_EqInstrs.f (k + 1) y0 y1)) ∧ (∀ y0 y1 y2, LeO (gangwayref0_EqInstrs.l0 k y0 y1 y2) (gangwayref0_EqInstrs.l0 (k + 1) y0 y1 y2)) ∧ (∀ y0 y1 y2 y3 y4 y5 y6 y7 y8 y9 y10 y11 y12 y13 y14 y15 y16 y17, LeO (gangwayref0_EqInstrs.q.f k y0 y1 y2 y3 y4 y5 y6 y7 y8 y9 y10 y11 y12 y13 y14 y15 y16 y17) (gangwayref0_EqInstrs.q.f (k + 1) y0 y1 y2 y3 y4 y5 y6 y7 y8 y9 y10 y11 y12 y13 y14 y15 y16 y17))
 | 0 => ⟨fun _ _ r h => by simp [gangwayref0_EqInstrs.f] at h, fun _ _ _ r h => by simp [gangwayref0_EqInstrs.l0] at h, fun _ _ _ _ _ _ _ _ _ _ _ _ _ _ _ _ _ _ r h => by simp [gangwayref0_EqInstrs.q.f] at h⟩
 | k + 1 => by
  obtain ⟨ih0, ih1, ih2⟩ := gangwayref0_EqInstrs.mono_l k
  refine ⟨?_, ?_, ?_⟩
  ·intro y0 y1
   unfold gangwayref0_EqInstrs.f
   repeat' first
   | (with_reducible apply ih0)
   | (with_reducible apply ih1)
   | (with_reducible apply ih2)
   | (with_reducible exact gangwayref0_EqNumbers.mono _ _ _)
   | (with_reducible exact LeO.refl _)
   | (with_reducible exact LeO.none _)
   | (with_reducible refine LeO.ite ?_ ?_)
   | (with_reducible refine LeO.bind ?_ (fun _ => ?_))
   | apply ih0
   | apply ih1
   | apply ih2
   | exact gangwayref0_EqNumbers.mono _ _ _
   | exact LeO.none _
   | refine LeO.ite ?_ ?_
   | refine LeO.bind ?_ (fun _ => ?_)
  ·intro y0 y1 y2
   unfold gangwayref0_EqInstrs.l0
   repeat' first
   | (with_reducible apply ih0)
   | (with_reducible apply ih1)
   | (with_reducible apply ih2)
   | (with_reducible exact gangwayref0_EqNumbers.mono _ _ _)
   | (with_reducible exact LeO.refl _)
   | (with_reducible exact LeO.none _)
   | (with_reducible refine LeO.ite ?_ ?_)
   | (with_reducible refine LeO.bind ?_ (fun _ => ?_))
   | apply ih0
   | apply ih1
   | apply ih2
   | exact gangwayref0_EqNumbers.mono _ _ _
   | exact LeO.none _
   | refine LeO.ite ?_ ?_
   | refine LeO.bind ?_ (fun _ => ?_)
  ·intro y0 y1 y2 y3 y4 y5 y6 y7 y8 y9 y10 y11 y12 y13 y14 y15 y16 y17
   unfold gangwayref0_EqInstrs.q.f
   repeat' first
   | (with_reducible apply ih0)
   | (with_reducible apply ih1)
   | (with_reducible apply ih2)
   | (with_reducible exact gangwayref0_EqNumbers.mono _ _ _)
   | (with_reducible exact LeO.refl _)
   | (with_reducible exact LeO.none _)
   | (with_reducible refine LeO.ite ?_ ?_)
   | (with_reducible refine LeO.bind ?_ (fun _ => ?_))
   | apply ih0
   | apply ih1
   | apply ih2
   | exact gangwayref0_EqNumbers.mono _ _ _
   | exact LeO.none _
   | refine LeO.ite ?_ ?_
   | refine LeO.bind ?_ (fun _ => ?_)
theorem gangwayref0_EqInstrs.mono : ∀ a0 a1 k, LeO (gangwayref0_EqInstrs.f k a0 a1) (gangwayref0_EqInstrs.f (k + 1) a0 a1) := by
 intro a0 a1 k
 obtain ⟨ih0, ih1, ih2⟩ := gangwayref0_EqInstrs.mono_l k
 exact ih0 a0 a1
theorem gangwayref0_EqInstrs.q.mono : ∀ a0 a1 a2 a3 a4 a5 a6 a7 a8 a9 a10 a11 a12 a13 a14 a15 a16 a17 k, LeO (gangwayref0_EqInstrs.q.f k a0 a1 a2 a3 a4 a5 a6 a7 a8 a9 a10 a11 a12 a13 a14 a15 a16 a17) (gangwayref0_EqInstrs.q.f (k + 1) a0 a1 a2 a3 a4 a5 a6 a7 a8 a9 a10 a11 a12 a13 a14 a15 a16 a17) := by
  intro a0 a1 a2 a3 a4 a5 a6 a7 a8 a9 a10 a11 a12 a13 a14 a15 a16 a17 k
  obtain ⟨ih0, ih1, ih2⟩ := gangwayref0_EqInstrs.mono_l k
  exact ih2 a0 a1 a2 a3 a4 a5 a6 a7 a8 a9 a10 a11 a12 a13 a14 a15 a16 a17

abbrev gangwayref0_EqInstrs.q.t : Bool := true
abbrev gangwayref0_EqInstrs.q.f_ : Bool := false
theorem gangwayref0_EqInstrs.q.bc {w : World} {g : Nat} {cs : Array Value} {t : TypeId} (h : Aside0 (w.heap[g]? = some (.cells cs t (0, 0)))) (i : Nat) {v : Value} (e : cs[i]? = some v := by rfl) : w.cell? ⟨g, i, none⟩ = some v := (blk_cell h.out i).trans e
theorem gangwayref0_EqInstrs.q.bbelow {W0 w w1 : World} {g : Nat} {o : Obj} (_b : Aside0 (W0.heap[g]? = some o)) (h : w.heap[g]? = some o) (hb : Below w.heap.size w w1) : w1.heap[g]? = some o := blk_below h hb
theorem gangwayref0_EqInstrs.q.e1 {α : Type _} (xs : List α) (i : Nat) (a : α) : xs.toArray.setIfInBounds i a = (xs.set i a).toArray := by simp
theorem gangwayref0_EqInstrs.q.e2 {α : Type _} (x a : α) (xs : List α) : (x :: xs).set 0 a = a :: xs := rfl
theorem gangwayref0_EqInstrs.q.e3 {α : Type _} (x a : α) (xs : List α) (n : Nat) : (x :: xs).set (n + 1) a = x :: xs.set n a := rfl
theorem gangwayref0_EqInstrs.q.aa_0 {p : Prop} (h : p := by repeat (first | (with_reducible first | exact HB.out | apply below_alloc | apply pw_below_drewN | apply below_drew1 | refine below_set ?_ GE237.out) | exact HB.out)) : p := h
theorem gangwayref0_EqInstrs.q.aa_1 {p : Prop} (h : p := by repeat (first | (with_reducible first | exact HB.out | apply below_alloc | apply pw_below_drewN | apply below_drew1) | exact HB.out)) : p := h
theorem gangwayref0_EqInstrs.q.aa_2 {p : Prop} (h : p := by (with_reducible repeat (first | refine blk_drewN ?_ _ | refine blk_drew ?_ | refine blk_alloc ?_ _)); exact BK237.out) : p := h
theorem gangwayref0_EqInstrs.q.aa_3 {p : Prop} (h : p := by repeat (first | (with_reducible first | exact HB.out | apply below_alloc | apply pw_below_drewN | apply below_drew1 | refine below_set ?_ GE237.out | refine below_set ?_ GE238.out) | exact HB.out)) : p := h
theorem gangwayref0_EqInstrs.q.aa_4 {p : Prop} (h : p := by repeat (first | exact (Kd.C_below HR0_6.out HB.out) | (with_reducible refine Kd.C_alloc ?_ _) | (with_reducible refine Kd.C_drewN ?_ _) | (with_reducible refine Kd.C_drew ?_))) : p := h
theorem gangwayref0_EqInstrs.q.aa_5 {p : Prop} (h : p := by repeat (first | exact (Kd.C_below HR1_6.out HB.out) | (with_reducible refine Kd.C_alloc ?_ _) | (with_reducible refine Kd.C_drewN ?_ _) | (with_reducible refine Kd.C_drew ?_))) : p := h
theorem gangwayref0_EqInstrs.q.aa_6 {p : Prop} (h : p := by repeat (first | exact (Kd.C_below HR0_7.out aa_3) | (with_reducible refine Kd.C_alloc ?_ _) | (with_reducible refine Kd.C_drewN ?_ _) | (with_reducible refine Kd.C_drew ?_))) : p := h
theorem gangwayref0_EqInstrs.q.aa_7 {p : Prop} (h : p := by repeat (first | exact (Kd.C_below HR1_7.out aa_3) | (with_reducible refine Kd.C_alloc ?_ _) | (with_reducible refine Kd.C_drewN ?_ _) | (with_reducible refine Kd.C_drew ?_))) : p := h
theorem gangwayref0_EqInstrs.q.am_ {p : Prop} (h : p) : Aside0 p := Aside0.mk h
theorem gangwayref0_EqInstrs.q.bm_ {α β : Type _} {o : Option α} {f : α → Option β} {b : β} (h : o.bind f = some b) : ∃ a, o = some a ∧ f a = some b := Option.bind_eq_some_iff.mp h
set_option maxHeartbeats 8000000 in
set_option maxRecDepth 100000 in
theorem gangwayref0_EqInstrs.q.step (k : Nat) (ih : ∀ kq_, kq_ < k → ∀ (A0 : Option Addr) (c0 : Nat) (l0 : List (S45)) (A1 : Option Addr) (c1 : Nat) (l1 : List (S45)) (r : Bool) (w : World) (hr0 : Kd.C k45 w A0 l0.length l0) (hc0 : l0.length ≤ c0) (hr1 : Kd.C k45 w A1 l1.length l1) (hc1 : l1.length ≤ c1) (h : gangwayref0_EqInstrs.f kq_ l0 l1 = some r),
  Calls Try.prog 14 #[.slice A0 l0.length c0, .slice A1 l1.length c1] w fun e w' => e = .returned (.bool r) ∧ Below w.heap.size w w') : ∀ (a0_0 : Int) (a0_1 : Int) (a0_2 : Int) (a0_3 : Int) (a0_4 : Int) (a0_5 : Int) (A0_6 : Option Addr) (c0_6 : Nat) (l0_6 : List Int) (A0_7 : Option Addr) (c0_7 : Nat) (l0_7 : List (S45)) (A0_8 : Option Addr) (c0_8 : Nat) (l0_8 : List (S45)) (a1_0 : Int) (a1_1 : Int) (a1_2 : Int) (a1_3 : Int) (a1_4 : Int) (a1_5 : Int) (A1_6 : Option Addr) (c1_6 : Nat) (l1_6 : List Int) (A1_7 : Option Addr) (c1_7 : Nat) (l1_7 : List (S45)) (A1_8 : Option Addr) (c1_8 : Nat) (l1_8 : List (S45)) (r : Bool) (w : World) (hr0_6 : Kd.C (Kd.int .i64) w A0_6 l0_6.length l0_6) (hc0_6 : l0_6.length ≤ c0_6) (hr0_7 : Kd.C k45 w A0_7 l0_7.length l0_7) (hc0_7 : l0_7.length ≤ c0_7) (hr0_8 : Kd.C k45 w A0_8 l0_8.length l0_8) (hc0_8 : l0_8.length ≤ c0_8) (hr1_6 : Kd.C (Kd.int .i64) w A1_6 l1_6.length l1_6) (hc1_6 : l1_6.length ≤ c1_6) (hr1_7 : Kd.C k45 w A1_7 l1_7.length l1_7) (hc1_7 : l1_7.length ≤ c1_7) (hr1_8 : Kd.C k45 w A1_8 l1_8.length l1_8) (hc1_8 : l1_8.length ≤ c1_8) (h : gangwayref0_EqInstrs.q.f k a0_0 a0_1 a0_2 a0_3 a0_4 a0_5 l0_6 l0_7 l0_8 a1_0 a1_1 a1_2 a1_3 a1_4 a1_5 l1_6 l1_7 l1_8 = some r),
  Calls Try.prog 26 #[.agg #[.int .i64 a0_0, .int .i64 a0_1, .int .i64 a0_2, .int .i64 a0_3, .int .i64 a0_4, .int .i64 a0_5, .slice A0_6 l0_6.length c0_6, .slice A0_7 l0_7.length c0_7, .slice A0_8 l0_8.length c0_8], .agg #[.int .i64 a1_0, .int .i64 a1_1, .int .i64 a1_2, .int .i64 a1_3, .int .i64 a1_4, .int .i64 a1_5, .slice A1_6 l1_6.length c1_6, .slice A1_7 l1_7.length c1_7, .slice A1_8 l1_8.length c1_8]] w fun e w' => e = .returned (.bool r) ∧ Below w.heap.size w w' := by
 intro a0_0 a0_1 a0_2 a0_3 a0_4 a0_5 A0_6 c0_6 l0_6 A0_7 c0_7 l0_7 A0_8 c0_8 l0_8 a1_0 a1_1 a1_2 a1_3 a1_4 a1_5 A1_6 c1_6 l1_6 A1_7 c1_7 l1_7 A1_8 c1_8 l1_8 r w hr0_6 hc0_6 hr0_7 hc0_7 hr0_8 hc0_8 hr1_6 hc1_6 hr1_7 hc1_7 hr1_8 hc1_8 h
 cases k with
 | zero => exact absurd h (by simp [gangwayref0_EqInstrs.q.f])
 | succ k =>
 simp only [gangwayref0_EqInstrs.q.f] at h
 have hu45 := Try.underlying45
 have HR0_6 := am_ hr0_6
 have HC0_6 := am_ hc0_6
 clear hr0_6 hc0_6
 have HR0_7 := am_ hr0_7
 have HC0_7 := am_ hc0_7
 clear hr0_7 hc0_7
 have HR0_8 := am_ hr0_8
 have HC0_8 := am_ hc0_8
 clear hr0_8 hc0_8
 have HR1_6 := am_ hr1_6
 have HC1_6 := am_ hc1_6
 clear hr1_6 hc1_6
 have HR1_7 := am_ hr1_7
 have HC1_7 := am_ hc1_7
 clear hr1_7 hc1_7
 have HR1_8 := am_ hr1_8
 have HC1_8 := am_ hc1_8
 clear hr1_8 hc1_8
 have HB := am_ (Below.refl w.heap.size w)
 have H : (if a0_0 = a1_0 then (if a0_1 = a1_1 then (if a0_2 = a1_2 then (if a0_3 = a1_3 then (if a0_4 = a1_4 then (if a0_5 = a1_5 then ((gangwayref0_EqNumbers.f k l0_6 l1_6).bind fun t239 => (if t239 = true then ((gangwayref0_EqInstrs.f k l0_7 l1_7).bind fun t240 => (if t240 = true then ((gangwayref0_EqInstrs.f k l0_8 l1_8).bind fun t241 => (some t241)) else (some false))) else (some false))) else (some false)) else (some false)) else (some false)) else (some false)) else (some false)) else (some false)) = some r := h
 clear h
 by_cases c3 : a0_0 = a1_0
 ·rw [if_pos c3] at H
  have c3b0 : (a0_0 == a1_0) = true := beq_iff_eq.mpr c3
  have c3b1 : (a0_0 != a1_0) = false := bne_eq_false_iff_eq.mpr c3
  clear c3
  by_cases c4 : a0_1 = a1_1
  ·rw [if_pos c4] at H
   have c4b0 : (a0_1 == a1_1) = true := beq_iff_eq.mpr c4
   have c4b1 : (a0_1 != a1_1) = false := bne_eq_false_iff_eq.mpr c4
   clear c4
   by_cases c5 : a0_2 = a1_2
   ·rw [if_pos c5] at H
    have c5b0 : (a0_2 == a1_2) = true := beq_iff_eq.mpr c5
    have c5b1 : (a0_2 != a1_2) = false := bne_eq_false_iff_eq.mpr c5
    clear c5
    by_cases c6 : a0_3 = a1_3
    ·rw [if_pos c6] at H
     have c6b0 : (a0_3 == a1_3) = true := beq_iff_eq.mpr c6
     have c6b1 : (a0_3 != a1_3) = false := bne_eq_false_iff_eq.mpr c6
     clear c6
     by_cases c7 : a0_4 = a1_4
     ·rw [if_pos c7] at H
      have c7b0 : (a0_4 == a1_4) = true := beq_iff_eq.mpr c7
      have c7b1 : (a0_4 != a1_4) = false := bne_eq_false_iff_eq.mpr c7
      clear c7
      by_cases c8 : a0_5 = a1_5
      ·rw [if_pos c8] at H
       have c8b0 : (a0_5 == a1_5) = true := beq_iff_eq.mpr c8
       have c8b1 : (a0_5 != a1_5) = false := bne_eq_false_iff_eq.mpr c8
       clear c8
       replace H := bm_ H
       obtain ⟨t239, A90, H⟩ := H
       replace H : (if t239 = true then ((gangwayref0_EqInstrs.f k l0_7 l1_7).bind fun t240 => (if t240 = true then ((gangwayref0_EqInstrs.f k l0_8 l1_8).bind fun t241 => (some t241)) else (some false))) else (some false)) = some r := H
       have A9 := am_ A90
       clear A90
       by_cases c10 : t239 = true
       ·subst c10
        have H1 : ((gangwayref0_EqInstrs.f k l0_7 l1_7).bind fun t240 => (if t240 = true then ((gangwayref0_EqInstrs.f k l0_8 l1_8).bind fun t241 => (some t241)) else (some false))) = some r := by rw [if_pos rfl] at H; exact H
        clear H
        have H := H1
        clear H1
        replace H := bm_ H
        obtain ⟨t240, A110, H⟩ := H
        replace H : (if t240 = true then ((gangwayref0_EqInstrs.f k l0_8 l1_8).bind fun t241 => (some t241)) else (some false)) = some r := H
        have A11 := am_ A110
        clear A110
        by_cases c12 : t240 = true
        ·subst c12
         have H1 : ((gangwayref0_EqInstrs.f k l0_8 l1_8).bind fun t241 => (some t241)) = some r := by rw [if_pos rfl] at H; exact H
         clear H
         have H := H1
         clear H1
         replace H := bm_ H
         obtain ⟨t241, A130, H⟩ := H
         replace H : (some t241) = some r := H
         have A13 := am_ A130
         clear A130
         obtain rfl := Option.some.inj H
         go_enter Try.func26, Try.ntmps26
         go_wp2_with (first | ((with_reducible refine gate_dst (N := 2) rfl ?_); refine box_event ?hg (N := 2) ?hd (cs := #[.int .i64 a0_0, .int .i64 a0_1, .int .i64 a0_2, .int .i64 a0_3, .int .i64 a0_4, .int .i64 a0_5, .slice A0_6 l0_6.length c0_6, .slice A0_7 l0_7.length c0_7, .slice A0_8 l0_8.length c0_8]) (t := 45) ?hr ?_; (case hd => rfl); (case hg => rfl); (case hr => first | (go_simp; done) | (go_simp; rfl)); intro gb237 hg w14 hbox hb; have n0_ := am_ (below_step aa_1 hb); have n1_ := am_ (hbox); have n2_ := am_ ((by rw [hg]; exact (below_size aa_1) : w.heap.size ≤ gb237)); have n3_ := am_ ((by rw [hg]; exact (below_size aa_1) : w.heap.size ≤ gb237)); clear HB; have HB := n0_; have BK237 := n1_; have GW237 := n2_; have GE237 := n3_; clear n0_ n1_ n2_ n3_; clear hb hbox hg) | ((with_reducible refine gate_dst (N := 3) rfl ?_); refine box_event ?hg (N := 3) ?hd (cs := #[.int .i64 a1_0, .int .i64 a1_1, .int .i64 a1_2, .int .i64 a1_3, .int .i64 a1_4, .int .i64 a1_5, .slice A1_6 l1_6.length c1_6, .slice A1_7 l1_7.length c1_7, .slice A1_8 l1_8.length c1_8]) (t := 45) ?hr ?_; (case hd => rfl); (case hg => rfl); (case hr => first | (go_simp; done) | (go_simp; rfl)); intro gb238 hg w15 hbox hb; have n0_ := am_ (bbelow BK237 aa_2 hb); have n1_ := am_ (below_step aa_0 hb); have n2_ := am_ (hbox); have n3_ := am_ ((by rw [hg]; exact (below_size aa_0) : w.heap.size ≤ gb238)); have n4_ := am_ ((by rw [hg]; exact (below_size aa_0) : w.heap.size ≤ gb238)); have n5_ := am_ ((by rw [hg]; exact Nat.ne_of_lt (blk_lt (g := gb237) (o := .cells #[.int .i64 a0_0, .int .i64 a0_1, .int .i64 a0_2, .int .i64 a0_3, .int .i64 a0_4, .int .i64 a0_5, .slice A0_6 l0_6.length c0_6, .slice A0_7 l0_7.length c0_7, .slice A0_8 l0_8.length c0_8] 45 (0, 0)) aa_2) : gb237 ≠ gb238)); have n6_ := am_ ((by rw [hg]; exact Nat.ne_of_gt (blk_lt (g := gb237) (o := .cells #[.int .i64 a0_0, .int .i64 a0_1, .int .i64 a0_2, .int .i64 a0_3, .int .i64 a0_4, .int .i64 a0_5, .slice A0_6 l0_6.length c0_6, .slice A0_7 l0_7.length c0_7, .slice A0_8 l0_8.length c0_8] 45 (0, 0)) aa_2) : gb238 ≠ gb237)); clear BK237; clear HB; have BK237 := n0_; have HB := n1_; have BK238 := n2_; have GW238 := n3_; have GE238 := n4_; have NB237_238 := n5_; have NB238_237 := n6_; clear n0_ n1_ n2_ n3_ n4_ n5_ n6_; clear hb hbox hg; have hnb16 := NB237_238.out; have hnc16 := NB238_237.out; have hcz17_0 : w15.cell? ⟨gb237, 0, none⟩ = some (.int .i64 a0_0) := (bc BK237 0); have hcz17_1 : w15.cell? ⟨gb237, 1, none⟩ = some (.int .i64 a0_1) := (bc BK237 1); have hcz17_2 : w15.cell? ⟨gb237, 2, none⟩ = some (.int .i64 a0_2) := (bc BK237 2); have hcz17_3 : w15.cell? ⟨gb237, 3, none⟩ = some (.int .i64 a0_3) := (bc BK237 3); have hcz17_4 : w15.cell? ⟨gb237, 4, none⟩ = some (.int .i64 a0_4) := (bc BK237 4); have hcz17_5 : w15.cell? ⟨gb237, 5, none⟩ = some (.int .i64 a0_5) := (bc BK237 5); have hcz17_6 : w15.cell? ⟨gb237, 6, none⟩ = some (.slice A0_6 l0_6.length c0_6) := (bc BK237 6); have hcz17_7 : w15.cell? ⟨gb237, 7, none⟩ = some (.slice A0_7 l0_7.length c0_7) := (bc BK237 7); have hcz17_8 : w15.cell? ⟨gb237, 8, none⟩ = some (.slice A0_8 l0_8.length c0_8) := (bc BK237 8); have hcz18_0 : w15.cell? ⟨gb238, 0, none⟩ = some (.int .i64 a1_0) := (bc BK238 0); have hcz18_1 : w15.cell? ⟨gb238, 1, none⟩ = some (.int .i64 a1_1) := (bc BK238 1); have hcz18_2 : w15.cell? ⟨gb238, 2, none⟩ = some (.int .i64 a1_2) := (bc BK238 2); have hcz18_3 : w15.cell? ⟨gb238, 3, none⟩ = some (.int .i64 a1_3) := (bc BK238 3); have hcz18_4 : w15.cell? ⟨gb238, 4, none⟩ = some (.int .i64 a1_4) := (bc BK238 4); have hcz18_5 : w15.cell? ⟨gb238, 5, none⟩ = some (.int .i64 a1_5) := (bc BK238 5); have hcz18_6 : w15.cell? ⟨gb238, 6, none⟩ = some (.slice A1_6 l1_6.length c1_6) := (bc BK238 6); have hcz18_7 : w15.cell? ⟨gb238, 7, none⟩ = some (.slice A1_7 l1_7.length c1_7) := (bc BK238 7); have hcz18_8 : w15.cell? ⟨gb238, 8, none⟩ = some (.slice A1_8 l1_8.length c1_8) := (bc BK238 8)) | (go_at_call 38; (with_reducible refine (gangwayref0_EqNumbers.calls k _ _ l0_6 _ _ l1_6 true _ ?side1 ?side2 ?side3 ?side4 A9.out).mono ?_); (case side1 => exact aa_4); (case side2 => exact HC0_6.out); (case side3 => exact aa_5); (case side4 => exact HC1_6.out); rintro e w' ⟨rfl, ⟨nd, rfl⟩⟩) | (go_at_call 14; (with_reducible refine (ih k (by omega) _ _ l0_7 _ _ l1_7 true _ ?side1 ?side2 ?side3 ?side4 A11.out).mono ?_); (case side1 => exact aa_6); (case side2 => exact HC0_7.out); (case side3 => exact aa_7); (case side4 => exact HC1_7.out); rintro e w19 ⟨rfl, hb⟩; have n0_ := am_ (bbelow BK237 aa_2 hb); have n1_ := am_ (bbelow BK238 (by (with_reducible repeat (first | refine blk_drewN ?_ _ | refine blk_drew ?_ | refine blk_alloc ?_ _)); exact BK238.out) hb); have n2_ := am_ (below_step aa_3 hb); clear BK237; clear BK238; clear HB; have BK237 := n0_; have BK238 := n1_; have HB := n2_; clear n0_ n1_ n2_; (try clear hb); (try clear hb2); (try clear hk); (try clear hi); have hcz20_0 : w19.cell? ⟨gb237, 0, none⟩ = some (.int .i64 a0_0) := (bc BK237 0); have hcz20_1 : w19.cell? ⟨gb237, 1, none⟩ = some (.int .i64 a0_1) := (bc BK237 1); have hcz20_2 : w19.cell? ⟨gb237, 2, none⟩ = some (.int .i64 a0_2) := (bc BK237 2); have hcz20_3 : w19.cell? ⟨gb237, 3, none⟩ = some (.int .i64 a0_3) := (bc BK237 3); have hcz20_4 : w19.cell? ⟨gb237, 4, none⟩ = some (.int .i64 a0_4) := (bc BK237 4); have hcz20_5 : w19.cell? ⟨gb237, 5, none⟩ = some (.int .i64 a0_5) := (bc BK237 5); have hcz20_6 : w19.cell? ⟨gb237, 6, none⟩ = some (.slice A0_6 l0_6.length c0_6) := (bc BK237 6); have hcz20_7 : w19.cell? ⟨gb237, 7, none⟩ = some (.slice A0_7 l0_7.length c0_7) := (bc BK237 7); have hcz20_8 : w19.cell? ⟨gb237, 8, none⟩ = some (.slice A0_8 l0_8.length c0_8) := (bc BK237 8); have hcz21_0 : w19.cell? ⟨gb238, 0, none⟩ = some (.int .i64 a1_0) := (bc BK238 0); have hcz21_1 : w19.cell? ⟨gb238, 1, none⟩ = some (.int .i64 a1_1) := (bc BK238 1); have hcz21_2 : w19.cell? ⟨gb238, 2, none⟩ = some (.int .i64 a1_2) := (bc BK238 2); have hcz21_3 : w19.cell? ⟨gb238, 3, none⟩ = some (.int .i64 a1_3) := (bc BK238 3); have hcz21_4 : w19.cell? ⟨gb238, 4, none⟩ = some (.int .i64 a1_4) := (bc BK238 4); have hcz21_5 : w19.cell? ⟨gb238, 5, none⟩ = some (.int .i64 a1_5) := (bc BK238 5); have hcz21_6 : w19.cell? ⟨gb238, 6, none⟩ = some (.slice A1_6 l1_6.length c1_6) := (bc BK238 6); have hcz21_7 : w19.cell? ⟨gb238, 7, none⟩ = some (.slice A1_7 l1_7.length c1_7) := (bc BK238 7); have hcz21_8 : w19.cell? ⟨gb238, 8, none⟩ = some (.slice A1_8 l1_8.length c1_8) := (bc BK238 8)) | (go_at_call 14; (with_reducible refine (ih k (by omega) _ _ l0_8 _ _ l1_8 t241 _ ?side1 ?side2 ?side3 ?side4 A13.out).mono ?_); (case side1 => repeat (first | exact (Kd.C_below HR0_8.out HB.out) | (with_reducible refine Kd.C_alloc ?_ _) | (with_reducible refine Kd.C_drewN ?_ _) | (with_reducible refine Kd.C_drew ?_))); (case side2 => exact HC0_8.out); (case side3 => repeat (first | exact (Kd.C_below HR1_8.out HB.out) | (with_reducible refine Kd.C_alloc ?_ _) | (with_reducible refine Kd.C_drewN ?_ _) | (with_reducible refine Kd.C_drew ?_))); (case side4 => exact HC1_8.out); rintro e w22 ⟨rfl, hb⟩; have n0_ := am_ (bbelow BK237 aa_2 hb); have n1_ := am_ (bbelow BK238 (by (with_reducible repeat (first | refine blk_drewN ?_ _ | refine blk_drew ?_ | refine blk_alloc ?_ _)); exact BK238.out) hb); have n2_ := am_ (below_step aa_3 hb); clear BK237; clear BK238; clear HB; have BK237 := n0_; have BK238 := n1_; have HB := n2_; clear n0_ n1_ n2_; (try clear hb); (try clear hb2); (try clear hk); (try clear hi)))
         go_ret
         exact ⟨by first | rfl | (simp [errW_none, errW_some] <;> rfl) | (simp [*, errW_none, errW_some] <;> rfl), by repeat (first | (with_reducible first | exact HB.out | apply below_alloc | apply pw_below_drewN | apply below_drew1 | refine below_set ?_ GE237.out | refine below_set ?_ GE238.out) | exact HB.out)⟩
        ·replace c12 := Bool.eq_false_iff.mpr c12
         subst c12
         have H1 : (some false) = some r := by rw [if_neg (show ¬ (false = true) by decide)] at H; exact H
         clear H
         have H := H1
         clear H1
         obtain rfl := Option.some.inj H
         go_enter Try.func26, Try.ntmps26
         go_wp2_with (first | ((with_reducible refine gate_dst (N := 2) rfl ?_); refine box_event ?hg (N := 2) ?hd (cs := #[.int .i64 a0_0, .int .i64 a0_1, .int .i64 a0_2, .int .i64 a0_3, .int .i64 a0_4, .int .i64 a0_5, .slice A0_6 l0_6.length c0_6, .slice A0_7 l0_7.length c0_7, .slice A0_8 l0_8.length c0_8]) (t := 45) ?hr ?_; (case hd => rfl); (case hg => rfl); (case hr => first | (go_simp; done) | (go_simp; rfl)); intro gb237 hg w23 hbox hb; have n0_ := am_ (below_step aa_1 hb); have n1_ := am_ (hbox); have n2_ := am_ ((by rw [hg]; exact (below_size aa_1) : w.heap.size ≤ gb237)); have n3_ := am_ ((by rw [hg]; exact (below_size aa_1) : w.heap.size ≤ gb237)); clear HB; have HB := n0_; have BK237 := n1_; have GW237 := n2_; have GE237 := n3_; clear n0_ n1_ n2_ n3_; clear hb hbox hg) | ((with_reducible refine gate_dst (N := 3) rfl ?_); refine box_event ?hg (N := 3) ?hd (cs := #[.int .i64 a1_0, .int .i64 a1_1, .int .i64 a1_2, .int .i64 a1_3, .int .i64 a1_4, .int .i64 a1_5, .slice A1_6 l1_6.length c1_6, .slice A1_7 l1_7.length c1_7, .slice A1_8 l1_8.length c1_8]) (t := 45) ?hr ?_; (case hd => rfl); (case hg => rfl); (case hr => first | (go_simp; done) | (go_simp; rfl)); intro gb238 hg w24 hbox hb; have n0_ := am_ (bbelow BK237 aa_2 hb); have n1_ := am_ (below_step aa_0 hb); have n2_ := am_ (hbox); have n3_ := am_ ((by rw [hg]; exact (below_size aa_0) : w.heap.size ≤ gb238)); have n4_ := am_ ((by rw [hg]; exact (below_size aa_0) : w.heap.size ≤ gb238)); have n5_ := am_ ((by rw [hg]; exact Nat.ne_of_lt (blk_lt (g := gb237) (o := .cells #[.int .i64 a0_0, .int .i64 a0_1, .int .i64 a0_2, .int .i64 a0_3, .int .i64 a0_4, .int .i64 a0_5, .slice A0_6 l0_6.length c0_6, .slice A0_7 l0_7.length c0_7, .slice A0_8 l0_8.length c0_8] 45 (0, 0)) aa_2) : gb237 ≠ gb238)); have n6_ := am_ ((by rw [hg]; exact Nat.ne_of_gt (blk_lt (g := gb237) (o := .cells #[.int .i64 a0_0, .int .i64 a0_1, .int .i64 a0_2, .int .i64 a0_3, .int .i64 a0_4, .int .i64 a0_5, .slice A0_6 l0_6.length c0_6, .slice A0_7 l0_7.length c0_7, .slice A0_8 l0_8.length c0_8] 45 (0, 0)) aa_2) : gb238 ≠ gb237)); clear BK237; clear HB; have BK237 := n0_; have HB := n1_; have BK238 := n2_; have GW238 := n3_; have GE238 := n4_; have NB237_238 := n5_; have NB238_237 := n6_; clear n0_ n1_ n2_ n3_ n4_ n5_ n6_; clear hb hbox hg; have hnb25 := NB237_238.out; have hnc25 := NB238_237.out; have hcz26_0 : w24.cell? ⟨gb237, 0, none⟩ = some (.int .i64 a0_0) := (bc BK237 0); have hcz26_1 : w24.cell? ⟨gb237, 1, none⟩ = some (.int .i64 a0_1) := (bc BK237 1); have hcz26_2 : w24.cell? ⟨gb237, 2, none⟩ = some (.int .i64 a0_2) := (bc BK237 2); have hcz26_3 : w24.cell? ⟨gb237, 3, none⟩ = some (.int .i64 a0_3) := (bc BK237 3); have hcz26_4 : w24.cell? ⟨gb237, 4, none⟩ = some (.int .i64 a0_4) := (bc BK237 4); have hcz26_5 : w24.cell? ⟨gb237, 5, none⟩ = some (.int .i64 a0_5) := (bc BK237 5); have hcz26_6 : w24.cell? ⟨gb237, 6, none⟩ = some (.slice A0_6 l0_6.length c0_6) := (bc BK237 6); have hcz26_7 : w24.cell? ⟨gb237, 7, none⟩ = some (.slice A0_7 l0_7.length c0_7) := (bc BK237 7); have hcz26_8 : w24.cell? ⟨gb237, 8, none⟩ = some (.slice A0_8 l0_8.length c0_8) := (bc BK237 8); have hcz27_0 : w24.cell? ⟨gb238, 0, none⟩ = some (.int .i64 a1_0) := (bc BK238 0); have hcz27_1 : w24.cell? ⟨gb238, 1, none⟩ = some (.int .i64 a1_1) := (bc BK238 1); have hcz27_2 : w24.cell? ⟨gb238, 2, none⟩ = some (.int .i64 a1_2) := (bc BK238 2); have hcz27_3 : w24.cell? ⟨gb238, 3, none⟩ = some (.int .i64 a1_3) := (bc BK238 3); have hcz27_4 : w24.cell? ⟨gb238, 4, none⟩ = some (.int .i64 a1_4) := (bc BK238 4); have hcz27_5 : w24.cell? ⟨gb238, 5, none⟩ = some (.int .i64 a1_5) := (bc BK238 5); have hcz27_6 : w24.cell? ⟨gb238, 6, none⟩ = some (.slice A1_6 l1_6.length c1_6) := (bc BK238 6); have hcz27_7 : w24.cell? ⟨gb238, 7, none⟩ = some (.slice A1_7 l1_7.length c1_7) := (bc BK238 7); have hcz27_8 : w24.cell? ⟨gb238, 8, none⟩ = some (.slice A1_8 l1_8.length c1_8) := (bc BK238 8)) | (go_at_call 38; (with_reducible refine (gangwayref0_EqNumbers.calls k _ _ l0_6 _ _ l1_6 true _ ?side1 ?side2 ?side3 ?side4 A9.out).mono ?_); (case side1 => exact aa_4); (case side2 => exact HC0_6.out); (case side3 => exact aa_5); (case side4 => exact HC1_6.out); rintro e w' ⟨rfl, ⟨nd, rfl⟩⟩) | (go_at_call 14; (with_reducible refine (ih k (by omega) _ _ l0_7 _ _ l1_7 false _ ?side1 ?side2 ?side3 ?side4 A11.out).mono ?_); (case side1 => exact aa_6); (case side2 => exact HC0_7.out); (case side3 => exact aa_7); (case side4 => exact HC1_7.out); rintro e w28 ⟨rfl, hb⟩; have n0_ := am_ (bbelow BK237 aa_2 hb); have n1_ := am_ (bbelow BK238 (by (with_reducible repeat (first | refine blk_drewN ?_ _ | refine blk_drew ?_ | refine blk_alloc ?_ _)); exact BK238.out) hb); have n2_ := am_ (below_step aa_3 hb); clear BK237; clear BK238; clear HB; have BK237 := n0_; have BK238 := n1_; have HB := n2_; clear n0_ n1_ n2_; (try clear hb); (try clear hb2); (try clear hk); (try clear hi)))
         go_ret
         exact ⟨by first | rfl | (simp [errW_none, errW_some] <;> rfl) | (simp [*, errW_none, errW_some] <;> rfl), by repeat (first | (with_reducible first | exact HB.out | apply below_alloc | apply pw_below_drewN | apply below_drew1 | refine below_set ?_ GE237.out | refine below_set ?_ GE238.out) | exact HB.out)⟩
       ·replace c10 := Bool.eq_false_iff.mpr c10
        subst c10
        have H1 : (some false) = some r := by rw [if_neg (show ¬ (false = true) by decide)] at H; exact H
        clear H
        have H := H1
        clear H1
        obtain rfl := Option.some.inj H
        go_enter Try.func26, Try.ntmps26
        go_wp2_with (first | ((with_reducible refine gate_dst (N := 2) rfl ?_); refine box_event ?hg (N := 2) ?hd (cs := #[.int .i64 a0_0, .int .i64 a0_1, .int .i64 a0_2, .int .i64 a0_3, .int .i64 a0_4, .int .i64 a0_5, .slice A0_6 l0_6.length c0_6, .slice A0_7 l0_7.length c0_7, .slice A0_8 l0_8.length c0_8]) (t := 45) ?hr ?_; (case hd => rfl); (case hg => rfl); (case hr => first | (go_simp; done) | (go_simp; rfl)); intro gb237 hg w29 hbox hb; have n0_ := am_ (below_step aa_1 hb); have n1_ := am_ (hbox); have n2_ := am_ ((by rw [hg]; exact (below_size aa_1) : w.heap.size ≤ gb237)); have n3_ := am_ ((by rw [hg]; exact (below_size aa_1) : w.heap.size ≤ gb237)); clear HB; have HB := n0_; have BK237 := n1_; have GW237 := n2_; have GE237 := n3_; clear n0_ n1_ n2_ n3_; clear hb hbox hg) | ((with_reducible refine gate_dst (N := 3) rfl ?_); refine box_event ?hg (N := 3) ?hd (cs := #[.int .i64 a1_0, .int .i64 a1_1, .int .i64 a1_2, .int .i64 a1_3, .int .i64 a1_4, .int .i64 a1_5, .slice A1_6 l1_6.length c1_6, .slice A1_7 l1_7.length c1_7, .slice A1_8 l1_8.length c1_8]) (t := 45) ?hr ?_; (case hd => rfl); (case hg => rfl); (case hr => first | (go_simp; done) | (go_simp; rfl)); intro gb238 hg w30 hbox hb; have n0_ := am_ (bbelow BK237 aa_2 hb); have n1_ := am_ (below_step aa_0 hb); have n2_ := am_ (hbox); have n3_ := am_ ((by rw [hg]; exact (below_size aa_0) : w.heap.size ≤ gb238)); have n4_ := am_ ((by rw [hg]; exact (below_size aa_0) : w.heap.size ≤ gb238)); have n5_ := am_ ((by rw [hg]; exact Nat.ne_of_lt (blk_lt (g := gb237) (o := .cells #[.int .i64 a0_0, .int .i64 a0_1, .int .i64 a0_2, .int .i64 a0_3, .int .i64 a0_4, .int .i64 a0_5, .slice A0_6 l0_6.length c0_6, .slice A0_7 l0_7.length c0_7, .slice A0_8 l0_8.length c0_8] 45 (0, 0)) aa_2) : gb237 ≠ gb238)); have n6_ := am_ ((by rw [hg]; exact Nat.ne_of_gt (blk_lt (g := gb237) (o := .cells #[.int .i64 a0_0, .int .i64 a0_1, .int .i64 a0_2, .int .i64 a0_3, .int .i64 a0_4, .int .i64 a0_5, .slice A0_6 l0_6.length c0_6, .slice A0_7 l0_7.length c0_7, .slice A0_8 l0_8.length c0_8] 45 (0, 0)) aa_2) : gb238 ≠ gb237)); clear BK237; clear HB; have BK237 := n0_; have HB := n1_; have BK238 := n2_; have GW238 := n3_; have GE238 := n4_; have NB237_238 := n5_; have NB238_237 := n6_; clear n0_ n1_ n2_ n3_ n4_ n5_ n6_; clear hb hbox hg; have hnb31 := NB237_238.out; have hnc31 := NB238_237.out; have hcz32_0 : w30.cell? ⟨gb237, 0, none⟩ = some (.int .i64 a0_0) := (bc BK237 0); have hcz32_1 : w30.cell? ⟨gb237, 1, none⟩ = some (.int .i64 a0_1) := (bc BK237 1); have hcz32_2 : w30.cell? ⟨gb237, 2, none⟩ = some (.int .i64 a0_2) := (bc BK237 2); have hcz32_3 : w30.cell? ⟨gb237, 3, none⟩ = some (.int .i64 a0_3) := (bc BK237 3); have hcz32_4 : w30.cell? ⟨gb237, 4, none⟩ = some (.int .i64 a0_4) := (bc BK237 4); have hcz32_5 : w30.cell? ⟨gb237, 5, none⟩ = some (.int .i64 a0_5) := (bc BK237 5); have hcz32_6 : w30.cell? ⟨gb237, 6, none⟩ = some (.slice A0_6 l0_6.length c0_6) := (bc BK237 6); have hcz32_7 : w30.cell? ⟨gb237, 7, none⟩ = some (.slice A0_7 l0_7.length c0_7) := (bc BK237 7); have hcz32_8 : w30.cell? ⟨gb237, 8, none⟩ = some (.slice A0_8 l0_8.length c0_8) := (bc BK237 8); have hcz33_0 : w30.cell? ⟨gb238, 0, none⟩ = some (.int .i64 a1_0) := (bc BK238 0); have hcz33_1 : w30.cell? ⟨gb238, 1, none⟩ = some (.int .i64 a1_1) := (bc BK238 1); have hcz33_2 : w30.cell? ⟨gb238, 2, none⟩ = some (.int .i64 a1_2) := (bc BK238 2); have hcz33_3 : w30.cell? ⟨gb238, 3, none⟩ = some (.int .i64 a1_3) := (bc BK238 3); have hcz33_4 : w30.cell? ⟨gb238, 4, none⟩ = some (.int .i64 a1_4) := (bc BK238 4); have hcz33_5 : w30.cell? ⟨gb238, 5, none⟩ = some (.int .i64 a1_5) := (bc BK238 5); have hcz33_6 : w30.cell? ⟨gb238, 6, none⟩ = some (.slice A1_6 l1_6.length c1_6) := (bc BK238 6); have hcz33_7 : w30.cell? ⟨gb238, 7, none⟩ = some (.slice A1_7 l1_7.length c1_7) := (bc BK238 7); have hcz33_8 : w30.cell? ⟨gb238, 8, none⟩ = some (.slice A1_8 l1_8.length c1_8) := (bc BK238 8)) | (go_at_call 38; (with_reducible refine (gangwayref0_EqNumbers.calls k _ _ l0_6 _ _ l1_6 false _ ?side1 ?side2 ?side3 ?side4 A9.out).mono ?_); (case side1 => exact aa_4); (case side2 => exact HC0_6.out); (case side3 => exact aa_5); (case side4 => exact HC1_6.out); rintro e w' ⟨rfl, ⟨nd, rfl⟩⟩))
        go_ret
        exact ⟨by first | rfl | (simp [errW_none, errW_some] <;> rfl) | (simp [*, errW_none, errW_some] <;> rfl), by repeat (first | (with_reducible first | exact HB.out | apply below_alloc | apply pw_below_drewN | apply below_drew1 | refine below_set ?_ GE237.out | refine below_set ?_ GE238.out) | exact HB.out)⟩
      ·rw [if_neg c8] at H
       have c8b0 : (a0_5 == a1_5) = false := beq_eq_false_iff_ne.mpr c8
       have c8b1 : (a0_5 != a1_5) = true := bne_iff_ne.mpr c8
       obtain rfl := Option.some.inj H
       go_enter Try.func26, Try.ntmps26
       go_wp2_with (first | ((with_reducible refine gate_dst (N := 2) rfl ?_); refine box_event ?hg (N := 2) ?hd (cs := #[.int .i64 a0_0, .int .i64 a0_1, .int .i64 a0_2, .int .i64 a0_3, .int .i64 a0_4, .int .i64 a0_5, .slice A0_6 l0_6.length c0_6, .slice A0_7 l0_7.length c0_7, .slice A0_8 l0_8.length c0_8]) (t := 45) ?hr ?_; (case hd => rfl); (case hg => rfl); (case hr => first | (go_simp; done) | (go_simp; rfl)); intro gb237 hg w34 hbox hb; have n0_ := am_ (below_step aa_1 hb); have n1_ := am_ (hbox); have n2_ := am_ ((by rw [hg]; exact (below_size aa_1) : w.heap.size ≤ gb237)); have n3_ := am_ ((by rw [hg]; exact (below_size aa_1) : w.heap.size ≤ gb237)); clear HB; have HB := n0_; have BK237 := n1_; have GW237 := n2_; have GE237 := n3_; clear n0_ n1_ n2_ n3_; clear hb hbox hg) | ((with_reducible refine gate_dst (N := 3) rfl ?_); refine box_event ?hg (N := 3) ?hd (cs := #[.int .i64 a1_0, .int .i64 a1_1, .int .i64 a1_2, .int .i64 a1_3, .int .i64 a1_4, .int .i64 a1_5, .slice A1_6 l1_6.length c1_6, .slice A1_7 l1_7.length c1_7, .slice A1_8 l1_8.length c1_8]) (t := 45) ?hr ?_; (case hd => rfl); (case hg => rfl); (case hr => first | (go_simp; done) | (go_simp; rfl)); intro gb238 hg w35 hbox hb; have n0_ := am_ (bbelow BK237 aa_2 hb); have n1_ := am_ (below_step aa_0 hb); have n2_ := am_ (hbox); have n3_ := am_ ((by rw [hg]; exact (below_size aa_0) : w.heap.size ≤ gb238)); have n4_ := am_ ((by rw [hg]; exact (below_size aa_0) : w.heap.size ≤ gb238)); have n5_ := am_ ((by rw [hg]; exact Nat.ne_of_lt (blk_lt (g := gb237) (o := .cells #[.int .i64 a0_0, .int .i64 a0_1, .int .i64 a0_2, .int .i64 a0_3, .int .i64 a0_4, .int .i64 a0_5, .slice A0_6 l0_6.length c0_6, .slice A0_7 l0_7.length c0_7, .slice A0_8 l0_8.length c0_8] 45 (0, 0)) aa_2) : gb237 ≠ gb238)); have n6_ := am_ ((by rw [hg]; exact Nat.ne_of_gt (blk_lt (g := gb237) (o := .cells #[.int .i64 a0_0, .int .i64 a0_1, .int .i64 a0_2, .int .i64 a0_3, .int .i64 a0_4, .int .i64 a0_5, .slice A0_6 l0_6.length c0_6, .slice A0_7 l0_7.length c0_7, .slice A0_8 l0_8.length c0_8] 45 (0, 0)) aa_2) : gb238 ≠ gb237)); clear BK237; clear HB; have BK237 := n0_; have HB := n1_; have BK238 := n2_; have GW238 := n3_; have GE238 := n4_; have NB237_238 := n5_; have NB238_237 := n6_; clear n0_ n1_ n2_ n3_ n4_ n5_ n6_; clear hb hbox hg; have hnb36 := NB237_238.out; have hnc36 := NB238_237.out; have hcz37_0 : w35.cell? ⟨gb237, 0, none⟩ = some (.int .i64 a0_0) := (bc BK237 0); have hcz37_1 : w35.cell? ⟨gb237, 1, none⟩ = some (.int .i64 a0_1) := (bc BK237 1); have hcz37_2 : w35.cell? ⟨gb237, 2, none⟩ = some (.int .i64 a0_2) := (bc BK237 2); have hcz37_3 : w35.cell? ⟨gb237, 3, none⟩ = some (.int .i64 a0_3) := (bc BK237 3); have hcz37_4 : w35.cell? ⟨gb237, 4, none⟩ = some (.int .i64 a0_4) := (bc BK237 4); have hcz37_5 : w35.cell? ⟨gb237, 5, none⟩ = some (.int .i64 a0_5) := (bc BK237 5); have hcz37_6 : w35.cell? ⟨gb237, 6, none⟩ = some (.slice A0_6 l0_6.length c0_6) := (bc BK237 6); have hcz37_7 : w35.cell? ⟨gb237, 7, none⟩ = some (.slice A0_7 l0_7.length c0_7) := (bc BK237 7); have hcz37_8 : w35.cell? ⟨gb237, 8, none⟩ = some (.slice A0_8 l0_8.length c0_8) := (bc BK237 8); have hcz38_0 : w35.cell? ⟨gb238, 0, none⟩ = some (.int .i64 a1_0) := (bc BK238 0); have hcz38_1 : w35.cell? ⟨gb238, 1, none⟩ = some (.int .i64 a1_1) := (bc BK238 1); have hcz38_2 : w35.cell? ⟨gb238, 2, none⟩ = some (.int .i64 a1_2) := (bc BK238 2); have hcz38_3 : w35.cell? ⟨gb238, 3, none⟩ = some (.int .i64 a1_3) := (bc BK238 3); have hcz38_4 : w35.cell? ⟨gb238, 4, none⟩ = some (.int .i64 a1_4) := (bc BK238 4); have hcz38_5 : w35.cell? ⟨gb238, 5, none⟩ = some (.int .i64 a1_5) := (bc BK238 5); have hcz38_6 : w35.cell? ⟨gb238, 6, none⟩ = some (.slice A1_6 l1_6.length c1_6) := (bc BK238 6); have hcz38_7 : w35.cell? ⟨gb238, 7, none⟩ = some (.slice A1_7 l1_7.length c1_7) := (bc BK238 7); have hcz38_8 : w35.cell? ⟨gb238, 8, none⟩ = some (.slice A1_8 l1_8.length c1_8) := (bc BK238 8)))
       go_ret
       exact ⟨by first | rfl | (simp [errW_none, errW_some] <;> rfl) | (simp [*, errW_none, errW_some] <;> rfl), by repeat (first | (with_reducible first | exact HB.out | apply below_alloc | apply pw_below_drewN | apply below_drew1 | refine below_set ?_ GE237.out | refine below_set ?_ GE238.out) | exact HB.out)⟩
     ·rw [if_neg c7] at H
      have c7b0 : (a0_4 == a1_4) = false := beq_eq_false_iff_ne.mpr c7
      have c7b1 : (a0_4 != a1_4) = true := bne_iff_ne.mpr c7
      obtain rfl := Option.some.inj H
      go_enter Try.func26, Try.ntmps26
      go_wp2_with (first | ((with_reducible refine gate_dst (N := 2) rfl ?_); refine box_event ?hg (N := 2) ?hd (cs := #[.int .i64 a0_0, .int .i64 a0_1, .int .i64 a0_2, .int .i64 a0_3, .int .i64 a0_4, .int .i64 a0_5, .slice A0_6 l0_6.length c0_6, .slice A0_7 l0_7.length c0_7, .slice A0_8 l0_8.length c0_8]) (t := 45) ?hr ?_; (case hd => rfl); (case hg => rfl); (case hr => first | (go_simp; done) | (go_simp; rfl)); intro gb237 hg w39 hbox hb; have n0_ := am_ (below_step aa_1 hb); have n1_ := am_ (hbox); have n2_ := am_ ((by rw [hg]; exact (below_size aa_1) : w.heap.size ≤ gb237)); have n3_ := am_ ((by rw [hg]; exact (below_size aa_1) : w.heap.size ≤ gb237)); clear HB; have HB := n0_; have BK237 := n1_; have GW237 := n2_; have GE237 := n3_; clear n0_ n1_ n2_ n3_; clear hb hbox hg) | ((with_reducible refine gate_dst (N := 3) rfl ?_); refine box_event ?hg (N := 3) ?hd (cs := #[.int .i64 a1_0, .int .i64 a1_1, .int .i64 a1_2, .int .i64 a1_3, .int .i64 a1_4, .int .i64 a1_5, .slice A1_6 l1_6.length c1_6, .slice A1_7 l1_7.length c1_7, .slice A1_8 l1_8.length c1_8]) (t := 45) ?hr ?_; (case hd => rfl); (case hg => rfl); (case hr => first | (go_simp; done) | (go_simp; rfl)); intro gb238 hg w40 hbox hb; have n0_ := am_ (bbelow BK237 aa_2 hb); have n1_ := am_ (below_step aa_0 hb); have n2_ := am_ (hbox); have n3_ := am_ ((by rw [hg]; exact (below_size aa_0) : w.heap.size ≤ gb238)); have n4_ := am_ ((by rw [hg]; exact (below_size aa_0) : w.heap.size ≤ gb238)); have n5_ := am_ ((by rw [hg]; exact Nat.ne_of_lt (blk_lt (g := gb237) (o := .cells #[.int .i64 a0_0, .int .i64 a0_1, .int .i64 a0_2, .int .i64 a0_3, .int .i64 a0_4, .int .i64 a0_5, .slice A0_6 l0_6.length c0_6, .slice A0_7 l0_7.length c0_7, .slice A0_8 l0_8.length c0_8] 45 (0, 0)) aa_2) : gb237 ≠ gb238)); have n6_ := am_ ((by rw [hg]; exact Nat.ne_of_gt (blk_lt (g := gb237) (o := .cells #[.int .i64 a0_0, .int .i64 a0_1, .int .i64 a0_2, .int .i64 a0_3, .int .i64 a0_4, .int .i64 a0_5, .slice A0_6 l0_6.length c0_6, .slice A0_7 l0_7.length c0_7, .slice A0_8 l0_8.length c0_8] 45 (0, 0)) aa_2) : gb238 ≠ gb237)); clear BK237; clear HB; have BK237 := n0_; have HB := n1_; have BK238 := n2_; have GW238 := n3_; have GE238 := n4_; have NB237_238 := n5_; have NB238_237 := n6_; clear n0_ n1_ n2_ n3_ n4_ n5_ n6_; clear hb hbox hg; have hnb41 := NB237_238.out; have hnc41 := NB238_237.out; have hcz42_0 : w40.cell? ⟨gb237, 0, none⟩ = some (.int .i64 a0_0) := (bc BK237 0); have hcz42_1 : w40.cell? ⟨gb237, 1, none⟩ = some (.int .i64 a0_1) := (bc BK237 1); have hcz42_2 : w40.cell? ⟨gb237, 2, none⟩ = some (.int .i64 a0_2) := (bc BK237 2); have hcz42_3 : w40.cell? ⟨gb237, 3, none⟩ = some (.int .i64 a0_3) := (bc BK237 3); have hcz42_4 : w40.cell? ⟨gb237, 4, none⟩ = some (.int .i64 a0_4) := (bc BK237 4); have hcz42_5 : w40.cell? ⟨gb237, 5, none⟩ = some (.int .i64 a0_5) := (bc BK237 5); have hcz42_6 : w40.cell? ⟨gb237, 6, none⟩ = some (.slice A0_6 l0_6.length c0_6) := (bc BK237 6); have hcz42_7 : w40.cell? ⟨gb237, 7, none⟩ = some (.slice A0_7 l0_7.length c0_7) := (bc BK237 7); have hcz42_8 : w40.cell? ⟨gb237, 8, none⟩ = some (.slice A0_8 l0_8.length c0_8) := (bc BK237 8); have hcz43_0 : w40.cell? ⟨gb238, 0, none⟩ = some (.int .i64 a1_0) := (bc BK238 0); have hcz43_1 : w40.cell? ⟨gb238, 1, none⟩ = some (.int .i64 a1_1) := (bc BK238 1); have hcz43_2 : w40.cell? ⟨gb238, 2, none⟩ = some (.int .i64 a1_2) := (bc BK238 2); have hcz43_3 : w40.cell? ⟨gb238, 3, none⟩ = some (.int .i64 a1_3) := (bc BK238 3); have hcz43_4 : w40.cell? ⟨gb238, 4, none⟩ = some (.int .i64 a1_4) := (bc BK238 4); have hcz43_5 : w40.cell? ⟨gb238, 5, none⟩ = some (.int .i64 a1_5) := (bc BK238 5); have hcz43_6 : w40.cell? ⟨gb238, 6, none⟩ = some (.slice A1_6 l1_6.length c1_6) := (bc BK238 6); have hcz43_7 : w40.cell? ⟨gb238, 7, none⟩ = some (.slice A1_7 l1_7.length c1_7) := (bc BK238 7); have hcz43_8 : w40.cell? ⟨gb238, 8, none⟩ = some (.slice A1_8 l1_8.length c1_8) := (bc BK238 8)))
      go_ret
      exact ⟨by first | rfl | (simp [errW_none, errW_some] <;> rfl) | (simp [*, errW_none, errW_some] <;> rfl), by repeat (first | (with_reducible first | exact HB.out | apply below_alloc | apply pw_below_drewN | apply below_drew1 | refine below_set ?_ GE237.out | refine below_set ?_ GE238.out) | exact HB.out)⟩
    ·rw [if_neg c6] at H
     have c6b0 : (a0_3 == a1_3) = false := beq_eq_false_iff_ne.mpr c6
     have c6b1 : (a0_3 != a1_3) = true := bne_iff_ne.mpr c6
     obtain rfl := Option.some.inj H
     go_enter Try.func26, Try.ntmps26
     go_wp2_with (first | ((with_reducible refine gate_dst (N := 2) rfl ?_); refine box_event ?hg (N := 2) ?hd (cs := #[.int .i64 a0_0, .int .i64 a0_1, .int .i64 a0_2, .int .i64 a0_3, .int .i64 a0_4, .int .i64 a0_5, .slice A0_6 l0_6.length c0_6, .slice A0_7 l0_7.length c0_7, .slice A0_8 l0_8.length c0_8]) (t := 45) ?hr ?_; (case hd => rfl); (case hg => rfl); (case hr => first | (go_simp; done) | (go_simp; rfl)); intro gb237 hg w44 hbox hb; have n0_ := am_ (below_step aa_1 hb); have n1_ := am_ (hbox); have n2_ := am_ ((by rw [hg]; exact (below_size aa_1) : w.heap.size ≤ gb237)); have n3_ := am_ ((by rw [hg]; exact (below_size aa_1) : w.heap.size ≤ gb237)); clear HB; have HB := n0_; have BK237 := n1_; have GW237 := n2_; have GE237 := n3_; clear n0_ n1_ n2_ n3_; clear hb hbox hg) | ((with_reducible refine gate_dst (N := 3) rfl ?_); refine box_event ?hg (N := 3) ?hd (cs := #[.int .i64 a1_0, .int .i64 a1_1, .int .i64 a1_2, .int .i64 a1_3, .int .i64 a1_4, .int .i64 a1_5, .slice A1_6 l1_6.length c1_6, .slice A1_7 l1_7.length c1_7, .slice A1_8 l1_8.length c1_8]) (t := 45) ?hr ?_; (case hd => rfl); (case hg => rfl); (case hr => first | (go_simp; done) | (go_simp; rfl)); intro gb238 hg w45 hbox hb; have n0_ := am_ (bbelow BK237 aa_2 hb); have n1_ := am_ (below_step aa_0 hb); have n2_ := am_ (hbox); have n3_ := am_ ((by rw [hg]; exact (below_size aa_0) : w.heap.size ≤ gb238)); have n4_ := am_ ((by rw [hg]; exact (below_size aa_0) : w.heap.size ≤ gb238)); have n5_ := am_ ((by rw [hg]; exact Nat.ne_of_lt (blk_lt (g := gb237) (o := .cells #[.int .i64 a0_0, .int .i64 a0_1, .int .i64 a0_2, .int .i64 a0_3, .int .i64 a0_4, .int .i64 a0_5, .slice A0_6 l0_6.length c0_6, .slice A0_7 l0_7.length c0_7, .slice A0_8 l0_8.length c0_8] 45 (0, 0)) aa_2) : gb237 ≠ gb238)); have n6_ := am_ ((by rw [hg]; exact Nat.ne_of_gt (blk_lt (g := gb237) (o := .cells #[.int .i64 a0_0, .int .i64 a0_1, .int .i64 a0_2, .int .i64 a0_3, .int .i64 a0_4, .int .i64 a0_5, .slice A0_6 l0_6.length c0_6, .slice A0_7 l0_7.length c0_7, .slice A0_8 l0_8.length c0_8] 45 (0, 0)) aa_2) : gb238 ≠ gb237)); clear BK237; clear HB; have BK237 := n0_; have HB := n1_; have BK238 := n2_; have GW238 := n3_; have GE238 := n4_; have NB237_238 := n5_; have NB238_237 := n6_; clear n0_ n1_ n2_ n3_ n4_ n5_ n6_; clear hb hbox hg; have hnb46 := NB237_238.out; have hnc46 := NB238_237.out; have hcz47_0 : w45.cell? ⟨gb237, 0, none⟩ = some (.int .i64 a0_0) := (bc BK237 0); have hcz47_1 : w45.cell? ⟨gb237, 1, none⟩ = some (.int .i64 a0_1) := (bc BK237 1); have hcz47_2 : w45.cell? ⟨gb237, 2, none⟩ = some (.int .i64 a0_2) := (bc BK237 2); have hcz47_3 : w45.cell? ⟨gb237, 3, none⟩ = some (.int .i64 a0_3) := (bc BK237 3); have hcz47_4 : w45.cell? ⟨gb237, 4, none⟩ = some (.int .i64 a0_4) := (bc BK237 4); have hcz47_5 : w45.cell? ⟨gb237, 5, none⟩ = some (.int .i64 a0_5) := (bc BK237 5); have hcz47_6 : w45.cell? ⟨gb237, 6, none⟩ = some (.slice A0_6 l0_6.length c0_6) := (bc BK237 6); have hcz47_7 : w45.cell? ⟨gb237, 7, none⟩ = some (.slice A0_7 l0_7.length c0_7) := (bc BK237 7); have hcz47_8 : w45.cell? ⟨gb237, 8, none⟩ = some (.slice A0_8 l0_8.length c0_8) := (bc BK237 8); have hcz48_0 : w45.cell? ⟨gb238, 0, none⟩ = some (.int .i64 a1_0) := (bc BK238 0); have hcz48_1 : w45.cell? ⟨gb238, 1, none⟩ = some (.int .i64 a1_1) := (bc BK238 1); have hcz48_2 : w45.cell? ⟨gb238, 2, none⟩ = some (.int .i64 a1_2) := (bc BK238 2); have hcz48_3 : w45.cell? ⟨gb238, 3, none⟩ = some (.int .i64 a1_3) := (bc BK238 3); have hcz48_4 : w45.cell? ⟨gb238, 4, none⟩ = some (.int .i64 a1_4) := (bc BK238 4); have hcz48_5 : w45.cell? ⟨gb238, 5, none⟩ = some (.int .i64 a1_5) := (bc BK238 5); have hcz48_6 : w45.cell? ⟨gb238, 6, none⟩ = some (.slice A1_6 l1_6.length c1_6) := (bc BK238 6); have hcz48_7 : w45.cell? ⟨gb238, 7, none⟩ = some (.slice A1_7 l1_7.length c1_7) := (bc BK238 7); have hcz48_8 : w45.cell? ⟨gb238, 8, none⟩ = some (.slice A1_8 l1_8.length c1_8) := (bc BK238 8)))
     go_ret
     exact ⟨by first | rfl | (simp [errW_none, errW_some] <;> rfl) | (simp [*, errW_none, errW_some] <;> rfl), by repeat (first | (with_reducible first | exact HB.out | apply below_alloc | apply pw_below_drewN | apply below_drew1 | refine below_set ?_ GE237.out | refine below_set ?_ GE238.out) | exact HB.out)⟩
   ·rw [if_neg c5] at H
    have c5b0 : (a0_2 == a1_2) = false := beq_eq_false_iff_ne.mpr c5
    have c5b1 : (a0_2 != a1_2) = true := bne_iff_ne.mpr c5
    obtain rfl := Option.some.inj H
    go_enter Try.func26, Try.ntmps26
    go_wp2_with (first | ((with_reducible refine gate_dst (N := 2) rfl ?_); refine box_event ?hg (N := 2) ?hd (cs := #[.int .i64 a0_0, .int .i64 a0_1, .int .i64 a0_2, .int .i64 a0_3, .int .i64 a0_4, .int .i64 a0_5, .slice A0_6 l0_6.length c0_6, .slice A0_7 l0_7.length c0_7, .slice A0_8 l0_8.length c0_8]) (t := 45) ?hr ?_; (case hd => rfl); (case hg => rfl); (case hr => first | (go_simp; done) | (go_simp; rfl)); intro gb237 hg w49 hbox hb; have n0_ := am_ (below_step aa_1 hb); have n1_ := am_ (hbox); have n2_ := am_ ((by rw [hg]; exact (below_size aa_1) : w.heap.size ≤ gb237)); have n3_ := am_ ((by rw [hg]; exact (below_size aa_1) : w.heap.size ≤ gb237)); clear HB; have HB := n0_; have BK237 := n1_; have GW237 := n2_; have GE237 := n3_; clear n0_ n1_ n2_ n3_; clear hb hbox hg) | ((with_reducible refine gate_dst (N := 3) rfl ?_); refine box_event ?hg (N := 3) ?hd (cs := #[.int .i64 a1_0, .int .i64 a1_1, .int .i64 a1_2, .int .i64 a1_3, .int .i64 a1_4, .int .i64 a1_5, .slice A1_6 l1_6.length c1_6, .slice A1_7 l1_7.length c1_7, .slice A1_8 l1_8.length c1_8]) (t := 45) ?hr ?_; (case hd => rfl); (case hg => rfl); (case hr => first | (go_simp; done) | (go_simp; rfl)); intro gb238 hg w50 hbox hb; have n0_ := am_ (bbelow BK237 aa_2 hb); have n1_ := am_ (below_step aa_0 hb); have n2_ := am_ (hbox); have n3_ := am_ ((by rw [hg]; exact (below_size aa_0) : w.heap.size ≤ gb238)); have n4_ := am_ ((by rw [hg]; exact (below_size aa_0) : w.heap.size ≤ gb238)); have n5_ := am_ ((by rw [hg]; exact Nat.ne_of_lt (blk_lt (g := gb237) (o := .cells #[.int .i64 a0_0, .int .i64 a0_1, .int .i64 a0_2, .int .i64 a0_3, .int .i64 a0_4, .int .i64 a0_5, .slice A0_6 l0_6.length c0_6, .slice A0_7 l0_7.length c0_7, .slice A0_8 l0_8.length c0_8] 45 (0, 0)) aa_2) : gb237 ≠ gb238)); have n6_ := am_ ((by rw [hg]; exact Nat.ne_of_gt (blk_lt (g := gb237) (o := .cells #[.int .i64 a0_0, .int .i64 a0_1, .int .i64 a0_2, .int .i64 a0_3, .int .i64 a0_4, .int .i64 a0_5, .slice A0_6 l0_6.length c0_6, .slice A0_7 l0_7.length c0_7, .slice A0_8 l0_8.length c0_8] 45 (0, 0)) aa_2) : gb238 ≠ gb237)); clear BK237; clear HB; have BK237 := n0_; have HB := n1_; have BK238 := n2_; have GW238 := n3_; have GE238 := n4_; have NB237_238 := n5_; have NB238_237 := n6_; clear n0_ n1_ n2_ n3_ n4_ n5_ n6_; clear hb hbox hg; have hnb51 := NB237_238.out; have hnc51 := NB238_237.out; have hcz52_0 : w50.cell? ⟨gb237, 0, none⟩ = some (.int .i64 a0_0) := (bc BK237 0); have hcz52_1 : w50.cell? ⟨gb237, 1, none⟩ = some (.int .i64 a0_1) := (bc BK237 1); have hcz52_2 : w50.cell? ⟨gb237, 2, none⟩ = some (.int .i64 a0_2) := (bc BK237 2); have hcz52_3 : w50.cell? ⟨gb237, 3, none⟩ = some (.int .i64 a0_3) := (bc BK237 3); have hcz52_4 : w50.cell? ⟨gb237, 4, none⟩ = some (.int .i64 a0_4) := (bc BK237 4); have hcz52_5 : w50.cell? ⟨gb237, 5, none⟩ = some (.int .i64 a0_5) := (bc BK237 5); have hcz52_6 : w50.cell? ⟨gb237, 6, none⟩ = some (.slice A0_6 l0_6.length c0_6) := (bc BK237 6); have hcz52_7 : w50.cell? ⟨gb237, 7, none⟩ = some (.slice A0_7 l0_7.length c0_7) := (bc BK237 7); have hcz52_8 : w50.cell? ⟨gb237, 8, none⟩ = some (.slice A0_8 l0_8.length c0_8) := (bc BK237 8); have hcz53_0 : w50.cell? ⟨gb238, 0, none⟩ = some (.int .i64 a1_0) := (bc BK238 0); have hcz53_1 : w50.cell? ⟨gb238, 1, none⟩ = some (.int .i64 a1_1) := (bc BK238 1); have hcz53_2 : w50.cell? ⟨gb238, 2, none⟩ = some (.int .i64 a1_2) := (bc BK238 2); have hcz53_3 : w50.cell? ⟨gb238, 3, none⟩ = some (.int .i64 a1_3) := (bc BK238 3); have hcz53_4 : w50.cell? ⟨gb238, 4, none⟩ = some (.int .i64 a1_4) := (bc BK238 4); have hcz53_5 : w50.cell? ⟨gb238, 5, none⟩ = some (.int .i64 a1_5) := (bc BK238 5); have hcz53_6 : w50.cell? ⟨gb238, 6, none⟩ = some (.slice A1_6 l1_6.length c1_6) := (bc BK238 6); have hcz53_7 : w50.cell? ⟨gb238, 7, none⟩ = some (.slice A1_7 l1_7.length c1_7) := (bc BK238 7); have hcz53_8 : w50.cell? ⟨gb238, 8, none⟩ = some (.slice A1_8 l1_8.length c1_8) := (bc BK238 8)))
    go_ret
    exact ⟨by first | rfl | (simp [errW_none, errW_some] <;> rfl) | (simp [*, errW_none, errW_some] <;> rfl), by repeat (first | (with_reducible first | exact HB.out | apply below_alloc | apply pw_below_drewN | apply below_drew1 | refine below_set ?_ GE237.out | refine below_set ?_ GE238.out) | exact HB.out)⟩
  ·rw [if_neg c4] at H
   have c4b0 : (a0_1 == a1_1) = false := beq_eq_false_iff_ne.mpr c4
   have c4b1 : (a0_1 != a1_1) = true := bne_iff_ne.mpr c4
   obtain rfl := Option.some.inj H
   go_enter Try.func26, Try.ntmps26
   go_wp2_with (first | ((with_reducible refine gate_dst (N := 2) rfl ?_); refine box_event ?hg (N := 2) ?hd (cs := #[.int .i64 a0_0, .int .i64 a0_1, .int .i64 a0_2, .int .i64 a0_3, .int .i64 a0_4, .int .i64 a0_5, .slice A0_6 l0_6.length c0_6, .slice A0_7 l0_7.length c0_7, .slice A0_8 l0_8.length c0_8]) (t := 45) ?hr ?_; (case hd => rfl); (case hg => rfl); (case hr => first | (go_simp; done) | (go_simp; rfl)); intro gb237 hg w54 hbox hb; have n0_ := am_ (below_step aa_1 hb); have n1_ := am_ (hbox); have n2_ := am_ ((by rw [hg]; exact (below_size aa_1) : w.heap.size ≤ gb237)); have n3_ := am_ ((by rw [hg]; exact (below_size aa_1) : w.heap.size ≤ gb237)); clear HB; have HB := n0_; have BK237 := n1_; have GW237 := n2_; have GE237 := n3_; clear n0_ n1_ n2_ n3_; clear hb hbox hg) | ((with_reducible refine gate_dst (N := 3) rfl ?_); refine box_event ?hg (N := 3) ?hd (cs := #[.int .i64 a1_0, .int .i64 a1_1, .int .i64 a1_2, .int .i64 a1_3, .int .i64 a1_4, .int .i64 a1_5, .slice A1_6 l1_6.length c1_6, .slice A1_7 l1_7.length c1_7, .slice A1_8 l1_8.length c1_8]) (t := 45) ?hr ?_; (case hd => rfl); (case hg => rfl); (case hr => first | (go_simp; done) | (go_simp; rfl)); intro gb238 hg w55 hbox hb; have n0_ := am_ (bbelow BK237 aa_2 hb); have n1_ := am_ (below_step aa_0 hb); have n2_ := am_ (hbox); have n3_ := am_ ((by rw [hg]; exact (below_size aa_0) : w.heap.size ≤ gb238)); have n4_ := am_ ((by rw [hg]; exact (below_size aa_0) : w.heap.size ≤ gb238)); have n5_ := am_ ((by rw [hg]; exact Nat.ne_of_lt (blk_lt (g := gb237) (o := .cells #[.int .i64 a0_0, .int .i64 a0_1, .int .i64 a0_2, .int .i64 a0_3, .int .i64 a0_4, .int .i64 a0_5, .slice A0_6 l0_6.length c0_6, .slice A0_7 l0_7.length c0_7, .slice A0_8 l0_8.length c0_8] 45 (0, 0)) aa_2) : gb237 ≠ gb238)); have n6_ := am_ ((by rw [hg]; exact Nat.ne_of_gt (blk_lt (g := gb237) (o := .cells #[.int .i64 a0_0, .int .i64 a0_1, .int .i64 a0_2, .int .i64 a0_3, .int .i64 a0_4, .int .i64 a0_5, .slice A0_6 l0_6.length c0_6, .slice A0_7 l0_7.length c0_7, .slice A0_8 l0_8.length c0_8] 45 (0, 0)) aa_2) : gb238 ≠ gb237)); clear BK237; clear HB; have BK237 := n0_; have HB := n1_; have BK238 := n2_; have GW238 := n3_; have GE238 := n4_; have NB237_238 := n5_; have NB238_237 := n6_; clear n0_ n1_ n2_ n3_ n4_ n5_ n6_; clear hb hbox hg; have hnb56 := NB237_238.out; have hnc56 := NB238_237.out; have hcz57_0 : w55.cell? ⟨gb237, 0, none⟩ = some (.int .i64 a0_0) := (bc BK237 0); have hcz57_1 : w55.cell? ⟨gb237, 1, none⟩ = some (.int .i64 a0_1) := (bc BK237 1); have hcz57_2 : w55.cell? ⟨gb237, 2, none⟩ = some (.int .i64 a0_2) := (bc BK237 2); have hcz57_3 : w55.cell? ⟨gb237, 3, none⟩ = some (.int .i64 a0_3) := (bc BK237 3); have hcz57_4 : w55.cell? ⟨gb237, 4, none⟩ = some (.int .i64 a0_4) := (bc BK237 4); have hcz57_5 : w55.cell? ⟨gb237, 5, none⟩ = some (.int .i64 a0_5) := (bc BK237 5); have hcz57_6 : w55.cell? ⟨gb237, 6, none⟩ = some (.slice A0_6 l0_6.length c0_6) := (bc BK237 6); have hcz57_7 : w55.cell? ⟨gb237, 7, none⟩ = some (.slice A0_7 l0_7.length c0_7) := (bc BK237 7); have hcz57_8 : w55.cell? ⟨gb237, 8, none⟩ = some (.slice A0_8 l0_8.length c0_8) := (bc BK237 8); have hcz58_0 : w55.cell? ⟨gb238, 0, none⟩ = some (.int .i64 a1_0) := (bc BK238 0); have hcz58_1 : w55.cell? ⟨gb238, 1, none⟩ = some (.int .i64 a1_1) := (bc BK238 1); have hcz58_2 : w55.cell? ⟨gb238, 2, none⟩ = some (.int .i64 a1_2) := (bc BK238 2); have hcz58_3 : w55.cell? ⟨gb238, 3, none⟩ = some (.int .i64 a1_3) := (bc BK238 3); have hcz58_4 : w55.cell? ⟨gb238, 4, none⟩ = some (.int .i64 a1_4) := (bc BK238 4); have hcz58_5 : w55.cell? ⟨gb238, 5, none⟩ = some (.int .i64 a1_5) := (bc BK238 5); have hcz58_6 : w55.cell? ⟨gb238, 6, none⟩ = some (.slice A1_6 l1_6.length c1_6) := (bc BK238 6); have hcz58_7 : w55.cell? ⟨gb238, 7, none⟩ = some (.slice A1_7 l1_7.length c1_7) := (bc BK238 7); have hcz58_8 : w55.cell? ⟨gb238, 8, none⟩ = some (.slice A1_8 l1_8.length c1_8) := (bc BK238 8)))
   go_ret
   exact ⟨by first | rfl | (simp [errW_none, errW_some] <;> rfl) | (simp [*, errW_none, errW_some] <;> rfl), by repeat (first | (with_reducible first | exact HB.out | apply below_alloc | apply pw_below_drewN | apply below_drew1 | refine below_set ?_ GE237.out | refine below_set ?_ GE238.out) | exact HB.out)⟩
 ·rw [if_neg c3] at H
  have c3b0 : (a0_0 == a1_0) = false := beq_eq_false_iff_ne.mpr c3
  have c3b1 : (a0_0 != a1_0) = true := bne_iff_ne.mpr c3
  obtain rfl := Option.some.inj H
  go_enter Try.func26, Try.ntmps26
  go_wp2_with (first | ((with_reducible refine gate_dst (N := 2) rfl ?_); refine box_event ?hg (N := 2) ?hd (cs := #[.int .i64 a0_0, .int .i64 a0_1, .int .i64 a0_2, .int .i64 a0_3, .int .i64 a0_4, .int .i64 a0_5, .slice A0_6 l0_6.length c0_6, .slice A0_7 l0_7.length c0_7, .slice A0_8 l0_8.length c0_8]) (t := 45) ?hr ?_; (case hd => rfl); (case hg => rfl); (case hr => first | (go_simp; done) | (go_simp; rfl)); intro gb237 hg w59 hbox hb; have n0_ := am_ (below_step aa_1 hb); have n1_ := am_ (hbox); have n2_ := am_ ((by rw [hg]; exact (below_size aa_1) : w.heap.size ≤ gb237)); have n3_ := am_ ((by rw [hg]; exact (below_size aa_1) : w.heap.size ≤ gb237)); clear HB; have HB := n0_; have BK237 := n1_; have GW237 := n2_; have GE237 := n3_; clear n0_ n1_ n2_ n3_; clear hb hbox hg) | ((with_reducible refine gate_dst (N := 3) rfl ?_); refine box_event ?hg (N := 3) ?hd (cs := #[.int .i64 a1_0, .int .i64 a1_1, .int .i64 a1_2, .int .i64 a1_3, .int .i64 a1_4, .int .i64 a1_5, .slice A1_6 l1_6.length c1_6, .slice A1_7 l1_7.length c1_7, .slice A1_8 l1_8.length c1_8]) (t := 45) ?hr ?_; (case hd => rfl); (case hg => rfl); (case hr => first | (go_simp; done) | (go_simp; rfl)); intro gb238 hg w60 hbox hb; have n0_ := am_ (bbelow BK237 aa_2 hb); have n1_ := am_ (below_step aa_0 hb); have n2_ := am_ (hbox); have n3_ := am_ ((by rw [hg]; exact (below_size aa_0) : w.heap.size ≤ gb238)); have n4_ := am_ ((by rw [hg]; exact (below_size aa_0) : w.heap.size ≤ gb238)); have n5_ := am_ ((by rw [hg]; exact Nat.ne_of_lt (blk_lt (g := gb237) (o := .cells #[.int .i64 a0_0, .int .i64 a0_1, .int .i64 a0_2, .int .i64 a0_3, .int .i64 a0_4, .int .i64 a0_5, .slice A0_6 l0_6.length c0_6, .slice A0_7 l0_7.length c0_7, .slice A0_8 l0_8.length c0_8] 45 (0, 0)) aa_2) : gb237 ≠ gb238)); have n6_ := am_ ((by rw [hg]; exact Nat.ne_of_gt (blk_lt (g := gb237) (o := .cells #[.int .i64 a0_0, .int .i64 a0_1, .int .i64 a0_2, .int .i64 a0_3, .int .i64 a0_4, .int .i64 a0_5, .slice A0_6 l0_6.length c0_6, .slice A0_7 l0_7.length c0_7, .slice A0_8 l0_8.length c0_8] 45 (0, 0)) aa_2) : gb238 ≠ gb237)); clear BK237; clear HB; have BK237 := n0_; have HB := n1_; have BK238 := n2_; have GW238 := n3_; have GE238 := n4_; have NB237_238 := n5_; have NB238_237 := n6_; clear n0_ n1_ n2_ n3_ n4_ n5_ n6_; clear hb hbox hg; have hnb61 := NB237_238.out; have hnc61 := NB238_237.out; have hcz62_0 : w60.cell? ⟨gb237, 0, none⟩ = some (.int .i64 a0_0) := (bc BK237 0); have hcz62_1 : w60.cell? ⟨gb237, 1, none⟩ = some (.int .i64 a0_1) := (bc BK237 1); have hcz62_2 : w60.cell? ⟨gb237, 2, none⟩ = some (.int .i64 a0_2) := (bc BK237 2); have hcz62_3 : w60.cell? ⟨gb237, 3, none⟩ = some (.int .i64 a0_3) := (bc BK237 3); have hcz62_4 : w60.cell? ⟨gb237, 4, none⟩ = some (.int .i64 a0_4) := (bc BK237 4); have hcz62_5 : w60.cell? ⟨gb237, 5, none⟩ = some (.int .i64 a0_5) := (bc BK237 5); have hcz62_6 : w60.cell? ⟨gb237, 6, none⟩ = some (.slice A0_6 l0_6.length c0_6) := (bc BK237 6); have hcz62_7 : w60.cell? ⟨gb237, 7, none⟩ = some (.slice A0_7 l0_7.length c0_7) := (bc BK237 7); have hcz62_8 : w60.cell? ⟨gb237, 8, none⟩ = some (.slice A0_8 l0_8.length c0_8) := (bc BK237 8); have hcz63_0 : w60.cell? ⟨gb238, 0, none⟩ = some (.int .i64 a1_0) := (bc BK238 0); have hcz63_1 : w60.cell? ⟨gb238, 1, none⟩ = some (.int .i64 a1_1) := (bc BK238 1); have hcz63_2 : w60.cell? ⟨gb238, 2, none⟩ = some (.int .i64 a1_2) := (bc BK238 2); have hcz63_3 : w60.cell? ⟨gb238, 3, none⟩ = some (.int .i64 a1_3) := (bc BK238 3); have hcz63_4 : w60.cell? ⟨gb238, 4, none⟩ = some (.int .i64 a1_4) := (bc BK238 4); have hcz63_5 : w60.cell? ⟨gb238, 5, none⟩ = some (.int .i64 a1_5) := (bc BK238 5); have hcz63_6 : w60.cell? ⟨gb238, 6, none⟩ = some (.slice A1_6 l1_6.length c1_6) := (bc BK238 6); have hcz63_7 : w60.cell? ⟨gb238, 7, none⟩ = some (.slice A1_7 l1_7.length c1_7) := (bc BK238 7); have hcz63_8 : w60.cell? ⟨gb238, 8, none⟩ = some (.slice A1_8 l1_8.length c1_8) := (bc BK238 8)))
  go_ret
  exact ⟨by first | rfl | (simp [errW_none, errW_some] <;> rfl) | (simp [*, errW_none, errW_some] <;> rfl), by repeat (first | (with_reducible first | exact HB.out | apply below_alloc | apply pw_below_drewN | apply below_drew1 | refine below_set ?_ GE237.out | refine below_set ?_ GE238.out) | exact HB.out)⟩

def gangwayref0_EqInstrs.T6 : Bool × List (List Nat × List Nat) := (true, [([], []), ([], []), ([0, 1], [0, 1]), ([2], [2]), ([], []), ([], []), ([4, 5], [4, 5]), ([6], [6]), ([3, 7], [3, 7]), ([8], [8])])
def gangwayref0_EqInstrs.B6 : List Nat := [0, 0, 3, 7, 0, 0, 48, 112, 255, 511]
theorem gangwayref0_EqInstrs.tab6 : rtab .any (opsOf Try.f14 6) = gangwayref0_EqInstrs.T6 := by kernel_rfl
theorem gangwayref0_EqInstrs.bits6 : waitsOk gangwayref0_EqInstrs.T6.2 gangwayref0_EqInstrs.B6 = true := by kernel_rfl
theorem gangwayref0_EqInstrs.aa_0 {p : Prop} (h : p := by repeat (first | (with_reducible first | exact HB.out | apply below_alloc | apply pw_below_drewN | apply below_drew1) | exact HB.out)) : p := h
theorem gangwayref0_EqInstrs.aa_1 {p : Prop} (h : p := by repeat (first | exact (Kd.C_below HR242_6.out HB.out) | (with_reducible refine Kd.C_alloc ?_ _) | (with_reducible refine Kd.C_drewN ?_ _) | (with_reducible refine Kd.C_drew ?_))) : p := h
theorem gangwayref0_EqInstrs.aa_2 {p : Prop} (h : p := by repeat (first | exact (Kd.C_below HR242_7.out HB.out) | (with_reducible refine Kd.C_alloc ?_ _) | (with_reducible refine Kd.C_drewN ?_ _) | (with_reducible refine Kd.C_drew ?_))) : p := h
theorem gangwayref0_EqInstrs.aa_3 {p : Prop} (h : p := by repeat (first | exact (Kd.C_below HR242_8.out HB.out) | (with_reducible refine Kd.C_alloc ?_ _) | (with_reducible refine Kd.C_drewN ?_ _) | (with_reducible refine Kd.C_drew ?_))) : p := h
theorem gangwayref0_EqInstrs.aa_4 {p : Prop} (h : p := by repeat (first | exact (Kd.C_below HR243_6.out HB.out) | (with_reducible refine Kd.C_alloc ?_ _) | (with_reducible refine Kd.C_drewN ?_ _) | (with_reducible refine Kd.C_drew ?_))) : p := h
theorem gangwayref0_EqInstrs.aa_5 {p : Prop} (h : p := by repeat (first | exact (Kd.C_below HR243_7.out HB.out) | (with_reducible refine Kd.C_alloc ?_ _) | (with_reducible refine Kd.C_drewN ?_ _) | (with_reducible refine Kd.C_drew ?_))) : p := h
theorem gangwayref0_EqInstrs.aa_6 {p : Prop} (h : p := by repeat (first | exact (Kd.C_below HR243_8.out HB.out) | (with_reducible refine Kd.C_alloc ?_ _) | (with_reducible refine Kd.C_drewN ?_ _) | (with_reducible refine Kd.C_drew ?_))) : p := h
theorem gangwayref0_EqInstrs.am_ {p : Prop} (h : p) : Aside0 p := Aside0.mk h
theorem gangwayref0_EqInstrs.bm_ {α β : Type _} {o : Option α} {f : α → Option β} {b : β} (h : o.bind f = some b) : ∃ a, o = some a ∧ f a = some b := Option.bind_eq_some_iff.mp h
set_option maxHeartbeats 8000000 in
set_option maxRecDepth 100000 in
theorem gangwayref0_EqInstrs.calls (k : Nat) : ∀ (A0 : Option Addr) (c0 : Nat) (l0 : List (S45)) (A1 : Option Addr) (c1 : Nat) (l1 : List (S45)) (r : Bool) (w : World) (hr0 : Kd.C k45 w A0 l0.length l0) (hc0 : l0.length ≤ c0) (hr1 : Kd.C k45 w A1 l1.length l1) (hc1 : l1.length ≤ c1) (h : gangwayref0_EqInstrs.f k l0 l1 = some r),
  Calls Try.prog 14 #[.slice A0 l0.length c0, .slice A1 l1.length c1] w fun e w' => e = .returned (.bool r) ∧ Below w.heap.size w w' := by
 induction k using Nat.strongRecOn with
 | _ k ih =>
 intro A0 c0 l0 A1 c1 l1 r w hr0 hc0 hr1 hc1 h
 cases k with
 | zero => exact absurd h (by simp [gangwayref0_EqInstrs.f])
 | succ k =>
 simp only [gangwayref0_EqInstrs.f] at h
 have hu45 := Try.underlying45
 have HR0 := am_ hr0
 have HC0 := am_ hc0
 clear hr0 hc0
 have HR1 := am_ hr1
 have HC1 := am_ hc1
 clear hr1 hc1
 have HB := am_ (Below.refl w.heap.size w)
 have H : (if (l0.length : Int) = (l1.length : Int) then (gangwayref0_EqInstrs.l0 k l0 l1 0) else (some false)) = some r := h
 clear h
 by_cases c3 : (l0.length : Int) = (l1.length : Int)
 rotate_left
 ·rw [if_neg c3] at H
  have c3b0 : ((l0.length : Int) == (l1.length : Int)) = false := beq_eq_false_iff_ne.mpr c3
  have c3b1 : ((l0.length : Int) != (l1.length : Int)) = true := bne_iff_ne.mpr c3
  have c3b2 : (l0.length == l1.length) = false := by first | simpa using c3 | (simp at c3 ⊢; omega)
  obtain rfl := Option.some.inj H
  go_enter Try.func14, Try.ntmps14
  go_wp2
  go_ret
  exact ⟨by first | rfl | (simp [errW_none, errW_some] <;> rfl) | (simp [*, errW_none, errW_some] <;> rfl), by repeat (first | (with_reducible first | exact HB.out | apply below_alloc | apply pw_below_drewN | apply below_drew1) | exact HB.out)⟩
 rw [if_pos c3] at H
 have c3b0 : ((l0.length : Int) == (l1.length : Int)) = true := beq_iff_eq.mpr c3
 have c3b1 : ((l0.length : Int) != (l1.length : Int)) = false := bne_eq_false_iff_eq.mpr c3
 have c3b2 : (l0.length == l1.length) = true := by first | simpa using c3 | (simp at c3 ⊢; omega)
 clear c3
 have H' := am_ H
 clear H
 go_enter Try.func14, Try.ntmps14
 go_wp2
 go_loopg [5] k (fun kq v5 w' => ∃ (x5_1 : Int), v5 = .int .i64 x5_1 ∧ Aside0 (gangwayref0_EqInstrs.l0 kq l0 l1 x5_1 = some r) ∧ Aside0 (kq ≤ k) ∧ Aside0 (Below w.heap.size w w'))
 case atStart => exact ⟨(0), (by first | rfl | (simp; done) | (simp [*]; done)), H', ⟨Nat.le_refl _⟩, ⟨aa_0⟩⟩
 case round =>
 clear H'
 try clear c1
 try clear c3b0
 try clear c3b1
 try clear c3b2
 obtain ⟨x5_1, rfl, HA, HK1, HB⟩ := hrel
 cases gk with
 | zero => exact absurd HA.out (by simp [gangwayref0_EqInstrs.l0])
 | succ k1 =>
 have H := HA.out
 clear HA
 simp only [gangwayref0_EqInstrs.l0] at H
 by_cases c4 : x5_1 < (l0.length : Int)
 rotate_left
 ·rw [if_neg c4] at H
  have c4b0 : decide (x5_1 < (l0.length : Int)) = false := decide_eq_false c4
  clear c4
  obtain rfl := Option.some.inj H
  go_wp2
  go_ret
  exact ⟨by first | rfl | (simp [errW_none, errW_some] <;> rfl) | (simp [*, errW_none, errW_some] <;> rfl), by repeat (first | (with_reducible first | exact HB.out | apply below_alloc | apply pw_below_drewN | apply below_drew1) | exact HB.out)⟩
 rw [if_pos c4] at H
 have c4b0 : decide (x5_1 < (l0.length : Int)) = true := decide_eq_true c4
 clear c4
 by_cases c5 : 0 ≤ x5_1
 rotate_left
 ·rw [if_neg c5] at H
  exact absurd H (by simp)
 rw [if_pos c5] at H
 have c5b0 : decide (0 ≤ x5_1) = true := decide_eq_true c5
 clear c5
 by_cases c6 : x5_1 < (l1.length : Int)
 rotate_left
 ·rw [if_neg c6] at H
  exact absurd H (by simp)
 rw [if_pos c6] at H
 have c6b0 : decide (x5_1 < (l1.length : Int)) = true := decide_eq_true c6
 clear c6
 replace H := bm_ H
 obtain ⟨t244, A70, H⟩ := H
 replace H : (if t244 = true then (gangwayref0_EqInstrs.l0 k1 l0 l1 (wrap64 (x5_1 + 1))) else (some false)) = some r := H
 have A7 := am_ A70
 clear A70
 by_cases c8 : t244 = true
 ·subst c8
  have H1 : (gangwayref0_EqInstrs.l0 k1 l0 l1 (wrap64 (x5_1 + 1))) = some r := by rw [if_pos rfl] at H; exact H
  clear H
  have H := H1
  clear H1
  have H' := am_ H
  clear H
  try go_wp2
  have n0_ := am_ (below_drew1 HB.out)
  clear HB
  have HB := n0_
  clear n0_
  have p242 : 0 ≤ (x5_1 : Int) := of_decide_eq_true (by first | (with_reducible assumption) | assumption)
  have q242 : x5_1 < (l0.length : Int) := of_decide_eq_true (by first | (with_reducible assumption) | assumption)
  obtain ⟨ad242, A242_6, c242_6, A242_7, c242_7, A242_8, c242_8, e242, hx242_0, hx242_1, hx242_2, hx242_3, hx242_4, hx242_5, hx242_6, hx242_7, hx242_8, hl242_6, hi242_6, hl242_7, hi242_7, hl242_8, hi242_8⟩ := at_T45 HR0.out x5_1 p242 q242
  have hw242_8 := hx242_8
  have hw242_7 := hx242_7
  have hw242_6 := hx242_6
  have hw242_5 := hx242_5
  have hw242_4 := hx242_4
  have hw242_3 := hx242_3
  have hw242_2 := hx242_2
  have hw242_1 := hx242_1
  have hw242_0 := hx242_0
  cases e242
  replace hx242_0 := up HB hx242_0
  replace hx242_1 := up HB hx242_1
  replace hx242_2 := up HB hx242_2
  replace hx242_3 := up HB hx242_3
  replace hx242_4 := up HB hx242_4
  replace hx242_5 := up HB hx242_5
  replace hx242_6 := up HB hx242_6
  replace hx242_7 := up HB hx242_7
  replace hx242_8 := up HB hx242_8
  have HR242_6 := am_ hi242_6
  have HC242_6 := am_ hl242_6
  clear hi242_6 hl242_6
  have HR242_7 := am_ hi242_7
  have HC242_7 := am_ hl242_7
  clear hi242_7 hl242_7
  have HR242_8 := am_ hi242_8
  have HC242_8 := am_ hl242_8
  clear hi242_8 hl242_8
  replace p242 := eq_true p242
  replace q242 := eq_true q242
  have p243 : 0 ≤ (x5_1 : Int) := of_decide_eq_true (by first | (with_reducible assumption) | assumption)
  have q243 : x5_1 < (l1.length : Int) := of_decide_eq_true (by first | (with_reducible assumption) | assumption)
  obtain ⟨ad243, A243_6, c243_6, A243_7, c243_7, A243_8, c243_8, e243, hx243_0, hx243_1, hx243_2, hx243_3, hx243_4, hx243_5, hx243_6, hx243_7, hx243_8, hl243_6, hi243_6, hl243_7, hi243_7, hl243_8, hi243_8⟩ := at_T45 HR1.out x5_1 p243 q243
  have hw243_8 := hx243_8
  have hw243_7 := hx243_7
  have hw243_6 := hx243_6
  have hw243_5 := hx243_5
  have hw243_4 := hx243_4
  have hw243_3 := hx243_3
  have hw243_2 := hx243_2
  have hw243_1 := hx243_1
  have hw243_0 := hx243_0
  cases e243
  replace hx243_0 := up HB hx243_0
  replace hx243_1 := up HB hx243_1
  replace hx243_2 := up HB hx243_2
  replace hx243_3 := up HB hx243_3
  replace hx243_4 := up HB hx243_4
  replace hx243_5 := up HB hx243_5
  replace hx243_6 := up HB hx243_6
  replace hx243_7 := up HB hx243_7
  replace hx243_8 := up HB hx243_8
  have HR243_6 := am_ hi243_6
  have HC243_6 := am_ hl243_6
  clear hi243_6 hl243_6
  have HR243_7 := am_ hi243_7
  have HC243_7 := am_ hl243_7
  clear hi243_7 hl243_7
  have HR243_8 := am_ hi243_8
  have HC243_8 := am_ hl243_8
  clear hi243_8 hl243_8
  replace p243 := eq_true p243
  replace q243 := eq_true q243
  refine start_ (n := 10) (S := fun w' => w'.cell? (ad242.add ((x5_1).toNat * 9)) = some (.int .i64 ((rd_T45 l0 x5_1).f0)) ∧ w'.cell? ⟨(ad242.add ((x5_1).toNat * 9)).block, (ad242.add ((x5_1).toNat * 9)).off + 1, none⟩ = some (.int .i64 ((rd_T45 l0 x5_1).f1)) ∧ w'.cell? ⟨(ad242.add ((x5_1).toNat * 9)).block, (ad242.add ((x5_1).toNat * 9)).off + 2, none⟩ = some (.int .i64 ((rd_T45 l0 x5_1).f2)) ∧ w'.cell? ⟨(ad242.add ((x5_1).toNat * 9)).block, (ad242.add ((x5_1).toNat * 9)).off + 3, none⟩ = some (.int .i64 ((rd_T45 l0 x5_1).f3)) ∧ w'.cell? ⟨(ad242.add ((x5_1).toNat * 9)).block, (ad242.add ((x5_1).toNat * 9)).off + 4, none⟩ = some (.int .i64 ((rd_T45 l0 x5_1).f4)) ∧ w'.cell? ⟨(ad242.add ((x5_1).toNat * 9)).block, (ad242.add ((x5_1).toNat * 9)).off + 5, none⟩ = some (.int .i64 ((rd_T45 l0 x5_1).f5)) ∧ w'.cell? ⟨(ad242.add ((x5_1).toNat * 9)).block, (ad242.add ((x5_1).toNat * 9)).off + 6, none⟩ = some (.slice A242_6 ((rd_T45 l0 x5_1).f6).length c242_6) ∧ w'.cell? ⟨(ad242.add ((x5_1).toNat * 9)).block, (ad242.add ((x5_1).toNat * 9)).off + 7, none⟩ = some (.slice A242_7 ((rd_T45 l0 x5_1).f7).length c242_7) ∧ w'.cell? ⟨(ad242.add ((x5_1).toNat * 9)).block, (ad242.add ((x5_1).toNat * 9)).off + 8, none⟩ = some (.slice A242_8 ((rd_T45 l0 x5_1).f8).length c242_8) ∧ w'.cell? (ad243.add ((x5_1).toNat * 9)) = some (.int .i64 ((rd_T45 l1 x5_1).f0)) ∧ w'.cell? ⟨(ad243.add ((x5_1).toNat * 9)).block, (ad243.add ((x5_1).toNat * 9)).off + 1, none⟩ = some (.int .i64 ((rd_T45 l1 x5_1).f1)) ∧ w'.cell? ⟨(ad243.add ((x5_1).toNat * 9)).block, (ad243.add ((x5_1).toNat * 9)).off + 2, none⟩ = some (.int .i64 ((rd_T45 l1 x5_1).f2)) ∧ w'.cell? ⟨(ad243.add ((x5_1).toNat * 9)).block, (ad243.add ((x5_1).toNat * 9)).off + 3, none⟩ = some (.int .i64 ((rd_T45 l1 x5_1).f3)) ∧ w'.cell? ⟨(ad243.add ((x5_1).toNat * 9)).block, (ad243.add ((x5_1).toNat * 9)).off + 4, none⟩ = some (.int .i64 ((rd_T45 l1 x5_1).f4)) ∧ w'.cell? ⟨(ad243.add ((x5_1).toNat * 9)).block, (ad243.add ((x5_1).toNat * 9)).off + 5, none⟩ = some (.int .i64 ((rd_T45 l1 x5_1).f5)) ∧ w'.cell? ⟨(ad243.add ((x5_1).toNat * 9)).block, (ad243.add ((x5_1).toNat * 9)).off + 6, none⟩ = some (.slice A243_6 ((rd_T45 l1 x5_1).f6).length c243_6) ∧ w'.cell? ⟨(ad243.add ((x5_1).toNat * 9)).block, (ad243.add ((x5_1).toNat * 9)).off + 7, none⟩ = some (.slice A243_7 ((rd_T45 l1 x5_1).f7).length c243_7) ∧ w'.cell? ⟨(ad243.add ((x5_1).toNat * 9)).block, (ad243.add ((x5_1).toNat * 9)).off + 8, none⟩ = some (.slice A243_8 ((rd_T45 l1 x5_1).f8).length c243_8)) (ds := []) bb10_ (by kernel_rfl) rfl rfl ⟨(up HB hw242_0 :), (up HB hw242_1 :), (up HB hw242_2 :), (up HB hw242_3 :), (up HB hw242_4 :), (up HB hw242_5 :), (up HB hw242_6 :), (up HB hw242_7 :), (up HB hw242_8 :), (up HB hw243_0 :), (up HB hw243_1 :), (up HB hw243_2 :), (up HB hw243_3 :), (up HB hw243_4 :), (up HB hw243_5 :), (up HB hw243_6 :), (up HB hw243_7 :), (up HB hw243_8 :)⟩ (fun hHeld => ?_); refine with_tabW gangwayref0_EqInstrs.tab6 gangwayref0_EqInstrs.bits6 (fun HT_ HW_ => ?_)
  generalize wr.drew = w9 at HB HR242_6 HR242_7 HR242_8 HR243_6 HR243_7 HR243_8 hx242_0 hx242_1 hx242_2 hx242_3 hx242_4 hx242_5 hx242_6 hx242_7 hx242_8 hx243_0 hx243_1 hx243_2 hx243_3 hx243_4 hx243_5 hx243_6 hx243_7 hx243_8 hHeld ⊢
  refine pure_ (i := 0) (N := some 17) (v := ?_) (a' := ?_) bb9_ rfl rfl (any_of HT_.out (by kernel_rfl)) (fun _ _ _ h => h) (Or.inl ⟨by rfl, ?_⟩) ?_ ?_
  rotate_left; · intro w'; go_simp; with_reducible rfl
  rotate_left; · simp only [Act.put, e1, e2, e3, i64_w, i32_w]; rfl
  refine pure_ (i := 1) (N := some 18) (v := ?_) (a' := ?_) bb8_ rfl rfl (any_of HT_.out (by kernel_rfl)) (fun _ _ _ h => h) (Or.inl ⟨by rfl, ?_⟩) ?_ ?_
  rotate_left; · intro w'; go_simp; with_reducible rfl
  rotate_left; · simp only [Act.put, e1, e2, e3, i64_w, i32_w]; rfl
  refine pure_ (i := 2) (N := some 19) (v := ?_) (a' := ?_) bb7_ rfl rfl (any_of HT_.out (by kernel_rfl)) (fun _ _ _ h => h) (Or.inl ⟨by rfl, ?_⟩) ?_ ?_
  rotate_left; · intro w'; go_simp; with_reducible rfl
  rotate_left; · simp only [Act.put, e1, e2, e3, i64_w, i32_w]; rfl
  refine pure_ (i := 4) (N := some 21) (v := ?_) (a' := ?_) bb6_ rfl rfl (any_of HT_.out (by kernel_rfl)) (fun _ _ _ h => h) (Or.inl ⟨by rfl, ?_⟩) ?_ ?_
  rotate_left; · intro w'; go_simp; with_reducible rfl
  rotate_left; · simp only [Act.put, e1, e2, e3, i64_w, i32_w]; rfl
  refine pure_ (i := 5) (N := some 22) (v := ?_) (a' := ?_) bb5_ rfl rfl (any_of HT_.out (by kernel_rfl)) (fun _ _ _ h => h) (Or.inl ⟨by rfl, ?_⟩) ?_ ?_
  rotate_left; · intro w'; go_simp; with_reducible rfl
  rotate_left; · simp only [Act.put, e1, e2, e3, i64_w, i32_w]; rfl
  refine pure_ (i := 6) (N := some 23) (v := ?_) (a' := ?_) bb4_ rfl rfl (any_of HT_.out (by kernel_rfl)) (fun _ _ _ h => h) (Or.inl ⟨by rfl, ?_⟩) ?_ ?_
  rotate_left; · intro w'; go_simp; with_reducible rfl
  rotate_left; · simp only [Act.put, e1, e2, e3, i64_w, i32_w]; rfl
  refine take_ (i := 3) (N := some 20) (v := ?_) (a' := ?_) bb3_ rfl rfl (take_ofW HT_.out HW_.out (by kernel_rfl)) (fun _ _ _ h => h) (Or.inl ⟨by rfl, ?_⟩) hHeld ?_ ?_
  rotate_left; · rintro w' ⟨s0, s1, s2, s3, s4, s5, s6, s7, s8, s9, s10, s11, s12, s13, s14, s15, s16, s17⟩; go_simp; with_reducible rfl
  rotate_left; · simp only [Act.put, e1, e2, e3, i64_w, i32_w]; rfl
  refine take_ (i := 7) (N := some 24) (v := ?_) (a' := ?_) bb2_ rfl rfl (take_ofW HT_.out HW_.out (by kernel_rfl)) (fun _ _ _ h => h) (Or.inl ⟨by rfl, ?_⟩) hHeld ?_ ?_
  rotate_left; · rintro w' ⟨s0, s1, s2, s3, s4, s5, s6, s7, s8, s9, s10, s11, s12, s13, s14, s15, s16, s17⟩; go_simp; with_reducible rfl
  rotate_left; · simp only [Act.put, e1, e2, e3, i64_w, i32_w]; rfl
  refine one_ (i := 8) (N := some 25) bb1_ rfl rfl (one_of HT_.out (by kernel_rfl)) (by decide) (fun K hK => ?_)
  refine goes_ Try.func26 (by kernel_rfl) rfl #[.agg #[.int .i64 ((rd_T45 l0 x5_1).f0), .int .i64 ((rd_T45 l0 x5_1).f1), .int .i64 ((rd_T45 l0 x5_1).f2), .int .i64 ((rd_T45 l0 x5_1).f3), .int .i64 ((rd_T45 l0 x5_1).f4), .int .i64 ((rd_T45 l0 x5_1).f5), .slice A242_6 ((rd_T45 l0 x5_1).f6).length c242_6, .slice A242_7 ((rd_T45 l0 x5_1).f7).length c242_7, .slice A242_8 ((rd_T45 l0 x5_1).f8).length c242_8], .agg #[.int .i64 ((rd_T45 l1 x5_1).f0), .int .i64 ((rd_T45 l1 x5_1).f1), .int .i64 ((rd_T45 l1 x5_1).f2), .int .i64 ((rd_T45 l1 x5_1).f3), .int .i64 ((rd_T45 l1 x5_1).f4), .int .i64 ((rd_T45 l1 x5_1).f5), .slice A243_6 ((rd_T45 l1 x5_1).f6).length c243_6, .slice A243_7 ((rd_T45 l1 x5_1).f7).length c243_7, .slice A243_8 ((rd_T45 l1 x5_1).f8).length c243_8]] (by rfl) rfl rfl (by (try simp only [List.map_toArray, List.map_cons, List.map_nil]); first | done | rfl | (simp only [List.length_drop, List.length_take]; rfl)) ?_
  with_reducible refine (gangwayref0_EqInstrs.q.step k1 (fun j_ hj_ => ih j_ (by have := HK1.out; omega)) ((rd_T45 l0 x5_1).f0) ((rd_T45 l0 x5_1).f1) ((rd_T45 l0 x5_1).f2) ((rd_T45 l0 x5_1).f3) ((rd_T45 l0 x5_1).f4) ((rd_T45 l0 x5_1).f5) _ _ ((rd_T45 l0 x5_1).f6) _ _ ((rd_T45 l0 x5_1).f7) _ _ ((rd_T45 l0 x5_1).f8) ((rd_T45 l1 x5_1).f0) ((rd_T45 l1 x5_1).f1) ((rd_T45 l1 x5_1).f2) ((rd_T45 l1 x5_1).f3) ((rd_T45 l1 x5_1).f4) ((rd_T45 l1 x5_1).f5) _ _ ((rd_T45 l1 x5_1).f6) _ _ ((rd_T45 l1 x5_1).f7) _ _ ((rd_T45 l1 x5_1).f8) true _ ?side1 ?side2 ?side3 ?side4 ?side5 ?side6 ?side7 ?side8 ?side9 ?side10 ?side11 ?side12 A7.out).mono ?_
  (case side1 => exact aa_1)
  (case side2 => exact HC242_6.out)
  (case side3 => exact aa_2)
  (case side4 => exact HC242_7.out)
  (case side5 => exact aa_3)
  (case side6 => exact HC242_8.out)
  (case side7 => exact aa_4)
  (case side8 => exact HC243_6.out)
  (case side9 => exact aa_5)
  (case side10 => exact HC243_7.out)
  (case side11 => exact aa_6)
  (case side12 => exact HC243_8.out)
  rintro e w10 ⟨rfl, hb⟩
  refine ⟨_, rfl, ?_⟩
  have n0_ := am_ (below_step (by repeat (first | (with_reducible first | exact HB.out | apply below_alloc | apply pw_below_drewN | apply below_drew1) | exact HB.out)) hb)
  clear HB
  have HB := n0_
  clear n0_
  refine hK.out _ _ ⟨(up HB hw242_0 :), (up HB hw242_1 :), (up HB hw242_2 :), (up HB hw242_3 :), (up HB hw242_4 :), (up HB hw242_5 :), (up HB hw242_6 :), (up HB hw242_7 :), (up HB hw242_8 :), (up HB hw243_0 :), (up HB hw243_1 :), (up HB hw243_2 :), (up HB hw243_3 :), (up HB hw243_4 :), (up HB hw243_5 :), (up HB hw243_6 :), (up HB hw243_7 :), (up HB hw243_8 :)⟩ (fun hHeld => ?_)
  clear hK K
  refine norm_ (a' := ?_) ?_ ?_
  rotate_left
  ·show Act.put _ (some 25) _ = _
   simp only [Act.put, e1, e2, e3, i64_w, i32_w]
   rfl
  refine pure_ (i := 9) (N := some 26) (v := ?_) (a' := ?_) bb0_ rfl rfl (any_of HT_.out (by kernel_rfl)) (fun _ _ _ h => h) (Or.inl ⟨by rfl, ?_⟩) ?_ ?_
  rotate_left; · intro w'; go_simp; with_reducible rfl
  rotate_left; · simp only [Act.put, e1, e2, e3, i64_w, i32_w]; rfl
  refine done_ (done_of HT_.out (by kernel_rfl)) ?_
  try go_wp2
  go_roundg k1
  case measure => have := HK1.out; omega
  case rel => exact ⟨(wrap64 (x5_1 + 1)), (by first | rfl | (simp; done) | (simp [*]; done)), H', ⟨by have := HK1.out; omega⟩, ⟨aa_0⟩⟩
 replace c8 := Bool.eq_false_iff.mpr c8
 subst c8
 have H1 : (some false) = some r := by rw [if_neg (show ¬ (false = true) by decide)] at H; exact H
 clear H
 have H := H1
 clear H1
 obtain rfl := Option.some.inj H
 try go_wp2
 have n0_ := am_ (below_drew1 HB.out)
 clear HB
 have HB := n0_
 clear n0_
 have p242 : 0 ≤ (x5_1 : Int) := of_decide_eq_true (by first | (with_reducible assumption) | assumption)
 have q242 : x5_1 < (l0.length : Int) := of_decide_eq_true (by first | (with_reducible assumption) | assumption)
 obtain ⟨ad242, A242_6, c242_6, A242_7, c242_7, A242_8, c242_8, e242, hx242_0, hx242_1, hx242_2, hx242_3, hx242_4, hx242_5, hx242_6, hx242_7, hx242_8, hl242_6, hi242_6, hl242_7, hi242_7, hl242_8, hi242_8⟩ := at_T45 HR0.out x5_1 p242 q242
 have hw242_8 := hx242_8
 have hw242_7 := hx242_7
 have hw242_6 := hx242_6
 have hw242_5 := hx242_5
 have hw242_4 := hx242_4
 have hw242_3 := hx242_3
 have hw242_2 := hx242_2
 have hw242_1 := hx242_1
 have hw242_0 := hx242_0
 cases e242
 replace hx242_0 := up HB hx242_0
 replace hx242_1 := up HB hx242_1
 replace hx242_2 := up HB hx242_2
 replace hx242_3 := up HB hx242_3
 replace hx242_4 := up HB hx242_4
 replace hx242_5 := up HB hx242_5
 replace hx242_6 := up HB hx242_6
 replace hx242_7 := up HB hx242_7
 replace hx242_8 := up HB hx242_8
 have HR242_6 := am_ hi242_6
 have HC242_6 := am_ hl242_6
 clear hi242_6 hl242_6
 have HR242_7 := am_ hi242_7
 have HC242_7 := am_ hl242_7
 clear hi242_7 hl242_7
 have HR242_8 := am_ hi242_8
 have HC242_8 := am_ hl242_8
 clear hi242_8 hl242_8
 replace p242 := eq_true p242
 replace q242 := eq_true q242
 have p243 : 0 ≤ (x5_1 : Int) := of_decide_eq_true (by first | (with_reducible assumption) | assumption)
 have q243 : x5_1 < (l1.length : Int) := of_decide_eq_true (by first | (with_reducible assumption) | assumption)
 obtain ⟨ad243, A243_6, c243_6, A243_7, c243_7, A243_8, c243_8, e243, hx243_0, hx243_1, hx243_2, hx243_3, hx243_4, hx243_5, hx243_6, hx243_7, hx243_8, hl243_6, hi243_6, hl243_7, hi243_7, hl243_8, hi243_8⟩ := at_T45 HR1.out x5_1 p243 q243
 have hw243_8 := hx243_8
 have hw243_7 := hx243_7
 have hw243_6 := hx243_6
 have hw243_5 := hx243_5
 have hw243_4 := hx243_4
 have hw243_3 := hx243_3
 have hw243_2 := hx243_2
 have hw243_1 := hx243_1
 have hw243_0 := hx243_0
 cases e243
 replace hx243_0 := up HB hx243_0
 replace hx243_1 := up HB hx243_1
 replace hx243_2 := up HB hx243_2
 replace hx243_3 := up HB hx243_3
 replace hx243_4 := up HB hx243_4
 replace hx243_5 := up HB hx243_5
 replace hx243_6 := up HB hx243_6
 replace hx243_7 := up HB hx243_7
 replace hx243_8 := up HB hx243_8
 have HR243_6 := am_ hi243_6
 have HC243_6 := am_ hl243_6
 clear hi243_6 hl243_6
 have HR243_7 := am_ hi243_7
 have HC243_7 := am_ hl243_7
 clear hi243_7 hl243_7
 have HR243_8 := am_ hi243_8
 have HC243_8 := am_ hl243_8
 clear hi243_8 hl243_8
 replace p243 := eq_true p243
 replace q243 := eq_true q243
 refine start_ (n := 10) (S := fun w' => w'.cell? (ad242.add ((x5_1).toNat * 9)) = some (.int .i64 ((rd_T45 l0 x5_1).f0)) ∧ w'.cell? ⟨(ad242.add ((x5_1).toNat * 9)).block, (ad242.add ((x5_1).toNat * 9)).off + 1, none⟩ = some (.int .i64 ((rd_T45 l0 x5_1).f1)) ∧ w'.cell? ⟨(ad242.add ((x5_1).toNat * 9)).block, (ad242.add ((x5_1).toNat * 9)).off + 2, none⟩ = some (.int .i64 ((rd_T45 l0 x5_1).f2)) ∧ w'.cell? ⟨(ad242.add ((x5_1).toNat * 9)).block, (ad242.add ((x5_1).toNat * 9)).off + 3, none⟩ = some (.int .i64 ((rd_T45 l0 x5_1).f3)) ∧ w'.cell? ⟨(ad242.add ((x5_1).toNat * 9)).block, (ad242.add ((x5_1).toNat * 9)).off + 4, none⟩ = some (.int .i64 ((rd_T45 l0 x5_1).f4)) ∧ w'.cell? ⟨(ad242.add ((x5_1).toNat * 9)).block, (ad242.add ((x5_1).toNat * 9)).off + 5, none⟩ = some (.int .i64 ((rd_T45 l0 x5_1).f5)) ∧ w'.cell? ⟨(ad242.add ((x5_1).toNat * 9)).block, (ad242.add ((x5_1).toNat * 9)).off + 6, none⟩ = some (.slice A242_6 ((rd_T45 l0 x5_1).f6).length c242_6) ∧ w'.cell? ⟨(ad242.add ((x5_1).toNat * 9)).block, (ad242.add ((x5_1).toNat * 9)).off + 7, none⟩ = some (.slice A242_7 ((rd_T45 l0 x5_1).f7).length c242_7) ∧ w'.cell? ⟨(ad242.add ((x5_1).toNat * 9)).block, (ad242.add ((x5_1).toNat * 9)).off + 8, none⟩ = some (.slice A242_8 ((rd_T45 l0 x5_1).f8).length c242_8) ∧ w'.cell? (ad243.add ((x5_1).toNat * 9)) = some (.int .i64 ((rd_T45 l1 x5_1).f0)) ∧ w'.cell? ⟨(ad243.add ((x5_1).toNat * 9)).block, (ad243.add ((x5_1).toNat * 9)).off + 1, none⟩ = some (.int .i64 ((rd_T45 l1 x5_1).f1)) ∧ w'.cell? ⟨(ad243.add ((x5_1).toNat * 9)).block, (ad243.add ((x5_1).toNat * 9)).off + 2, none⟩ = some (.int .i64 ((rd_T45 l1 x5_1).f2)) ∧ w'.cell? ⟨(ad243.add ((x5_1).toNat * 9)).block, (ad243.add ((x5_1).toNat * 9)).off + 3, none⟩ = some (.int .i64 ((rd_T45 l1 x5_1).f3)) ∧ w'.cell? ⟨(ad243.add ((x5_1).toNat * 9)).block, (ad243.add ((x5_1).toNat * 9)).off + 4, none⟩ = some (.int .i64 ((rd_T45 l1 x5_1).f4)) ∧ w'.cell? ⟨(ad243.add ((x5_1).toNat * 9)).block, (ad243.add ((x5_1).toNat * 9)).off + 5, none⟩ = some (.int .i64 ((rd_T45 l1 x5_1).f5)) ∧ w'.cell? ⟨(ad243.add ((x5_1).toNat * 9)).block, (ad243.add ((x5_1).toNat * 9)).off + 6, none⟩ = some (.slice A243_6 ((rd_T45 l1 x5_1).f6).length c243_6) ∧ w'.cell? ⟨(ad243.add ((x5_1).toNat * 9)).block, (ad243.add ((x5_1).toNat * 9)).off + 7, none⟩ = some (.slice A243_7 ((rd_T45 l1 x5_1).f7).length c243_7) ∧ w'.cell? ⟨(ad243.add ((x5_1).toNat * 9)).block, (ad243.add ((x5_1).toNat * 9)).off + 8, none⟩ = some (.slice A243_8 ((rd_T45 l1 x5_1).f8).length c243_8)) (ds := []) bb10_ (by kernel_rfl) rfl rfl ⟨(up HB hw242_0 :), (up HB hw242_1 :), (up HB hw242_2 :), (up HB hw242_3 :), (up HB hw242_4 :), (up HB hw242_5 :), (up HB hw242_6 :), (up HB hw242_7 :), (up HB hw242_8 :), (up HB hw243_0 :), (up HB hw243_1 :), (up HB hw243_2 :), (up HB hw243_3 :), (up HB hw243_4 :), (up HB hw243_5 :), (up HB hw243_6 :), (up HB hw243_7 :), (up HB hw243_8 :)⟩ (fun hHeld => ?_); refine with_tabW gangwayref0_EqInstrs.tab6 gangwayref0_EqInstrs.bits6 (fun HT_ HW_ => ?_)
 generalize wr.drew = w11 at HB HR242_6 HR242_7 HR242_8 HR243_6 HR243_7 HR243_8 hx242_0 hx242_1 hx242_2 hx242_3 hx242_4 hx242_5 hx242_6 hx242_7 hx242_8 hx243_0 hx243_1 hx243_2 hx243_3 hx243_4 hx243_5 hx243_6 hx243_7 hx243_8 hHeld ⊢
 refine pure_ (i := 0) (N := some 17) (v := ?_) (a' := ?_) bb9_ rfl rfl (any_of HT_.out (by kernel_rfl)) (fun _ _ _ h => h) (Or.inl ⟨by rfl, ?_⟩) ?_ ?_
 rotate_left; · intro w'; go_simp; with_reducible rfl
 rotate_left; · simp only [Act.put, e1, e2, e3, i64_w, i32_w]; rfl
 refine pure_ (i := 1) (N := some 18) (v := ?_) (a' := ?_) bb8_ rfl rfl (any_of HT_.out (by kernel_rfl)) (fun _ _ _ h => h) (Or.inl ⟨by rfl, ?_⟩) ?_ ?_
 rotate_left; · intro w'; go_simp; with_reducible rfl
 rotate_left; · simp only [Act.put, e1, e2, e3, i64_w, i32_w]; rfl
 refine pure_ (i := 2) (N := some 19) (v := ?_) (a' := ?_) bb7_ rfl rfl (any_of HT_.out (by kernel_rfl)) (fun _ _ _ h => h) (Or.inl ⟨by rfl, ?_⟩) ?_ ?_
 rotate_left; · intro w'; go_simp; with_reducible rfl
 rotate_left; · simp only [Act.put, e1, e2, e3, i64_w, i32_w]; rfl
 refine pure_ (i := 4) (N := some 21) (v := ?_) (a' := ?_) bb6_ rfl rfl (any_of HT_.out (by kernel_rfl)) (fun _ _ _ h => h) (Or.inl ⟨by rfl, ?_⟩) ?_ ?_
 rotate_left; · intro w'; go_simp; with_reducible rfl
 rotate_left; · simp only [Act.put, e1, e2, e3, i64_w, i32_w]; rfl
 refine pure_ (i := 5) (N := some 22) (v := ?_) (a' := ?_) bb5_ rfl rfl (any_of HT_.out (by kernel_rfl)) (fun _ _ _ h => h) (Or.inl ⟨by rfl, ?_⟩) ?_ ?_
 rotate_left; · intro w'; go_simp; with_reducible rfl
 rotate_left; · simp only [Act.put, e1, e2, e3, i64_w, i32_w]; rfl
 refine pure_ (i := 6) (N := some 23) (v := ?_) (a' := ?_) bb4_ rfl rfl (any_of HT_.out (by kernel_rfl)) (fun _ _ _ h => h) (Or.inl ⟨by rfl, ?_⟩) ?_ ?_
 rotate_left; · intro w'; go_simp; with_reducible rfl
 rotate_left; · simp only [Act.put, e1, e2, e3, i64_w, i32_w]; rfl
 refine take_ (i := 3) (N := some 20) (v := ?_) (a' := ?_) bb3_ rfl rfl (take_ofW HT_.out HW_.out (by kernel_rfl)) (fun _ _ _ h => h) (Or.inl ⟨by rfl, ?_⟩) hHeld ?_ ?_
 rotate_left; · rintro w' ⟨s0, s1, s2, s3, s4, s5, s6, s7, s8, s9, s10, s11, s12, s13, s14, s15, s16, s17⟩; go_simp; with_reducible rfl
 rotate_left; · simp only [Act.put, e1, e2, e3, i64_w, i32_w]; rfl
 refine take_ (i := 7) (N := some 24) (v := ?_) (a' := ?_) bb2_ rfl rfl (take_ofW HT_.out HW_.out (by kernel_rfl)) (fun _ _ _ h => h) (Or.inl ⟨by rfl, ?_⟩) hHeld ?_ ?_
 rotate_left; · rintro w' ⟨s0, s1, s2, s3, s4, s5, s6, s7, s8, s9, s10, s11, s12, s13, s14, s15, s16, s17⟩; go_simp; with_reducible rfl
 rotate_left; · simp only [Act.put, e1, e2, e3, i64_w, i32_w]; rfl
 refine one_ (i := 8) (N := some 25) bb1_ rfl rfl (one_of HT_.out (by kernel_rfl)) (by decide) (fun K hK => ?_)
 refine goes_ Try.func26 (by kernel_rfl) rfl #[.agg #[.int .i64 ((rd_T45 l0 x5_1).f0), .int .i64 ((rd_T45 l0 x5_1).f1), .int .i64 ((rd_T45 l0 x5_1).f2), .int .i64 ((rd_T45 l0 x5_1).f3), .int .i64 ((rd_T45 l0 x5_1).f4), .int .i64 ((rd_T45 l0 x5_1).f5), .slice A242_6 ((rd_T45 l0 x5_1).f6).length c242_6, .slice A242_7 ((rd_T45 l0 x5_1).f7).length c242_7, .slice A242_8 ((rd_T45 l0 x5_1).f8).length c242_8], .agg #[.int .i64 ((rd_T45 l1 x5_1).f0), .int .i64 ((rd_T45 l1 x5_1).f1), .int .i64 ((rd_T45 l1 x5_1).f2), .int .i64 ((rd_T45 l1 x5_1).f3), .int .i64 ((rd_T45 l1 x5_1).f4), .int .i64 ((rd_T45 l1 x5_1).f5), .slice A243_6 ((rd_T45 l1 x5_1).f6).length c243_6, .slice A243_7 ((rd_T45 l1 x5_1).f7).length c243_7, .slice A243_8 ((rd_T45 l1 x5_1).f8).length c243_8]] (by rfl) rfl rfl (by (try simp only [List.map_toArray, List.map_cons, List.map_nil]); first | done | rfl | (simp only [List.length_drop, List.length_take]; rfl)) ?_
 with_reducible refine (gangwayref0_EqInstrs.q.step k1 (fun j_ hj_ => ih j_ (by have := HK1.out; omega)) ((rd_T45 l0 x5_1).f0) ((rd_T45 l0 x5_1).f1) ((rd_T45 l0 x5_1).f2) ((rd_T45 l0 x5_1).f3) ((rd_T45 l0 x5_1).f4) ((rd_T45 l0 x5_1).f5) _ _ ((rd_T45 l0 x5_1).f6) _ _ ((rd_T45 l0 x5_1).f7) _ _ ((rd_T45 l0 x5_1).f8) ((rd_T45 l1 x5_1).f0) ((rd_T45 l1 x5_1).f1) ((rd_T45 l1 x5_1).f2) ((rd_T45 l1 x5_1).f3) ((rd_T45 l1 x5_1).f4) ((rd_T45 l1 x5_1).f5) _ _ ((rd_T45 l1 x5_1).f6) _ _ ((rd_T45 l1 x5_1).f7) _ _ ((rd_T45 l1 x5_1).f8) false _ ?side1 ?side2 ?side3 ?side4 ?side5 ?side6 ?side7 ?side8 ?side9 ?side10 ?side11 ?side12 A7.out).mono ?_
 (case side1 => exact aa_1)
 (case side2 => exact HC242_6.out)
 (case side3 => exact aa_2)
 (case side4 => exact HC242_7.out)
 (case side5 => exact aa_3)
 (case side6 => exact HC242_8.out)
 (case side7 => exact aa_4)
 (case side8 => exact HC243_6.out)
 (case side9 => exact aa_5)
 (case side10 => exact HC243_7.out)
 (case side11 => exact aa_6)
 (case side12 => exact HC243_8.out)
 rintro e w12 ⟨rfl, hb⟩
 refine ⟨_, rfl, ?_⟩
 have n0_ := am_ (below_step (by repeat (first | (with_reducible first | exact HB.out | apply below_alloc | apply pw_below_drewN | apply below_drew1) | exact HB.out)) hb)
 clear HB
 have HB := n0_
 clear n0_
 refine hK.out _ _ ⟨(up HB hw242_0 :), (up HB hw242_1 :), (up HB hw242_2 :), (up HB hw242_3 :), (up HB hw242_4 :), (up HB hw242_5 :), (up HB hw242_6 :), (up HB hw242_7 :), (up HB hw242_8 :), (up HB hw243_0 :), (up HB hw243_1 :), (up HB hw243_2 :), (up HB hw243_3 :), (up HB hw243_4 :), (up HB hw243_5 :), (up HB hw243_6 :), (up HB hw243_7 :), (up HB hw243_8 :)⟩ (fun hHeld => ?_)
 clear hK K
 refine norm_ (a' := ?_) ?_ ?_
 rotate_left
 ·show Act.put _ (some 25) _ = _
  simp only [Act.put, e1, e2, e3, i64_w, i32_w]
  rfl
 refine pure_ (i := 9) (N := some 26) (v := ?_) (a' := ?_) bb0_ rfl rfl (any_of HT_.out (by kernel_rfl)) (fun _ _ _ h => h) (Or.inl ⟨by rfl, ?_⟩) ?_ ?_
 rotate_left; · intro w'; go_simp; with_reducible rfl
 rotate_left; · simp only [Act.put, e1, e2, e3, i64_w, i32_w]; rfl
 refine done_ (done_of HT_.out (by kernel_rfl)) ?_
 try go_wp2
 go_ret
 exact ⟨by first | rfl | (simp [errW_none, errW_some] <;> rfl) | (simp [*, errW_none, errW_some] <;> rfl), by repeat (first | (with_reducible first | exact HB.out | apply below_alloc | apply pw_below_drewN | apply below_drew1) | exact HB.out)⟩
theorem gangwayref0_EqInstrs.q.calls (k : Nat) : ∀ (a0_0 : Int) (a0_1 : Int) (a0_2 : Int) (a0_3 : Int) (a0_4 : Int) (a0_5 : Int) (A0_6 : Option Addr) (c0_6 : Nat) (l0_6 : List Int) (A0_7 : Option Addr) (c0_7 : Nat) (l0_7 : List (S45)) (A0_8 : Option Addr) (c0_8 : Nat) (l0_8 : List (S45)) (a1_0 : Int) (a1_1 : Int) (a1_2 : Int) (a1_3 : Int) (a1_4 : Int) (a1_5 : Int) (A1_6 : Option Addr) (c1_6 : Nat) (l1_6 : List Int) (A1_7 : Option Addr) (c1_7 : Nat) (l1_7 : List (S45)) (A1_8 : Option Addr) (c1_8 : Nat) (l1_8 : List (S45)) (r : Bool) (w : World) (hr0_6 : Kd.C (Kd.int .i64) w A0_6 l0_6.length l0_6) (hc0_6 : l0_6.length ≤ c0_6) (hr0_7 : Kd.C k45 w A0_7 l0_7.length l0_7) (hc0_7 : l0_7.length ≤ c0_7) (hr0_8 : Kd.C k45 w A0_8 l0_8.length l0_8) (hc0_8 : l0_8.length ≤ c0_8) (hr1_6 : Kd.C (Kd.int .i64) w A1_6 l1_6.length l1_6) (hc1_6 : l1_6.length ≤ c1_6) (hr1_7 : Kd.C k45 w A1_7 l1_7.length l1_7) (hc1_7 : l1_7.length ≤ c1_7) (hr1_8 : Kd.C k45 w A1_8 l1_8.length l1_8) (hc1_8 : l1_8.length ≤ c1_8) (h : gangwayref0_EqInstrs.q.f k a0_0 a0_1 a0_2 a0_3 a0_4 a0_5 l0_6 l0_7 l0_8 a1_0 a1_1 a1_2 a1_3 a1_4 a1_5 l1_6 l1_7 l1_8 = some r),
  Calls Try.prog 26 #[.agg #[.int .i64 a0_0, .int .i64 a0_1, .int .i64 a0_2, .int .i64 a0_3, .int .i64 a0_4, .int .i64 a0_5, .slice A0_6 l0_6.length c0_6, .slice A0_7 l0_7.length c0_7, .slice A0_8 l0_8.length c0_8], .agg #[.int .i64 a1_0, .int .i64 a1_1, .int .i64 a1_2, .int .i64 a1_3, .int .i64 a1_4, .int .i64 a1_5, .slice A1_6 l1_6.length c1_6, .slice A1_7 l1_7.length c1_7, .slice A1_8 l1_8.length c1_8]] w fun e w' => e = .returned (.bool r) ∧ Below w.heap.size w w' := gangwayref0_EqInstrs.q.step k (fun j_ _ => gangwayref0_EqInstrs.calls j_)

def gangwaylaw5_wakes.f (k : Nat)  : Option (Bool) := (code_Decode.f k (([65, 1, 26, 11] : List Int))).bind fun bt248 => ((gangwaylaw5_num.f bt248.2.2).bind fun t253 => (if t253 = 0 then (if bt248.2.1 = 4 then ((gangwayref0_EqInstrs.f k bt248.1 (([(⟨65, 0, 0, 0, 0, 1, ([] : List Int), ([] : List (S45)), ([] : List (S45))⟩ : S45), (⟨26, 0, 0, 0, 0, 0, ([] : List Int), ([] : List (S45)), ([] : List (S45))⟩ : S45)] : List (S45)))).bind fun t257 => (some t257)) else (none)) else (none)))
theorem gangwaylaw5_wakes.mono : ∀ k, LeO (gangwaylaw5_wakes.f k ) (gangwaylaw5_wakes.f (k + 1) ) := by
 intro  k
 unfold gangwaylaw5_wakes.f
 repeat' first
   | (with_reducible exact code_Decode.mono _ _)
   | (with_reducible exact gangwayref0_EqInstrs.mono _ _ _)
   | (with_reducible exact LeO.refl _)
   | (with_reducible exact LeO.none _)
   | (with_reducible refine LeO.ite ?_ ?_)
   | (with_reducible refine LeO.bind ?_ (fun _ => ?_))
   | exact code_Decode.mono _ _
   | exact gangwayref0_EqInstrs.mono _ _ _
   | exact LeO.none _
   | refine LeO.ite ?_ ?_
   | refine LeO.bind ?_ (fun _ => ?_)
theorem gangwaylaw5_wakes.aa_0 {p : Prop} (h : p := by repeat (first | (with_reducible first | exact HB.out | apply below_alloc | apply pw_below_drewN | apply below_drew1) | exact HB.out)) : p := h
theorem gangwaylaw5_wakes.am_ {p : Prop} (h : p) : Aside0 p := Aside0.mk h
theorem gangwaylaw5_wakes.bm_ {α β : Type _} {o : Option α} {f : α → Option β} {b : β} (h : o.bind f = some b) : ∃ a, o = some a ∧ f a = some b := Option.bind_eq_some_iff.mp h
set_option maxHeartbeats 8000000 in
set_option maxRecDepth 100000 in
theorem gangwaylaw5_wakes.calls (k : Nat)  (r : Bool) (w : World) (h : gangwaylaw5_wakes.f k  = some r) :
  Calls Try.prog 17 #[] w fun e w' => e = .returned (.bool r) ∧ Below w.heap.size w w' := by
 have hu45 := Try.underlying45
 have HB := am_ (Below.refl w.heap.size w)
 have H : ((code_Decode.f k (([65, 1, 26, 11] : List Int))).bind fun bt248 => ((gangwaylaw5_num.f bt248.2.2).bind fun t253 => (if t253 = 0 then (if bt248.2.1 = 4 then ((gangwayref0_EqInstrs.f k bt248.1 (([(⟨65, 0, 0, 0, 0, 1, ([] : List Int), ([] : List (S45)), ([] : List (S45))⟩ : S45), (⟨26, 0, 0, 0, 0, 0, ([] : List Int), ([] : List (S45)), ([] : List (S45))⟩ : S45)] : List (S45)))).bind fun t257 => (some t257)) else (none)) else (none)))) = some r := h
 clear h
 obtain ⟨y245, hy245⟩ : ∃ y_ : List Int, y_ = (([65, 1, 26, 11] : List Int)) := ⟨_, rfl⟩
 replace H : ((code_Decode.f k y245).bind fun bt248 => ((gangwaylaw5_num.f bt248.2.2).bind fun t253 => (if t253 = 0 then (if bt248.2.1 = 4 then ((gangwayref0_EqInstrs.f k bt248.1 (([(⟨65, 0, 0, 0, 0, 1, ([] : List Int), ([] : List (S45)), ([] : List (S45))⟩ : S45), (⟨26, 0, 0, 0, 0, 0, ([] : List Int), ([] : List (S45)), ([] : List (S45))⟩ : S45)] : List (S45)))).bind fun t257 => (some t257)) else (none)) else (none)))) = some r := by first | (rw [hy245]; with_reducible exact H) | (have H2_ := (Option.bind_some _ _).symm.trans H; rw [hy245]; with_reducible exact H2_) | (have H2_ := (Option.bind_some _ _).symm.trans H; with_reducible exact H2_) | with_reducible exact H | (rw [hy245]; exact H) | exact H
 have Ny245 := am_ hy245
 clear hy245
 replace H := bm_ H
 obtain ⟨⟨t248, t249, t250⟩, A10, H⟩ := H
 replace H : ((gangwaylaw5_num.f t250).bind fun t253 => (if t253 = 0 then (if t249 = 4 then ((gangwayref0_EqInstrs.f k t248 (([(⟨65, 0, 0, 0, 0, 1, ([] : List Int), ([] : List (S45)), ([] : List (S45))⟩ : S45), (⟨26, 0, 0, 0, 0, 0, ([] : List Int), ([] : List (S45)), ([] : List (S45))⟩ : S45)] : List (S45)))).bind fun t257 => (some t257)) else (none)) else (none))) = some r := H
 have A1 := am_ A10
 clear A10
 replace H := bm_ H
 obtain ⟨t253, A20, H⟩ := H
 replace H : (if t253 = 0 then (if t249 = 4 then ((gangwayref0_EqInstrs.f k t248 (([(⟨65, 0, 0, 0, 0, 1, ([] : List Int), ([] : List (S45)), ([] : List (S45))⟩ : S45), (⟨26, 0, 0, 0, 0, 0, ([] : List Int), ([] : List (S45)), ([] : List (S45))⟩ : S45)] : List (S45)))).bind fun t257 => (some t257)) else (none)) else (none)) = some r := H
 have A2 := am_ A20
 clear A20
 by_cases c3 : t253 = 0
 rotate_left
 ·rw [if_neg c3] at H
  exact absurd H (by simp)
 rw [if_pos c3] at H
 have c3b0 : (t253 == 0) = true := beq_iff_eq.mpr c3
 have c3b1 : (t253 != 0) = false := bne_eq_false_iff_eq.mpr c3
 clear c3
 by_cases c4 : t249 = 4
 rotate_left
 ·rw [if_neg c4] at H
  exact absurd H (by simp)
 rw [if_pos c4] at H
 have c4b0 : (t249 == 4) = true := beq_iff_eq.mpr c4
 have c4b1 : (t249 != 4) = false := bne_eq_false_iff_eq.mpr c4
 clear c4
 obtain ⟨y254, hy254⟩ : ∃ y_ : List (S45), y_ = (([(⟨65, 0, 0, 0, 0, 1, ([] : List Int), ([] : List (S45)), ([] : List (S45))⟩ : S45), (⟨26, 0, 0, 0, 0, 0, ([] : List Int), ([] : List (S45)), ([] : List (S45))⟩ : S45)] : List (S45))) := ⟨_, rfl⟩
 replace H : ((gangwayref0_EqInstrs.f k t248 y254).bind fun t257 => (some t257)) = some r := by first | (rw [hy254]; with_reducible exact H) | (have H2_ := (Option.bind_some _ _).symm.trans H; rw [hy254]; with_reducible exact H2_) | (have H2_ := (Option.bind_some _ _).symm.trans H; with_reducible exact H2_) | with_reducible exact H | (rw [hy254]; exact H) | exact H
 have Ny254 := am_ hy254
 clear hy254
 replace H := bm_ H
 obtain ⟨t257, A50, H⟩ := H
 replace H : (some t257) = some r := H
 have A5 := am_ A50
 clear A50
 obtain rfl := Option.some.inj H
 go_enter Try.func17, Try.ntmps17
 go_wp2_with (first | ((with_reducible refine gate_dst (N := 5) rfl ?_); (try (refine gate_guard (by rfl) ?_; dsimp only)); refine Kd.R_lit (Kd.int .u8) _ 5 ?hg (N := 5) ?hd (xs := ([65, 1, 26, 11] : List Int)) (inner := [.int .u8 65, .int .u8 1, .int .u8 26, .int .u8 11]) (ok := fun _ => True) (okp := fun _ => True) ?hr ?hp (fun _ hk => hk) trivial (Below.refl _ _) (Nat.le_refl _) (by simp) ?_; (case hd => rfl); (case hg => rfl); (case hr => first | (go_simp; done) | (go_simp; rfl)); (case hp => exact (Reps.one (show Kd.M (Kd.int .u8) _ _ _ 65 [.int .u8 65] from rfl) (Reps.one (show Kd.M (Kd.int .u8) _ _ _ 1 [.int .u8 1] from rfl) (Reps.one (show Kd.M (Kd.int .u8) _ _ _ 26 [.int .u8 26] from rfl) (Reps.one (show Kd.M (Kd.int .u8) _ _ _ 11 [.int .u8 11] from rfl) (Reps.none _ _)))))); intro v246 w6 ho7 hb hg_ hnew_; clear hg_ hnew_; (first | rw [← Ny245.out] at ho7 | (simp only [Int.reduceToNat] at ho7; rw [← Ny245.out] at ho7)); have n0_ := am_ (Kd.R_lower ho7 (below_size aa_0)); have n1_ := am_ (below_step aa_0 hb); clear HB; have HO247 := n0_; have HB := n1_; clear n0_ n1_; clear hb ho7; obtain ⟨Ao8, co8, eo8⟩ := Kd.R_slice HO247.out; subst eo8) | ((with_reducible refine gate_callee (f := 11) rfl ?_); refine goesL_ (some 6) rfl rfl Try.func11 (by kernel_rfl) rfl #[.slice Ao8 y245.length co8] rfl (by (try simp only [List.map_toArray, List.map_cons, List.map_nil]); first | done | rfl | (simp only [List.length_drop, List.length_take]; rfl)) ?_; (with_reducible refine (code_Decode.calls k _ _ y245 t248 t249 t250 _ ?side1 ?side2 A1.out).mono ?_); (case side1 => repeat (first | exact (Kd.R_reads' HO247.out).2.2 | (with_reducible refine Kd.C_alloc ?_ _) | (with_reducible refine Kd.C_drewN ?_ _) | (with_reducible refine Kd.C_drew ?_))); (case side2 => exact (Kd.R_reads' HO247.out).2.1); rintro e w9 ⟨v251, rfl, ho0, hb⟩; refine ⟨_, rfl, ?_⟩; have n0_ := am_ (Kd.R_below (by (with_reducible repeat (first | apply Kd.R_alloc | apply Kd.R_drewN | apply Kd.R_drew)); exact HO247.out) hb); have n1_ := am_ (Kd.R_lower ho0 (below_size aa_0)); have n2_ := am_ (below_step aa_0 hb); clear HO247; clear HB; have HO247 := n0_; have HO252 := n1_; have HB := n2_; clear n0_ n1_ n2_; (try clear hb); (try clear hb2); (try clear hk); (try clear hi); (try clear ho0)) | ((with_reducible refine gate_callee (f := 13) rfl ?_); refine goesL_ (some 11) rfl rfl Try.func13 (by kernel_rfl) rfl #[.int .i64 t250] rfl (by (try simp only [List.map_toArray, List.map_cons, List.map_nil]); first | done | rfl | (simp only [List.length_drop, List.length_take]; rfl)) ?_; (with_reducible refine (gangwaylaw5_num.calls t250 t253 _ A2.out).mono ?_); rintro e w' ⟨rfl, ⟨nd, rfl⟩⟩; refine ⟨_, rfl, ?_⟩) | ((with_reducible refine gate_dst (N := 21) rfl ?_); (try (refine gate_guard (by rfl) ?_; dsimp only)); refine Kd.R_lit k45 _ 45 ?hg (N := 21) ?hd (xs := ([(⟨65, 0, 0, 0, 0, 1, ([] : List Int), ([] : List (S45)), ([] : List (S45))⟩ : S45), (⟨26, 0, 0, 0, 0, 0, ([] : List Int), ([] : List (S45)), ([] : List (S45))⟩ : S45)] : List (S45))) (inner := [.int .i64 65, .int .i64 0, .int .i64 0, .int .i64 0, .int .i64 0, .int .i64 1, .slice none 0 0, .slice none 0 0, .slice none 0 0, .int .i64 26, .int .i64 0, .int .i64 0, .int .i64 0, .int .i64 0, .int .i64 0, .slice none 0 0, .slice none 0 0, .slice none 0 0]) (ok := fun _ => True) (okp := fun _ => True) ?hr ?hp (fun _ hk => hk) trivial (Below.refl _ _) (Nat.le_refl _) (by simp) ?_; (case hd => rfl); (case hg => rfl); (case hr => first | (go_simp; done) | (go_simp; rfl)); (case hp => exact (Reps.c9 (show Kd.M k45 _ _ _ (⟨65, 0, 0, 0, 0, 1, ([] : List Int), ([] : List (S45)), ([] : List (S45))⟩ : S45) [.int .i64 65, .int .i64 0, .int .i64 0, .int .i64 0, .int .i64 0, .int .i64 1, .slice none 0 0, .slice none 0 0, .slice none 0 0] from (k45_mkM _ _ _ (⟨65, 0, 0, 0, 0, 1, ([] : List Int), ([] : List (S45)), ([] : List (S45))⟩ : S45) (Kd.R_nil _ _ _ _ _) (Kd.R_nil _ _ _ _ _) (Kd.R_nil _ _ _ _ _))) (Reps.c9 (show Kd.M k45 _ _ _ (⟨26, 0, 0, 0, 0, 0, ([] : List Int), ([] : List (S45)), ([] : List (S45))⟩ : S45) [.int .i64 26, .int .i64 0, .int .i64 0, .int .i64 0, .int .i64 0, .int .i64 0, .slice none 0 0, .slice none 0 0, .slice none 0 0] from (k45_mkM _ _ _ (⟨26, 0, 0, 0, 0, 0, ([] : List Int), ([] : List (S45)), ([] : List (S45))⟩ : S45) (Kd.R_nil _ _ _ _ _) (Kd.R_nil _ _ _ _ _) (Kd.R_nil _ _ _ _ _))) (Reps.none _ _)))); intro v255 w10 ho11 hb hg_ hnew_; clear hg_ hnew_; (first | rw [← Ny254.out] at ho11 | (simp only [Int.reduceToNat] at ho11; rw [← Ny254.out] at ho11)); have n0_ := am_ (Kd.R_below (by (with_reducible repeat (first | apply Kd.R_alloc | apply Kd.R_drewN | apply Kd.R_drew)); exact HO247.out) hb); have n1_ := am_ (Kd.R_elder' (by (with_reducible repeat (first | apply Kd.R_alloc | apply Kd.R_drewN | apply Kd.R_drew)); exact HO252.out) (Kd.R_base ho11) hb); have n2_ := am_ (Kd.R_lower (Kd.R_new' ho11 (Kd.R_lt (by (with_reducible repeat (first | apply Kd.R_alloc | apply Kd.R_drewN | apply Kd.R_drew)); exact HO252.out))) (below_size aa_0)); have n3_ := am_ (below_step aa_0 hb); clear HO247; clear HO252; clear HB; have HO247 := n0_; have HO252 := n1_; have HO256 := n2_; have HB := n3_; clear n0_ n1_ n2_ n3_; clear hb ho11; obtain ⟨Ao12, co12, eo12⟩ := Kd.R_slice HO252.out; subst eo12; obtain ⟨Ao13, co13, eo13⟩ := Kd.R_slice HO256.out; subst eo13) | (go_at_call 14; (with_reducible refine (gangwayref0_EqInstrs.calls k _ _ t248 _ _ y254 t257 _ ?side1 ?side2 ?side3 ?side4 A5.out).mono ?_); (case side1 => repeat (first | exact (Kd.R_reads' HO252.out).2.2 | (with_reducible refine Kd.C_alloc ?_ _) | (with_reducible refine Kd.C_drewN ?_ _) | (with_reducible refine Kd.C_drew ?_))); (case side2 => exact (Kd.R_reads' HO252.out).2.1); (case side3 => repeat (first | exact (Kd.R_reads' HO256.out).2.2 | (with_reducible refine Kd.C_alloc ?_ _) | (with_reducible refine Kd.C_drewN ?_ _) | (with_reducible refine Kd.C_drew ?_))); (case side4 => exact (Kd.R_reads' HO256.out).2.1); rintro e w14 ⟨rfl, hb⟩; have n0_ := am_ (Kd.R_below (by (with_reducible repeat (first | apply Kd.R_alloc | apply Kd.R_drewN | apply Kd.R_drew)); exact HO247.out) hb); have n1_ := am_ (Kd.R_below (by (with_reducible repeat (first | apply Kd.R_alloc | apply Kd.R_drewN | apply Kd.R_drew)); exact HO252.out) hb); have n2_ := am_ (Kd.R_below (by (with_reducible repeat (first | apply Kd.R_alloc | apply Kd.R_drewN | apply Kd.R_drew)); exact HO256.out) hb); have n3_ := am_ (below_step aa_0 hb); clear HO247; clear HO252; clear HO256; clear HB; have HO247 := n0_; have HO252 := n1_; have HO256 := n2_; have HB := n3_; clear n0_ n1_ n2_ n3_; (try clear hb); (try clear hb2); (try clear hk); (try clear hi)))
 go_ret
 exact ⟨by first | rfl | (simp [errW_none, errW_some] <;> rfl) | (simp [*, errW_none, errW_some] <;> rfl), by repeat (first | (with_reducible first | exact HB.out | apply below_alloc | apply pw_below_drewN | apply below_drew1) | exact HB.out)⟩
def code_word.f (a0 : Int) : Option (Bool) := if a0 ≥ 0 then (some (decide (a0 < 4294967296))) else (some false)
set_option maxHeartbeats 8000000 in
set_option maxRecDepth 100000 in
theorem code_word.calls (a0 : Int) (r : Bool) (w : World) (h : code_word.f a0 = some r) :
    Calls Try.prog 60 #[.int .i64 a0] w fun e w' => e = .returned (.bool r) ∧ Drawn0 w w' := by
  have H : (if a0 ≥ 0 then (some (decide (a0 < 4294967296))) else (some false)) = some r := h
  clear h
  by_cases c2 : a0 ≥ 0
  · rw [if_pos c2] at H
    have c2b0 : decide (0 ≤ a0) = true := decide_eq_true c2
    clear c2
    obtain rfl := Option.some.inj H
    go_enter Try.func60, Try.ntmps60
    go_wp2
    go_ret
    exact ⟨by first | rfl | (simp; done) | (simp [*]; done), by repeat (first | exact Drawn0.refl _ | apply Drawn0.step)⟩
  · rw [if_neg c2] at H
    have c2b0 : decide (0 ≤ a0) = false := decide_eq_false c2
    clear c2
    obtain rfl := Option.some.inj H
    go_enter Try.func60, Try.ntmps60
    go_wp2
    go_ret
    exact ⟨by first | rfl | (simp; done) | (simp [*]; done), by repeat (first | exact Drawn0.refl _ | apply Drawn0.step)⟩

def code_good_1.f (a0 : Int) : Option (Bool) := (code_word.f a0).bind fun t258 => (some (!t258))
set_option maxHeartbeats 8000000 in
set_option maxRecDepth 100000 in
theorem code_good_1.calls (a0 : Int) (r : Bool) (w : World) (h : code_good_1.f a0 = some r) :
    Calls Try.prog 59 #[.int .i64 a0] w fun e w' => e = .returned (.bool r) ∧ Drawn0 w w' := by
  have H : ((code_word.f a0).bind fun t258 => (some (!t258))) = some r := h
  clear h
  replace H := Option.bind_eq_some_iff.mp H
  obtain ⟨t258, A20, H⟩ := H
  replace H : (some (!t258)) = some r := H
  have A2 := Aside0.mk A20
  clear A20
  obtain rfl := Option.some.inj H
  go_enter Try.func59, Try.ntmps59
  go_wp2_with (first | ((with_reducible refine gate_callee (f := 60) rfl ?_); refine goesL_ (some 4) rfl rfl Try.func60 (by kernel_rfl) rfl #[.int .i64 a0] rfl (by (try simp only [List.map_toArray, List.map_cons, List.map_nil]); first | done | rfl | (simp only [List.length_drop, List.length_take]; rfl)) ?_; (with_reducible refine (code_word.calls a0 t258 _ A2.out).mono ?_); rintro e w' ⟨rfl, ⟨nd, rfl⟩⟩; refine ⟨_, rfl, ?_⟩))
  go_ret
  exact ⟨by first | rfl | (simp; done) | (simp [*]; done), by repeat (first | exact Drawn0.refl _ | apply Drawn0.step)⟩

end Go.Proofs.Ytlahigmoljflkaa.PAll
