import Derived.Test.YtlahigmoljflkaaPAllx0
namespace Go.Proofs.Ytlahigmoljflkaa.PAll
open Go.RowKit Go.Proofs.YtlahigmoljflkaaW.PrintWords Go.Proofs.YtlahigmoljflkaaW.PrintLast Go.Proofs.YtlahigmoljflkaaW.PrintMore
attribute [local go_sem] max2_int min2_int max_two min_two max_three min_three max_four min_four   -- for this text's walks alone
set_option linter.unusedVariables false
set_option linter.unusedSimpArgs false

def gangwayref0_EqNumbers.l0 : Nat → List Int → List Int → Int → Option (Bool)
  | 0, _, _, _ => none
  | k + 1, x0, x1, x5 => if x5 < (x0.length : Int) then (if 0 ≤ x5 then (if x5 < (x1.length : Int) then (if (rd x0 x5) = (rd x1 x5) then (gangwayref0_EqNumbers.l0 k x0 x1 (wrap64 (x5 + 1))) else (some false)) else (none)) else (none)) else (some true)
def gangwayref0_EqNumbers.f (k : Nat) (l0 : List Int) (l1 : List Int) : Option (Bool) := if (l0.length : Int) = (l1.length : Int) then (gangwayref0_EqNumbers.l0 k l0 l1 0) else (some false)
theorem gangwayref0_EqNumbers.mono_l : ∀ k, (∀ y0 y1 y2, LeO (gangwayref0_EqNumbers.l0 k y0 y1 y2) (gangwayref0_EqNumbers.l0 (k + 1) y0 y1 y2))
  | 0 => fun _ _ _ r h => by simp [gangwayref0_EqNumbers.l0] at h
  | k + 1 => by
    have ih0 := gangwayref0_EqNumbers.mono_l k
    · intro y0 y1 y2
      unfold gangwayref0_EqNumbers.l0
      repeat' first
      | (with_reducible exact ih0 _ _ _)
      | (with_reducible exact LeO.refl _)
      | (with_reducible exact LeO.none _)
      | (with_reducible refine LeO.ite ?_ ?_)
      | (with_reducible refine LeO.bind ?_ (fun _ => ?_))
      | exact ih0 _ _ _
      | exact LeO.none _
      | refine LeO.ite ?_ ?_
      | refine LeO.bind ?_ (fun _ => ?_)
theorem gangwayref0_EqNumbers.mono : ∀ a0 a1 k, LeO (gangwayref0_EqNumbers.f k a0 a1) (gangwayref0_EqNumbers.f (k + 1) a0 a1) := by
  intro a0 a1 k
  have ih0 := gangwayref0_EqNumbers.mono_l k
  unfold gangwayref0_EqNumbers.f
  repeat' first
      | (with_reducible exact ih0 _ _ _)
      | (with_reducible exact LeO.refl _)
      | (with_reducible exact LeO.none _)
      | (with_reducible refine LeO.ite ?_ ?_)
      | (with_reducible refine LeO.bind ?_ (fun _ => ?_))
      | exact ih0 _ _ _
      | exact LeO.none _
      | refine LeO.ite ?_ ?_
      | refine LeO.bind ?_ (fun _ => ?_)
set_option maxHeartbeats 8000000 in
set_option maxRecDepth 100000 in
theorem gangwayref0_EqNumbers.calls (k : Nat) (A0 : Option Addr) (c0 : Nat) (l0 : List Int) (A1 : Option Addr) (c1 : Nat) (l1 : List Int) (r : Bool) (w : World) (hr0 : Kd.C (Kd.int .i64) w A0 l0.length l0) (hc0 : l0.length ≤ c0) (hr1 : Kd.C (Kd.int .i64) w A1 l1.length l1) (hc1 : l1.length ≤ c1) (h : gangwayref0_EqNumbers.f k l0 l1 = some r) :
    Calls Try.prog 38 #[.slice A0 l0.length c0, .slice A1 l1.length c1] w fun e w' => e = .returned (.bool r) ∧ Drawn0 w w' := by
  have HR0 := Aside0.mk hr0
  have HC0 := Aside0.mk hc0
  clear hr0 hc0
  have HR1 := Aside0.mk hr1
  have HC1 := Aside0.mk hc1
  clear hr1 hc1
  have H : (if (l0.length : Int) = (l1.length : Int) then (gangwayref0_EqNumbers.l0 k l0 l1 0) else (some false)) = some r := h
  clear h
  by_cases c3 : (l0.length : Int) = (l1.length : Int)
  · rw [if_pos c3] at H
    have c3b0 : ((l0.length : Int) == (l1.length : Int)) = true := beq_iff_eq.mpr c3
    have c3b1 : ((l0.length : Int) != (l1.length : Int)) = false := bne_eq_false_iff_eq.mpr c3
    have c3b2 : (l0.length == l1.length) = true := by first | simpa using c3 | (simp at c3 ⊢; omega)
    clear c3
    have H' := Aside0.mk H
    clear H
    go_enter Try.func38, Try.ntmps38
    go_wp2
    repeat (go_quiet (fail); try go_wp2)
    go_loopg [5] k (fun kq v5 w' => ∃ (x5_1 : Int), v5 = .int .i64 x5_1 ∧ Aside0 (gangwayref0_EqNumbers.l0 kq l0 l1 x5_1 = some r) ∧ Aside0 (kq ≤ k) ∧ Drawn0 w w')
    case atStart => exact ⟨(0), (by first | rfl | (simp; done) | (simp [*]; done)), H', ⟨Nat.le_refl _⟩, by repeat (first | exact Drawn0.refl _ | apply Drawn0.step)⟩
    case round =>
      clear H'
      try clear c1
      try clear p2
      try clear c3
      try clear c3b0
      try clear c3b1
      try clear c3b2
      obtain ⟨x5_1, rfl, HA, HK1, ⟨m1, rfl⟩⟩ := hrel
      cases gk with
      | zero => exact absurd HA.out (by simp [gangwayref0_EqNumbers.l0])
      | succ k1 =>
        have H := HA.out
        clear HA
        simp only [gangwayref0_EqNumbers.l0] at H
        by_cases c4 : x5_1 < (l0.length : Int)
        · rw [if_pos c4] at H
          have c4b0 : decide (x5_1 < (l0.length : Int)) = true := decide_eq_true c4
          clear c4
          by_cases c5 : 0 ≤ x5_1
          · rw [if_pos c5] at H
            have c5b0 : decide (0 ≤ x5_1) = true := decide_eq_true c5
            clear c5
            by_cases c6 : x5_1 < (l1.length : Int)
            · rw [if_pos c6] at H
              have c6b0 : decide (x5_1 < (l1.length : Int)) = true := decide_eq_true c6
              clear c6
              by_cases c7 : (rd l0 x5_1) = (rd l1 x5_1)
              · rw [if_pos c7] at H
                have c7b0 : ((rd l0 x5_1) == (rd l1 x5_1)) = true := beq_iff_eq.mpr c7
                have c7b1 : ((rd l0 x5_1) != (rd l1 x5_1)) = false := bne_eq_false_iff_eq.mpr c7
                clear c7
                have H' := Aside0.mk H
                clear H
                have p367 : 0 ≤ (x5_1 : Int) := of_decide_eq_true (by first | (with_reducible assumption) | assumption)
                have q367 : x5_1 < (l0.length : Int) := of_decide_eq_true (by first | (with_reducible assumption) | assumption)
                obtain ⟨ad367, e367, hx367_0⟩ := Kd.at_int HR0.out x5_1 p367 q367
                cases e367
                replace p367 := eq_true p367
                replace q367 := eq_true q367
                have p368 : 0 ≤ (x5_1 : Int) := of_decide_eq_true (by first | (with_reducible assumption) | assumption)
                have q368 : x5_1 < (l1.length : Int) := of_decide_eq_true (by first | (with_reducible assumption) | assumption)
                obtain ⟨ad368, e368, hx368_0⟩ := Kd.at_int HR1.out x5_1 p368 q368
                cases e368
                replace p368 := eq_true p368
                replace q368 := eq_true q368
                go_wp2
                repeat (go_quiet (fail); try go_wp2)
                go_roundg k1
                case measure => have := HK1.out; omega
                case rel => exact ⟨(wrap64 (x5_1 + 1)), (by first | rfl | (simp; done) | (simp [*]; done)), H', ⟨by have := HK1.out; omega⟩, by repeat (first | exact Drawn0.refl _ | apply Drawn0.step)⟩
              · rw [if_neg c7] at H
                have c7b0 : ((rd l0 x5_1) == (rd l1 x5_1)) = false := beq_eq_false_iff_ne.mpr c7
                have c7b1 : ((rd l0 x5_1) != (rd l1 x5_1)) = true := bne_iff_ne.mpr c7
                obtain rfl := Option.some.inj H
                have p367 : 0 ≤ (x5_1 : Int) := of_decide_eq_true (by first | (with_reducible assumption) | assumption)
                have q367 : x5_1 < (l0.length : Int) := of_decide_eq_true (by first | (with_reducible assumption) | assumption)
                obtain ⟨ad367, e367, hx367_0⟩ := Kd.at_int HR0.out x5_1 p367 q367
                cases e367
                replace p367 := eq_true p367
                replace q367 := eq_true q367
                have p368 : 0 ≤ (x5_1 : Int) := of_decide_eq_true (by first | (with_reducible assumption) | assumption)
                have q368 : x5_1 < (l1.length : Int) := of_decide_eq_true (by first | (with_reducible assumption) | assumption)
                obtain ⟨ad368, e368, hx368_0⟩ := Kd.at_int HR1.out x5_1 p368 q368
                cases e368
                replace p368 := eq_true p368
                replace q368 := eq_true q368
                go_wp2
                repeat (go_quiet (fail); try go_wp2)
                go_ret
                exact ⟨by first | rfl | (simp; done) | (simp [*]; done), by repeat (first | exact Drawn0.refl _ | apply Drawn0.step)⟩
            · rw [if_neg c6] at H
              exact absurd H (by simp)
          · rw [if_neg c5] at H
            exact absurd H (by simp)
        · rw [if_neg c4] at H
          have c4b0 : decide (x5_1 < (l0.length : Int)) = false := decide_eq_false c4
          clear c4
          obtain rfl := Option.some.inj H
          go_wp2
          repeat (go_quiet (fail); try go_wp2)
          go_ret
          exact ⟨by first | rfl | (simp; done) | (simp [*]; done), by repeat (first | exact Drawn0.refl _ | apply Drawn0.step)⟩
  · rw [if_neg c3] at H
    have c3b0 : ((l0.length : Int) == (l1.length : Int)) = false := beq_eq_false_iff_ne.mpr c3
    have c3b1 : ((l0.length : Int) != (l1.length : Int)) = true := bne_iff_ne.mpr c3
    have c3b2 : (l0.length == l1.length) = false := by first | simpa using c3 | (simp at c3 ⊢; omega)
    obtain rfl := Option.some.inj H
    go_enter Try.func38, Try.ntmps38
    go_wp2
    repeat (go_quiet (fail); try go_wp2)
    go_ret
    exact ⟨by first | rfl | (simp; done) | (simp [*]; done), by repeat (first | exact Drawn0.refl _ | apply Drawn0.step)⟩

theorem gangwayref0_EqInstrs.eb {α : Type} [BEq α] [LawfulBEq α] {a b : α} (h : a = b) : (a == b) = true ∧ (a != b) = false := ⟨beq_iff_eq.mpr h, bne_eq_false_iff_eq.mpr h⟩
theorem gangwayref0_EqInstrs.nb {α : Type} [BEq α] [LawfulBEq α] {a b : α} (h : ¬ a = b) : (a == b) = false ∧ (a != b) = true := ⟨beq_eq_false_iff_ne.mpr h, bne_iff_ne.mpr h⟩
abbrev gangwayref0_EqInstrs.t : Bool := true
abbrev gangwayref0_EqInstrs.f_ : Bool := false
def gangwayref0_EqInstrs.bb0_ : Array Bool := #[t, t, t, t, t, t, t, t, t, t]
def gangwayref0_EqInstrs.bb1_ : Array Bool := #[t, t, t, t, t, t, t, t, t, f_]
def gangwayref0_EqInstrs.bb2_ : Array Bool := #[t, t, t, t, t, t, t, t, f_, f_]
def gangwayref0_EqInstrs.bb3_ : Array Bool := #[t, t, t, t, t, t, t, f_, f_, f_]
def gangwayref0_EqInstrs.bb4_ : Array Bool := #[t, t, t, f_, t, t, t, f_, f_, f_]
def gangwayref0_EqInstrs.bb5_ : Array Bool := #[t, t, t, f_, t, t, f_, f_, f_, f_]
def gangwayref0_EqInstrs.bb6_ : Array Bool := #[t, t, t, f_, t, f_, f_, f_, f_, f_]
def gangwayref0_EqInstrs.bb7_ : Array Bool := #[t, t, t, f_, f_, f_, f_, f_, f_, f_]
def gangwayref0_EqInstrs.bb8_ : Array Bool := #[t, t, f_, f_, f_, f_, f_, f_, f_, f_]
def gangwayref0_EqInstrs.bb9_ : Array Bool := #[t, f_, f_, f_, f_, f_, f_, f_, f_, f_]
def gangwayref0_EqInstrs.bb10_ : Array Bool := #[f_, f_, f_, f_, f_, f_, f_, f_, f_, f_]
theorem gangwayref0_EqInstrs.bbelow {W0 w w1 : World} {g : Nat} {o : Obj} (_b : Aside0 (W0.heap[g]? = some o)) (h : w.heap[g]? = some o) (hb : Below w.heap.size w w1) : w1.heap[g]? = some o := blk_below h hb
theorem gangwayref0_EqInstrs.e1 {α : Type _} (xs : List α) (i : Nat) (a : α) : xs.toArray.setIfInBounds i a = (xs.set i a).toArray := by simp
theorem gangwayref0_EqInstrs.e2 {α : Type _} (x a : α) (xs : List α) : (x :: xs).set 0 a = a :: xs := rfl
theorem gangwayref0_EqInstrs.e3 {α : Type _} (x a : α) (xs : List α) (n : Nat) : (x :: xs).set (n + 1) a = x :: xs.set n a := rfl
theorem gangwayref0_EqInstrs.up {w w' : World} {a : Addr} {v : Value} (hb : Aside0 (Below w.heap.size w w')) (h : w.cell? a = some v) : w'.cell? a = some v := (hb.out.cell (World.block_lt_of_cell? w _ h)).trans h
mutual
def gangwayref0_EqInstrs.q.f : Nat → Int → Int → Int → Int → Int → Int → List Int → List (S45) → List (S45) → Int → Int → Int → Int → Int → Int → List Int → List (S45) → List (S45) → Option (Bool)
 | 0, _, _, _, _, _, _, _, _, _, _, _, _, _, _, _, _, _, _ => none
 | k + 1, a0_0, a0_1, a0_2, a0_3, a0_4, a0_5, l0_6, l0_7, l0_8, a1_0, a1_1, a1_2, a1_3, a1_4, a1_5, l1_6, l1_7, l1_8 => if a0_0 = a1_0 then (if a0_1 = a1_1 then (if a0_2 = a1_2 then (if a0_3 = a1_3 then (if a0_4 = a1_4 then (if a0_5 = a1_5 then ((gangwayref0_EqNumbers.f k l0_6 l1_6).bind fun t371 => (if t371 = true then ((gangwayref0_EqInstrs.f k l0_7 l1_7).bind fun t372 => (if t372 = true then ((gangwayref0_EqInstrs.f k l0_8 l1_8).bind fun t373 => (some t373)) else (some false))) else (some false))) else (some false)) else (some false)) else (some false)) else (some false)) else (some false)) else (some false)
def gangwayref0_EqInstrs.l0 : Nat → List (S45) → List (S45) → Int → Option (Bool)
 | 0, _, _, _ => none
 | k + 1, x0, x1, x5 => if x5 < (x0.length : Int) then (if 0 ≤ x5 then (if x5 < (x1.length : Int) then ((gangwayref0_EqInstrs.q.f k ((rd_T45 x0 x5).f0) ((rd_T45 x0 x5).f1) ((rd_T45 x0 x5).f2) ((rd_T45 x0 x5).f3) ((rd_T45 x0 x5).f4) ((rd_T45 x0 x5).f5) ((rd_T45 x0 x5).f6) ((rd_T45 x0 x5).f7) ((rd_T45 x0 x5).f8) ((rd_T45 x1 x5).f0) ((rd_T45 x1 x5).f1) ((rd_T45 x1 x5).f2) ((rd_T45 x1 x5).f3) ((rd_T45 x1 x5).f4) ((rd_T45 x1 x5).f5) ((rd_T45 x1 x5).f6) ((rd_T45 x1 x5).f7) ((rd_T45 x1 x5).f8)).bind fun t376 => (if t376 = true then (gangwayref0_EqInstrs.l0 k x0 x1 (wrap64 (x5 + 1))) else (some false))) else (none)) else (none)) else (some true)
def gangwayref0_EqInstrs.f : Nat → List (S45) → List (S45) → Option (Bool)
 | 0, _, _ => none
 | k + 1, l0, l1 => if (l0.length : Int) = (l1.length : Int) then (gangwayref0_EqInstrs.l0 k l0 l1 0) else (some false)
end
theorem gangwayref0_EqInstrs.mono_l : ∀ k, (∀ y0 y1, LeO (gangwayref0_EqInstrs.f k y0 y1) (gangwayref0_EqInstrs.f (k + 1) y0 y1)) ∧ (∀ y0 y1 y2, LeO (gangwayref0_EqInstrs.l0 k y0 y1 y2) (gangwayref0_EqInstrs.l0 (k + 1) y0 y1 y2)) ∧ (∀ y0 y1 y2 y3 y4 y5 y6 y7 y8 y9 y10 y11 y12 y13 y14 y15 y16 y17, LeO (gangwayref0_EqInstrs.q.f k y0 y1 y2 y3 y4 y5 y6 y7 y8 y9 y10 y11 y12 y13 y14 y15 y16 y17) (gangwayref0_EqInstrs.q.f (k + 1) y0 y1 y2 y3 y4 y5 y6 y7 y8 y9 y10 y11 y12 y13 y14 y15 y16 y17))
 | 0 => ⟨fun _ _ r h => by simp [gangwayref0_EqInstrs.f] at h, fun _ _ _ r h => by simp [gangwayref0_EqInstrs.l0] at h, fun _ _ _ _ _ _ _ _ _ _ _ _ _ _ _ _ _ _ r h => by simp [gangwayref0_EqInstrs.q.f] at h⟩
 | k + 1 => by
  obtain ⟨ih0, ih1, ih2⟩ := gangwayref0_EqInstrs.mono_l k; refine ⟨?_, ?_, ?_⟩ <;> (intros; (first | unfold gangwayref0_EqInstrs.f | unfold gangwayref0_EqInstrs.l0 | unfold gangwayref0_EqInstrs.q.f); repeat' first | (with_reducible apply ih0) | (with_reducible apply ih1) | (with_reducible apply ih2) | (with_reducible exact gangwayref0_EqNumbers.mono _ _ _) | (with_reducible exact LeO.refl _) | (with_reducible exact LeO.none _) | (with_reducible refine LeO.ite ?_ ?_) | (with_reducible refine LeO.bind ?_ (fun _ => ?_)) | apply ih0 | apply ih1 | apply ih2 | exact gangwayref0_EqNumbers.mono _ _ _ | exact LeO.none _ | refine LeO.ite ?_ ?_ | refine LeO.bind ?_ (fun _ => ?_))
theorem gangwayref0_EqInstrs.mono : ∀ a0 a1 k, LeO (gangwayref0_EqInstrs.f k a0 a1) (gangwayref0_EqInstrs.f (k + 1) a0 a1) := by
 intro a0 a1 k; obtain ⟨ih0, ih1, ih2⟩ := gangwayref0_EqInstrs.mono_l k; exact ih0 a0 a1
theorem gangwayref0_EqInstrs.q.mono : ∀ a0 a1 a2 a3 a4 a5 a6 a7 a8 a9 a10 a11 a12 a13 a14 a15 a16 a17 k, LeO (gangwayref0_EqInstrs.q.f k a0 a1 a2 a3 a4 a5 a6 a7 a8 a9 a10 a11 a12 a13 a14 a15 a16 a17) (gangwayref0_EqInstrs.q.f (k + 1) a0 a1 a2 a3 a4 a5 a6 a7 a8 a9 a10 a11 a12 a13 a14 a15 a16 a17) := by
  intro a0 a1 a2 a3 a4 a5 a6 a7 a8 a9 a10 a11 a12 a13 a14 a15 a16 a17 k
  obtain ⟨ih0, ih1, ih2⟩ := gangwayref0_EqInstrs.mono_l k
  exact ih2 a0 a1 a2 a3 a4 a5 a6 a7 a8 a9 a10 a11 a12 a13 a14 a15 a16 a17

theorem gangwayref0_EqInstrs.q.eb {α : Type} [BEq α] [LawfulBEq α] {a b : α} (h : a = b) : (a == b) = true ∧ (a != b) = false := ⟨beq_iff_eq.mpr h, bne_eq_false_iff_eq.mpr h⟩
theorem gangwayref0_EqInstrs.q.nb {α : Type} [BEq α] [LawfulBEq α] {a b : α} (h : ¬ a = b) : (a == b) = false ∧ (a != b) = true := ⟨beq_eq_false_iff_ne.mpr h, bne_iff_ne.mpr h⟩
theorem gangwayref0_EqInstrs.q.m_ {p q : Prop} (h : p) (k : q) : Aside0 p ∧ q := ⟨Aside0.mk h, k⟩
theorem gangwayref0_EqInstrs.q.cn {w : World} {g : Nat} {t : TypeId} {v0 v1 v2 v3 v4 v5 v6 v7 v8 : Value} (h : Aside0 (w.heap[g]? = some (.cells #[v0, v1, v2, v3, v4, v5, v6, v7, v8] t (0, 0)))) : w.cell? ⟨g, 0, none⟩ = some v0 ∧ w.cell? ⟨g, 1, none⟩ = some v1 ∧ w.cell? ⟨g, 2, none⟩ = some v2 ∧ w.cell? ⟨g, 3, none⟩ = some v3 ∧ w.cell? ⟨g, 4, none⟩ = some v4 ∧ w.cell? ⟨g, 5, none⟩ = some v5 ∧ w.cell? ⟨g, 6, none⟩ = some v6 ∧ w.cell? ⟨g, 7, none⟩ = some v7 ∧ w.cell? ⟨g, 8, none⟩ = some v8 ∧ w.frozen? ⟨g, 0, none⟩ = false ∧ w.frozen? ⟨g, 1, none⟩ = false ∧ w.frozen? ⟨g, 2, none⟩ = false ∧ w.frozen? ⟨g, 3, none⟩ = false ∧ w.frozen? ⟨g, 4, none⟩ = false ∧ w.frozen? ⟨g, 5, none⟩ = false ∧ w.frozen? ⟨g, 6, none⟩ = false ∧ w.frozen? ⟨g, 7, none⟩ = false ∧ w.frozen? ⟨g, 8, none⟩ = false := ⟨(blk_cell h.out 0).trans rfl, (blk_cell h.out 1).trans rfl, (blk_cell h.out 2).trans rfl, (blk_cell h.out 3).trans rfl, (blk_cell h.out 4).trans rfl, (blk_cell h.out 5).trans rfl, (blk_cell h.out 6).trans rfl, (blk_cell h.out 7).trans rfl, (blk_cell h.out 8).trans rfl, blk_frozen h.out 0, blk_frozen h.out 1, blk_frozen h.out 2, blk_frozen h.out 3, blk_frozen h.out 4, blk_frozen h.out 5, blk_frozen h.out 6, blk_frozen h.out 7, blk_frozen h.out 8⟩
abbrev gangwayref0_EqInstrs.q.t : Bool := true
abbrev gangwayref0_EqInstrs.q.f_ : Bool := false
theorem gangwayref0_EqInstrs.q.bbelow {W0 w w1 : World} {g : Nat} {o : Obj} (_b : Aside0 (W0.heap[g]? = some o)) (h : w.heap[g]? = some o) (hb : Below w.heap.size w w1) : w1.heap[g]? = some o := blk_below h hb
theorem gangwayref0_EqInstrs.q.e1 {α : Type _} (xs : List α) (i : Nat) (a : α) : xs.toArray.setIfInBounds i a = (xs.set i a).toArray := by simp
theorem gangwayref0_EqInstrs.q.e2 {α : Type _} (x a : α) (xs : List α) : (x :: xs).set 0 a = a :: xs := rfl
theorem gangwayref0_EqInstrs.q.e3 {α : Type _} (x a : α) (xs : List α) (n : Nat) : (x :: xs).set (n + 1) a = x :: xs.set n a := rfl
theorem gangwayref0_EqInstrs.q.aa_0 {p : Prop} (h : p := by repeat (first | (with_reducible first | exact HB.out | apply below_alloc | apply pw_below_drewN | apply below_drew1 | refine below_set ?_ GE369.out) | exact HB.out)) : p := h
theorem gangwayref0_EqInstrs.q.aa_1 {p : Prop} (h : p := by repeat (first | (with_reducible first | exact HB.out | apply below_alloc | apply pw_below_drewN | apply below_drew1) | exact HB.out)) : p := h
theorem gangwayref0_EqInstrs.q.aa_2 {p : Prop} (h : p := by (with_reducible repeat (first | refine blk_drewN ?_ _ | refine blk_drew ?_ | refine blk_alloc ?_ _)); exact BK369.out) : p := h
theorem gangwayref0_EqInstrs.q.aa_3 {p : Prop} (h : p := by repeat (first | (with_reducible first | exact HB.out | apply below_alloc | apply pw_below_drewN | apply below_drew1 | refine below_set ?_ GE369.out | refine below_set ?_ GE370.out) | exact HB.out)) : p := h
theorem gangwayref0_EqInstrs.q.aa_4 {p : Prop} (h : p := by repeat (first | exact (Kd.C_below HR0_6.out HB.out) | (with_reducible refine Kd.C_alloc ?_ _) | (with_reducible refine Kd.C_drewN ?_ _) | (with_reducible refine Kd.C_drew ?_))) : p := h
theorem gangwayref0_EqInstrs.q.aa_5 {p : Prop} (h : p := by repeat (first | exact (Kd.C_below HR1_6.out HB.out) | (with_reducible refine Kd.C_alloc ?_ _) | (with_reducible refine Kd.C_drewN ?_ _) | (with_reducible refine Kd.C_drew ?_))) : p := h
theorem gangwayref0_EqInstrs.q.aa_6 {p : Prop} (h : p := by repeat (first | exact (Kd.C_below HR0_7.out aa_3) | (with_reducible refine Kd.C_alloc ?_ _) | (with_reducible refine Kd.C_drewN ?_ _) | (with_reducible refine Kd.C_drew ?_))) : p := h
theorem gangwayref0_EqInstrs.q.aa_7 {p : Prop} (h : p := by repeat (first | exact (Kd.C_below HR1_7.out aa_3) | (with_reducible refine Kd.C_alloc ?_ _) | (with_reducible refine Kd.C_drewN ?_ _) | (with_reducible refine Kd.C_drew ?_))) : p := h
theorem gangwayref0_EqInstrs.q.am_ {p : Prop} (h : p) : Aside0 p := Aside0.mk h
theorem gangwayref0_EqInstrs.q.bm_ {α β : Type _} {o : Option α} {f : α → Option β} {b : β} (h : o.bind f = some b) : ∃ a, o = some a ∧ f a = some b := Option.bind_eq_some_iff.mp h
set_option maxHeartbeats 8000000 in
set_option maxRecDepth 100000 in
theorem gangwayref0_EqInstrs.q.step (k : Nat) (ih : ∀ kq_, kq_ < k → ∀ (A0 : Option Addr) (c0 : Nat) (l0 : List (S45)) (A1 : Option Addr) (c1 : Nat) (l1 : List (S45)) (r : Bool) (w : World) (hr0 : Kd.C k45 w A0 l0.length l0) (hc0 : l0.length ≤ c0) (hr1 : Kd.C k45 w A1 l1.length l1) (hc1 : l1.length ≤ c1) (h : gangwayref0_EqInstrs.f kq_ l0 l1 = some r),
  Calls Try.prog 14 #[.slice A0 l0.length c0, .slice A1 l1.length c1] w fun e w' => e = .returned (.bool r) ∧ Below w.heap.size w w') : ∀ (a0_0 : Int) (a0_1 : Int) (a0_2 : Int) (a0_3 : Int) (a0_4 : Int) (a0_5 : Int) (A0_6 : Option Addr) (c0_6 : Nat) (l0_6 : List Int) (A0_7 : Option Addr) (c0_7 : Nat) (l0_7 : List (S45)) (A0_8 : Option Addr) (c0_8 : Nat) (l0_8 : List (S45)) (a1_0 : Int) (a1_1 : Int) (a1_2 : Int) (a1_3 : Int) (a1_4 : Int) (a1_5 : Int) (A1_6 : Option Addr) (c1_6 : Nat) (l1_6 : List Int) (A1_7 : Option Addr) (c1_7 : Nat) (l1_7 : List (S45)) (A1_8 : Option Addr) (c1_8 : Nat) (l1_8 : List (S45)) (r : Bool) (w : World) (hr0_6 : Kd.C (Kd.int .i64) w A0_6 l0_6.length l0_6) (hc0_6 : l0_6.length ≤ c0_6) (hr0_7 : Kd.C k45 w A0_7 l0_7.length l0_7) (hc0_7 : l0_7.length ≤ c0_7) (hr0_8 : Kd.C k45 w A0_8 l0_8.length l0_8) (hc0_8 : l0_8.length ≤ c0_8) (hr1_6 : Kd.C (Kd.int .i64) w A1_6 l1_6.length l1_6) (hc1_6 : l1_6.length ≤ c1_6) (hr1_7 : Kd.C k45 w A1_7 l1_7.length l1_7) (hc1_7 : l1_7.length ≤ c1_7) (hr1_8 : Kd.C k45 w A1_8 l1_8.length l1_8) (hc1_8 : l1_8.length ≤ c1_8) (h : gangwayref0_EqInstrs.q.f k a0_0 a0_1 a0_2 a0_3 a0_4 a0_5 l0_6 l0_7 l0_8 a1_0 a1_1 a1_2 a1_3 a1_4 a1_5 l1_6 l1_7 l1_8 = some r),
  Calls Try.prog 26 #[.agg #[.int .i64 a0_0, .int .i64 a0_1, .int .i64 a0_2, .int .i64 a0_3, .int .i64 a0_4, .int .i64 a0_5, .slice A0_6 l0_6.length c0_6, .slice A0_7 l0_7.length c0_7, .slice A0_8 l0_8.length c0_8], .agg #[.int .i64 a1_0, .int .i64 a1_1, .int .i64 a1_2, .int .i64 a1_3, .int .i64 a1_4, .int .i64 a1_5, .slice A1_6 l1_6.length c1_6, .slice A1_7 l1_7.length c1_7, .slice A1_8 l1_8.length c1_8]] w fun e w' => e = .returned (.bool r) ∧ Below w.heap.size w w' := by
 intro a0_0 a0_1 a0_2 a0_3 a0_4 a0_5 A0_6 c0_6 l0_6 A0_7 c0_7 l0_7 A0_8 c0_8 l0_8 a1_0 a1_1 a1_2 a1_3 a1_4 a1_5 A1_6 c1_6 l1_6 A1_7 c1_7 l1_7 A1_8 c1_8 l1_8 r w hr0_6 hc0_6 hr0_7 hc0_7 hr0_8 hc0_8 hr1_6 hc1_6 hr1_7 hc1_7 hr1_8 hc1_8 h
 cases k with
 | zero => exact absurd h (by simp [gangwayref0_EqInstrs.q.f])
 | succ k =>
 simp only [gangwayref0_EqInstrs.q.f] at h; have hu45 := Try.underlying45; have HR0_6 := am_ hr0_6; have HC0_6 := am_ hc0_6; clear hr0_6 hc0_6; have HR0_7 := am_ hr0_7; have HC0_7 := am_ hc0_7; clear hr0_7 hc0_7; have HR0_8 := am_ hr0_8; have HC0_8 := am_ hc0_8; clear hr0_8 hc0_8; have HR1_6 := am_ hr1_6; have HC1_6 := am_ hc1_6; clear hr1_6 hc1_6; have HR1_7 := am_ hr1_7; have HC1_7 := am_ hc1_7; clear hr1_7 hc1_7; have HR1_8 := am_ hr1_8; have HC1_8 := am_ hc1_8; clear hr1_8 hc1_8; have HB := am_ (Below.refl w.heap.size w); have H : (if a0_0 = a1_0 then (if a0_1 = a1_1 then (if a0_2 = a1_2 then (if a0_3 = a1_3 then (if a0_4 = a1_4 then (if a0_5 = a1_5 then ((gangwayref0_EqNumbers.f k l0_6 l1_6).bind fun t371 => (if t371 = true then ((gangwayref0_EqInstrs.f k l0_7 l1_7).bind fun t372 => (if t372 = true then ((gangwayref0_EqInstrs.f k l0_8 l1_8).bind fun t373 => (some t373)) else (some false))) else (some false))) else (some false)) else (some false)) else (some false)) else (some false)) else (some false)) else (some false)) = some r := h; clear h; by_cases c3 : a0_0 = a1_0
 ·rw [if_pos c3] at H; obtain ⟨c3b0, c3b1⟩ := eb c3; clear c3; by_cases c4 : a0_1 = a1_1
  ·rw [if_pos c4] at H; obtain ⟨c4b0, c4b1⟩ := eb c4; clear c4; by_cases c5 : a0_2 = a1_2
   ·rw [if_pos c5] at H; obtain ⟨c5b0, c5b1⟩ := eb c5; clear c5; by_cases c6 : a0_3 = a1_3
    ·rw [if_pos c6] at H; obtain ⟨c6b0, c6b1⟩ := eb c6; clear c6; by_cases c7 : a0_4 = a1_4
     ·rw [if_pos c7] at H; obtain ⟨c7b0, c7b1⟩ := eb c7; clear c7; by_cases c8 : a0_5 = a1_5
      ·rw [if_pos c8] at H; obtain ⟨c8b0, c8b1⟩ := eb c8; clear c8; replace H := bm_ H; obtain ⟨t371, A90, H⟩ := H; replace H : (if t371 = true then ((gangwayref0_EqInstrs.f k l0_7 l1_7).bind fun t372 => (if t372 = true then ((gangwayref0_EqInstrs.f k l0_8 l1_8).bind fun t373 => (some t373)) else (some false))) else (some false)) = some r := H; have A9 := am_ A90; clear A90; by_cases c10 : t371 = true
       ·subst c10; have H1 : ((gangwayref0_EqInstrs.f k l0_7 l1_7).bind fun t372 => (if t372 = true then ((gangwayref0_EqInstrs.f k l0_8 l1_8).bind fun t373 => (some t373)) else (some false))) = some r := by rw [if_pos rfl] at H; exact H
        clear H; have H := H1; clear H1; replace H := bm_ H; obtain ⟨t372, A110, H⟩ := H; replace H : (if t372 = true then ((gangwayref0_EqInstrs.f k l0_8 l1_8).bind fun t373 => (some t373)) else (some false)) = some r := H; have A11 := am_ A110; clear A110; by_cases c12 : t372 = true
        ·subst c12; have H1 : ((gangwayref0_EqInstrs.f k l0_8 l1_8).bind fun t373 => (some t373)) = some r := by rw [if_pos rfl] at H; exact H
         clear H; have H := H1; clear H1; replace H := bm_ H; obtain ⟨t373, A130, H⟩ := H; replace H : (some t373) = some r := H; have A13 := am_ A130; clear A130; obtain rfl := Option.some.inj H; go_enter Try.func26, Try.ntmps26
         go_wp2_with (first | ((with_reducible refine gate_dst (N := 2) rfl ?_); refine box_event ?hg (N := 2) ?hd (cs := #[.int .i64 a0_0, .int .i64 a0_1, .int .i64 a0_2, .int .i64 a0_3, .int .i64 a0_4, .int .i64 a0_5, .slice A0_6 l0_6.length c0_6, .slice A0_7 l0_7.length c0_7, .slice A0_8 l0_8.length c0_8]) (t := 45) ?hr ?_; (case hd => rfl); (case hg => rfl); (case hr => first | (go_simp; done) | (go_simp; rfl)); intro gb369 hg w14 hbox hb; have N_ := m_ (below_step aa_1 hb) <| m_ (hbox) <| m_ ((by rw [hg]; exact (below_size aa_1) : w.heap.size ≤ gb369)) <| am_ ((by rw [hg]; exact (below_size aa_1) : w.heap.size ≤ gb369)); clear HB; obtain ⟨HB, BK369, GW369, GE369⟩ := N_; clear hb hbox hg) | ((with_reducible refine gate_dst (N := 3) rfl ?_); refine box_event ?hg (N := 3) ?hd (cs := #[.int .i64 a1_0, .int .i64 a1_1, .int .i64 a1_2, .int .i64 a1_3, .int .i64 a1_4, .int .i64 a1_5, .slice A1_6 l1_6.length c1_6, .slice A1_7 l1_7.length c1_7, .slice A1_8 l1_8.length c1_8]) (t := 45) ?hr ?_; (case hd => rfl); (case hg => rfl); (case hr => first | (go_simp; done) | (go_simp; rfl)); intro gb370 hg w15 hbox hb; have N_ := m_ (bbelow BK369 aa_2 hb) <| m_ (below_step aa_0 hb) <| m_ (hbox) <| m_ ((by rw [hg]; exact (below_size aa_0) : w.heap.size ≤ gb370)) <| m_ ((by rw [hg]; exact (below_size aa_0) : w.heap.size ≤ gb370)) <| m_ ((by rw [hg]; exact Nat.ne_of_lt (blk_lt (g := gb369) (o := .cells #[.int .i64 a0_0, .int .i64 a0_1, .int .i64 a0_2, .int .i64 a0_3, .int .i64 a0_4, .int .i64 a0_5, .slice A0_6 l0_6.length c0_6, .slice A0_7 l0_7.length c0_7, .slice A0_8 l0_8.length c0_8] 45 (0, 0)) aa_2) : gb369 ≠ gb370)) <| am_ ((by rw [hg]; exact Nat.ne_of_gt (blk_lt (g := gb369) (o := .cells #[.int .i64 a0_0, .int .i64 a0_1, .int .i64 a0_2, .int .i64 a0_3, .int .i64 a0_4, .int .i64 a0_5, .slice A0_6 l0_6.length c0_6, .slice A0_7 l0_7.length c0_7, .slice A0_8 l0_8.length c0_8] 45 (0, 0)) aa_2) : gb370 ≠ gb369)); clear BK369 HB; obtain ⟨BK369, HB, BK370, GW370, GE370, NB369_370, NB370_369⟩ := N_; clear hb hbox hg; have hnb16 := NB369_370.out; have hnc16 := NB370_369.out; obtain ⟨Z17_0, Z17_1, Z17_2, Z17_3, Z17_4, Z17_5, Z17_6, Z17_7, Z17_8, -, -, -, -, -, -, -, -, -⟩ := cn BK369; obtain ⟨Z18_0, Z18_1, Z18_2, Z18_3, Z18_4, Z18_5, Z18_6, Z18_7, Z18_8, -, -, -, -, -, -, -, -, -⟩ := cn BK370) | (go_at_call 38; (with_reducible refine (gangwayref0_EqNumbers.calls k _ _ l0_6 _ _ l1_6 true _ ?side1 ?side2 ?side3 ?side4 A9.out).mono ?_); (case side1 => exact aa_4); (case side2 => exact HC0_6.out); (case side3 => exact aa_5); (case side4 => exact HC1_6.out); rintro e w' ⟨rfl, ⟨nd, rfl⟩⟩) | (go_at_call 14; (with_reducible refine (ih k (by omega) _ _ l0_7 _ _ l1_7 true _ ?side1 ?side2 ?side3 ?side4 A11.out).mono ?_); (case side1 => exact aa_6); (case side2 => exact HC0_7.out); (case side3 => exact aa_7); (case side4 => exact HC1_7.out); rintro e w19 ⟨rfl, hb⟩; have N_ := m_ (bbelow BK369 aa_2 hb) <| m_ (bbelow BK370 (by (with_reducible repeat (first | refine blk_drewN ?_ _ | refine blk_drew ?_ | refine blk_alloc ?_ _)); exact BK370.out) hb) <| am_ (below_step aa_3 hb); clear BK369 BK370 HB; obtain ⟨BK369, BK370, HB⟩ := N_; (try clear hb); (try clear hb2); (try clear hk); (try clear hi); obtain ⟨Z20_0, Z20_1, Z20_2, Z20_3, Z20_4, Z20_5, Z20_6, Z20_7, Z20_8, -, -, -, -, -, -, -, -, -⟩ := cn BK369; obtain ⟨Z21_0, Z21_1, Z21_2, Z21_3, Z21_4, Z21_5, Z21_6, Z21_7, Z21_8, -, -, -, -, -, -, -, -, -⟩ := cn BK370) | (go_at_call 14; (with_reducible refine (ih k (by omega) _ _ l0_8 _ _ l1_8 t373 _ ?side1 ?side2 ?side3 ?side4 A13.out).mono ?_); (case side1 => repeat (first | exact (Kd.C_below HR0_8.out HB.out) | (with_reducible refine Kd.C_alloc ?_ _) | (with_reducible refine Kd.C_drewN ?_ _) | (with_reducible refine Kd.C_drew ?_))); (case side2 => exact HC0_8.out); (case side3 => repeat (first | exact (Kd.C_below HR1_8.out HB.out) | (with_reducible refine Kd.C_alloc ?_ _) | (with_reducible refine Kd.C_drewN ?_ _) | (with_reducible refine Kd.C_drew ?_))); (case side4 => exact HC1_8.out); rintro e w22 ⟨rfl, hb⟩; have N_ := m_ (bbelow BK369 aa_2 hb) <| m_ (bbelow BK370 (by (with_reducible repeat (first | refine blk_drewN ?_ _ | refine blk_drew ?_ | refine blk_alloc ?_ _)); exact BK370.out) hb) <| am_ (below_step aa_3 hb); clear BK369 BK370 HB; obtain ⟨BK369, BK370, HB⟩ := N_; (try clear hb); (try clear hb2); (try clear hk); (try clear hi)))
         go_ret; exact ⟨er_, by repeat (first | (with_reducible first | exact HB.out | apply below_alloc | apply pw_below_drewN | apply below_drew1 | refine below_set ?_ GE369.out | refine below_set ?_ GE370.out) | exact HB.out)⟩
        ·replace c12 := Bool.eq_false_iff.mpr c12; subst c12; have H1 : (some false) = some r := by rw [if_neg (show ¬ (false = true) by decide)] at H; exact H
         clear H; have H := H1; clear H1; obtain rfl := Option.some.inj H; go_enter Try.func26, Try.ntmps26
         go_wp2_with (first | ((with_reducible refine gate_dst (N := 2) rfl ?_); refine box_event ?hg (N := 2) ?hd (cs := #[.int .i64 a0_0, .int .i64 a0_1, .int .i64 a0_2, .int .i64 a0_3, .int .i64 a0_4, .int .i64 a0_5, .slice A0_6 l0_6.length c0_6, .slice A0_7 l0_7.length c0_7, .slice A0_8 l0_8.length c0_8]) (t := 45) ?hr ?_; (case hd => rfl); (case hg => rfl); (case hr => first | (go_simp; done) | (go_simp; rfl)); intro gb369 hg w23 hbox hb; have N_ := m_ (below_step aa_1 hb) <| m_ (hbox) <| m_ ((by rw [hg]; exact (below_size aa_1) : w.heap.size ≤ gb369)) <| am_ ((by rw [hg]; exact (below_size aa_1) : w.heap.size ≤ gb369)); clear HB; obtain ⟨HB, BK369, GW369, GE369⟩ := N_; clear hb hbox hg) | ((with_reducible refine gate_dst (N := 3) rfl ?_); refine box_event ?hg (N := 3) ?hd (cs := #[.int .i64 a1_0, .int .i64 a1_1, .int .i64 a1_2, .int .i64 a1_3, .int .i64 a1_4, .int .i64 a1_5, .slice A1_6 l1_6.length c1_6, .slice A1_7 l1_7.length c1_7, .slice A1_8 l1_8.length c1_8]) (t := 45) ?hr ?_; (case hd => rfl); (case hg => rfl); (case hr => first | (go_simp; done) | (go_simp; rfl)); intro gb370 hg w24 hbox hb; have N_ := m_ (bbelow BK369 aa_2 hb) <| m_ (below_step aa_0 hb) <| m_ (hbox) <| m_ ((by rw [hg]; exact (below_size aa_0) : w.heap.size ≤ gb370)) <| m_ ((by rw [hg]; exact (below_size aa_0) : w.heap.size ≤ gb370)) <| m_ ((by rw [hg]; exact Nat.ne_of_lt (blk_lt (g := gb369) (o := .cells #[.int .i64 a0_0, .int .i64 a0_1, .int .i64 a0_2, .int .i64 a0_3, .int .i64 a0_4, .int .i64 a0_5, .slice A0_6 l0_6.length c0_6, .slice A0_7 l0_7.length c0_7, .slice A0_8 l0_8.length c0_8] 45 (0, 0)) aa_2) : gb369 ≠ gb370)) <| am_ ((by rw [hg]; exact Nat.ne_of_gt (blk_lt (g := gb369) (o := .cells #[.int .i64 a0_0, .int .i64 a0_1, .int .i64 a0_2, .int .i64 a0_3, .int .i64 a0_4, .int .i64 a0_5, .slice A0_6 l0_6.length c0_6, .slice A0_7 l0_7.length c0_7, .slice A0_8 l0_8.length c0_8] 45 (0, 0)) aa_2) : gb370 ≠ gb369)); clear BK369 HB; obtain ⟨BK369, HB, BK370, GW370, GE370, NB369_370, NB370_369⟩ := N_; clear hb hbox hg; have hnb25 := NB369_370.out; have hnc25 := NB370_369.out; obtain ⟨Z26_0, Z26_1, Z26_2, Z26_3, Z26_4, Z26_5, Z26_6, Z26_7, Z26_8, -, -, -, -, -, -, -, -, -⟩ := cn BK369; obtain ⟨Z27_0, Z27_1, Z27_2, Z27_3, Z27_4, Z27_5, Z27_6, Z27_7, Z27_8, -, -, -, -, -, -, -, -, -⟩ := cn BK370) | (go_at_call 38; (with_reducible refine (gangwayref0_EqNumbers.calls k _ _ l0_6 _ _ l1_6 true _ ?side1 ?side2 ?side3 ?side4 A9.out).mono ?_); (case side1 => exact aa_4); (case side2 => exact HC0_6.out); (case side3 => exact aa_5); (case side4 => exact HC1_6.out); rintro e w' ⟨rfl, ⟨nd, rfl⟩⟩) | (go_at_call 14; (with_reducible refine (ih k (by omega) _ _ l0_7 _ _ l1_7 false _ ?side1 ?side2 ?side3 ?side4 A11.out).mono ?_); (case side1 => exact aa_6); (case side2 => exact HC0_7.out); (case side3 => exact aa_7); (case side4 => exact HC1_7.out); rintro e w28 ⟨rfl, hb⟩; have N_ := m_ (bbelow BK369 aa_2 hb) <| m_ (bbelow BK370 (by (with_reducible repeat (first | refine blk_drewN ?_ _ | refine blk_drew ?_ | refine blk_alloc ?_ _)); exact BK370.out) hb) <| am_ (below_step aa_3 hb); clear BK369 BK370 HB; obtain ⟨BK369, BK370, HB⟩ := N_; (try clear hb); (try clear hb2); (try clear hk); (try clear hi)))
         go_ret; exact ⟨er_, by repeat (first | (with_reducible first | exact HB.out | apply below_alloc | apply pw_below_drewN | apply below_drew1 | refine below_set ?_ GE369.out | refine below_set ?_ GE370.out) | exact HB.out)⟩
       ·replace c10 := Bool.eq_false_iff.mpr c10; subst c10; have H1 : (some false) = some r := by rw [if_neg (show ¬ (false = true) by decide)] at H; exact H
        clear H; have H := H1; clear H1; obtain rfl := Option.some.inj H; go_enter Try.func26, Try.ntmps26
        go_wp2_with (first | ((with_reducible refine gate_dst (N := 2) rfl ?_); refine box_event ?hg (N := 2) ?hd (cs := #[.int .i64 a0_0, .int .i64 a0_1, .int .i64 a0_2, .int .i64 a0_3, .int .i64 a0_4, .int .i64 a0_5, .slice A0_6 l0_6.length c0_6, .slice A0_7 l0_7.length c0_7, .slice A0_8 l0_8.length c0_8]) (t := 45) ?hr ?_; (case hd => rfl); (case hg => rfl); (case hr => first | (go_simp; done) | (go_simp; rfl)); intro gb369 hg w29 hbox hb; have N_ := m_ (below_step aa_1 hb) <| m_ (hbox) <| m_ ((by rw [hg]; exact (below_size aa_1) : w.heap.size ≤ gb369)) <| am_ ((by rw [hg]; exact (below_size aa_1) : w.heap.size ≤ gb369)); clear HB; obtain ⟨HB, BK369, GW369, GE369⟩ := N_; clear hb hbox hg) | ((with_reducible refine gate_dst (N := 3) rfl ?_); refine box_event ?hg (N := 3) ?hd (cs := #[.int .i64 a1_0, .int .i64 a1_1, .int .i64 a1_2, .int .i64 a1_3, .int .i64 a1_4, .int .i64 a1_5, .slice A1_6 l1_6.length c1_6, .slice A1_7 l1_7.length c1_7, .slice A1_8 l1_8.length c1_8]) (t := 45) ?hr ?_; (case hd => rfl); (case hg => rfl); (case hr => first | (go_simp; done) | (go_simp; rfl)); intro gb370 hg w30 hbox hb; have N_ := m_ (bbelow BK369 aa_2 hb) <| m_ (below_step aa_0 hb) <| m_ (hbox) <| m_ ((by rw [hg]; exact (below_size aa_0) : w.heap.size ≤ gb370)) <| m_ ((by rw [hg]; exact (below_size aa_0) : w.heap.size ≤ gb370)) <| m_ ((by rw [hg]; exact Nat.ne_of_lt (blk_lt (g := gb369) (o := .cells #[.int .i64 a0_0, .int .i64 a0_1, .int .i64 a0_2, .int .i64 a0_3, .int .i64 a0_4, .int .i64 a0_5, .slice A0_6 l0_6.length c0_6, .slice A0_7 l0_7.length c0_7, .slice A0_8 l0_8.length c0_8] 45 (0, 0)) aa_2) : gb369 ≠ gb370)) <| am_ ((by rw [hg]; exact Nat.ne_of_gt (blk_lt (g := gb369) (o := .cells #[.int .i64 a0_0, .int .i64 a0_1, .int .i64 a0_2, .int .i64 a0_3, .int .i64 a0_4, .int .i64 a0_5, .slice A0_6 l0_6.length c0_6, .slice A0_7 l0_7.length c0_7, .slice A0_8 l0_8.length c0_8] 45 (0, 0)) aa_2) : gb370 ≠ gb369)); clear BK369 HB; obtain ⟨BK369, HB, BK370, GW370, GE370, NB369_370, NB370_369⟩ := N_; clear hb hbox hg; have hnb31 := NB369_370.out; have hnc31 := NB370_369.out; obtain ⟨Z32_0, Z32_1, Z32_2, Z32_3, Z32_4, Z32_5, Z32_6, Z32_7, Z32_8, -, -, -, -, -, -, -, -, -⟩ := cn BK369; obtain ⟨Z33_0, Z33_1, Z33_2, Z33_3, Z33_4, Z33_5, Z33_6, Z33_7, Z33_8, -, -, -, -, -, -, -, -, -⟩ := cn BK370) | (go_at_call 38; (with_reducible refine (gangwayref0_EqNumbers.calls k _ _ l0_6 _ _ l1_6 false _ ?side1 ?side2 ?side3 ?side4 A9.out).mono ?_); (case side1 => exact aa_4); (case side2 => exact HC0_6.out); (case side3 => exact aa_5); (case side4 => exact HC1_6.out); rintro e w' ⟨rfl, ⟨nd, rfl⟩⟩))
        go_ret; exact ⟨er_, by repeat (first | (with_reducible first | exact HB.out | apply below_alloc | apply pw_below_drewN | apply below_drew1 | refine below_set ?_ GE369.out | refine below_set ?_ GE370.out) | exact HB.out)⟩
      ·rw [if_neg c8] at H; obtain ⟨c8b0, c8b1⟩ := nb c8; obtain rfl := Option.some.inj H; go_enter Try.func26, Try.ntmps26
       go_wp2_with (first | ((with_reducible refine gate_dst (N := 2) rfl ?_); refine box_event ?hg (N := 2) ?hd (cs := #[.int .i64 a0_0, .int .i64 a0_1, .int .i64 a0_2, .int .i64 a0_3, .int .i64 a0_4, .int .i64 a0_5, .slice A0_6 l0_6.length c0_6, .slice A0_7 l0_7.length c0_7, .slice A0_8 l0_8.length c0_8]) (t := 45) ?hr ?_; (case hd => rfl); (case hg => rfl); (case hr => first | (go_simp; done) | (go_simp; rfl)); intro gb369 hg w34 hbox hb; have N_ := m_ (below_step aa_1 hb) <| m_ (hbox) <| m_ ((by rw [hg]; exact (below_size aa_1) : w.heap.size ≤ gb369)) <| am_ ((by rw [hg]; exact (below_size aa_1) : w.heap.size ≤ gb369)); clear HB; obtain ⟨HB, BK369, GW369, GE369⟩ := N_; clear hb hbox hg) | ((with_reducible refine gate_dst (N := 3) rfl ?_); refine box_event ?hg (N := 3) ?hd (cs := #[.int .i64 a1_0, .int .i64 a1_1, .int .i64 a1_2, .int .i64 a1_3, .int .i64 a1_4, .int .i64 a1_5, .slice A1_6 l1_6.length c1_6, .slice A1_7 l1_7.length c1_7, .slice A1_8 l1_8.length c1_8]) (t := 45) ?hr ?_; (case hd => rfl); (case hg => rfl); (case hr => first | (go_simp; done) | (go_simp; rfl)); intro gb370 hg w35 hbox hb; have N_ := m_ (bbelow BK369 aa_2 hb) <| m_ (below_step aa_0 hb) <| m_ (hbox) <| m_ ((by rw [hg]; exact (below_size aa_0) : w.heap.size ≤ gb370)) <| m_ ((by rw [hg]; exact (below_size aa_0) : w.heap.size ≤ gb370)) <| m_ ((by rw [hg]; exact Nat.ne_of_lt (blk_lt (g := gb369) (o := .cells #[.int .i64 a0_0, .int .i64 a0_1, .int .i64 a0_2, .int .i64 a0_3, .int .i64 a0_4, .int .i64 a0_5, .slice A0_6 l0_6.length c0_6, .slice A0_7 l0_7.length c0_7, .slice A0_8 l0_8.length c0_8] 45 (0, 0)) aa_2) : gb369 ≠ gb370)) <| am_ ((by rw [hg]; exact Nat.ne_of_gt (blk_lt (g := gb369) (o := .cells #[.int .i64 a0_0, .int .i64 a0_1, .int .i64 a0_2, .int .i64 a0_3, .int .i64 a0_4, .int .i64 a0_5, .slice A0_6 l0_6.length c0_6, .slice A0_7 l0_7.length c0_7, .slice A0_8 l0_8.length c0_8] 45 (0, 0)) aa_2) : gb370 ≠ gb369)); clear BK369 HB; obtain ⟨BK369, HB, BK370, GW370, GE370, NB369_370, NB370_369⟩ := N_; clear hb hbox hg; have hnb36 := NB369_370.out; have hnc36 := NB370_369.out; obtain ⟨Z37_0, Z37_1, Z37_2, Z37_3, Z37_4, Z37_5, Z37_6, Z37_7, Z37_8, -, -, -, -, -, -, -, -, -⟩ := cn BK369; obtain ⟨Z38_0, Z38_1, Z38_2, Z38_3, Z38_4, Z38_5, Z38_6, Z38_7, Z38_8, -, -, -, -, -, -, -, -, -⟩ := cn BK370))
       go_ret; exact ⟨er_, by repeat (first | (with_reducible first | exact HB.out | apply below_alloc | apply pw_below_drewN | apply below_drew1 | refine below_set ?_ GE369.out | refine below_set ?_ GE370.out) | exact HB.out)⟩
     ·rw [if_neg c7] at H; obtain ⟨c7b0, c7b1⟩ := nb c7; obtain rfl := Option.some.inj H; go_enter Try.func26, Try.ntmps26
      go_wp2_with (first | ((with_reducible refine gate_dst (N := 2) rfl ?_); refine box_event ?hg (N := 2) ?hd (cs := #[.int .i64 a0_0, .int .i64 a0_1, .int .i64 a0_2, .int .i64 a0_3, .int .i64 a0_4, .int .i64 a0_5, .slice A0_6 l0_6.length c0_6, .slice A0_7 l0_7.length c0_7, .slice A0_8 l0_8.length c0_8]) (t := 45) ?hr ?_; (case hd => rfl); (case hg => rfl); (case hr => first | (go_simp; done) | (go_simp; rfl)); intro gb369 hg w39 hbox hb; have N_ := m_ (below_step aa_1 hb) <| m_ (hbox) <| m_ ((by rw [hg]; exact (below_size aa_1) : w.heap.size ≤ gb369)) <| am_ ((by rw [hg]; exact (below_size aa_1) : w.heap.size ≤ gb369)); clear HB; obtain ⟨HB, BK369, GW369, GE369⟩ := N_; clear hb hbox hg) | ((with_reducible refine gate_dst (N := 3) rfl ?_); refine box_event ?hg (N := 3) ?hd (cs := #[.int .i64 a1_0, .int .i64 a1_1, .int .i64 a1_2, .int .i64 a1_3, .int .i64 a1_4, .int .i64 a1_5, .slice A1_6 l1_6.length c1_6, .slice A1_7 l1_7.length c1_7, .slice A1_8 l1_8.length c1_8]) (t := 45) ?hr ?_; (case hd => rfl); (case hg => rfl); (case hr => first | (go_simp; done) | (go_simp; rfl)); intro gb370 hg w40 hbox hb; have N_ := m_ (bbelow BK369 aa_2 hb) <| m_ (below_step aa_0 hb) <| m_ (hbox) <| m_ ((by rw [hg]; exact (below_size aa_0) : w.heap.size ≤ gb370)) <| m_ ((by rw [hg]; exact (below_size aa_0) : w.heap.size ≤ gb370)) <| m_ ((by rw [hg]; exact Nat.ne_of_lt (blk_lt (g := gb369) (o := .cells #[.int .i64 a0_0, .int .i64 a0_1, .int .i64 a0_2, .int .i64 a0_3, .int .i64 a0_4, .int .i64 a0_5, .slice A0_6 l0_6.length c0_6, .slice A0_7 l0_7.length c0_7, .slice A0_8 l0_8.length c0_8] 45 (0, 0)) aa_2) : gb369 ≠ gb370)) <| am_ ((by rw [hg]; exact Nat.ne_of_gt (blk_lt (g := gb369) (o := .cells #[.int .i64 a0_0, .int .i64 a0_1, .int .i64 a0_2, .int .i64 a0_3, .int .i64 a0_4, .int .i64 a0_5, .slice A0_6 l0_6.length c0_6, .slice A0_7 l0_7.length c0_7, .slice A0_8 l0_8.length c0_8] 45 (0, 0)) aa_2) : gb370 ≠ gb369)); clear BK369 HB; obtain ⟨BK369, HB, BK370, GW370, GE370, NB369_370, NB370_369⟩ := N_; clear hb hbox hg; have hnb41 := NB369_370.out; have hnc41 := NB370_369.out; obtain ⟨Z42_0, Z42_1, Z42_2, Z42_3, Z42_4, Z42_5, Z42_6, Z42_7, Z42_8, -, -, -, -, -, -, -, -, -⟩ := cn BK369; obtain ⟨Z43_0, Z43_1, Z43_2, Z43_3, Z43_4, Z43_5, Z43_6, Z43_7, Z43_8, -, -, -, -, -, -, -, -, -⟩ := cn BK370))
      go_ret; exact ⟨er_, by repeat (first | (with_reducible first | exact HB.out | apply below_alloc | apply pw_below_drewN | apply below_drew1 | refine below_set ?_ GE369.out | refine below_set ?_ GE370.out) | exact HB.out)⟩
    ·rw [if_neg c6] at H; obtain ⟨c6b0, c6b1⟩ := nb c6; obtain rfl := Option.some.inj H; go_enter Try.func26, Try.ntmps26
     go_wp2_with (first | ((with_reducible refine gate_dst (N := 2) rfl ?_); refine box_event ?hg (N := 2) ?hd (cs := #[.int .i64 a0_0, .int .i64 a0_1, .int .i64 a0_2, .int .i64 a0_3, .int .i64 a0_4, .int .i64 a0_5, .slice A0_6 l0_6.length c0_6, .slice A0_7 l0_7.length c0_7, .slice A0_8 l0_8.length c0_8]) (t := 45) ?hr ?_; (case hd => rfl); (case hg => rfl); (case hr => first | (go_simp; done) | (go_simp; rfl)); intro gb369 hg w44 hbox hb; have N_ := m_ (below_step aa_1 hb) <| m_ (hbox) <| m_ ((by rw [hg]; exact (below_size aa_1) : w.heap.size ≤ gb369)) <| am_ ((by rw [hg]; exact (below_size aa_1) : w.heap.size ≤ gb369)); clear HB; obtain ⟨HB, BK369, GW369, GE369⟩ := N_; clear hb hbox hg) | ((with_reducible refine gate_dst (N := 3) rfl ?_); refine box_event ?hg (N := 3) ?hd (cs := #[.int .i64 a1_0, .int .i64 a1_1, .int .i64 a1_2, .int .i64 a1_3, .int .i64 a1_4, .int .i64 a1_5, .slice A1_6 l1_6.length c1_6, .slice A1_7 l1_7.length c1_7, .slice A1_8 l1_8.length c1_8]) (t := 45) ?hr ?_; (case hd => rfl); (case hg => rfl); (case hr => first | (go_simp; done) | (go_simp; rfl)); intro gb370 hg w45 hbox hb; have N_ := m_ (bbelow BK369 aa_2 hb) <| m_ (below_step aa_0 hb) <| m_ (hbox) <| m_ ((by rw [hg]; exact (below_size aa_0) : w.heap.size ≤ gb370)) <| m_ ((by rw [hg]; exact (below_size aa_0) : w.heap.size ≤ gb370)) <| m_ ((by rw [hg]; exact Nat.ne_of_lt (blk_lt (g := gb369) (o := .cells #[.int .i64 a0_0, .int .i64 a0_1, .int .i64 a0_2, .int .i64 a0_3, .int .i64 a0_4, .int .i64 a0_5, .slice A0_6 l0_6.length c0_6, .slice A0_7 l0_7.length c0_7, .slice A0_8 l0_8.length c0_8] 45 (0, 0)) aa_2) : gb369 ≠ gb370)) <| am_ ((by rw [hg]; exact Nat.ne_of_gt (blk_lt (g := gb369) (o := .cells #[.int .i64 a0_0, .int .i64 a0_1, .int .i64 a0_2, .int .i64 a0_3, .int .i64 a0_4, .int .i64 a0_5, .slice A0_6 l0_6.length c0_6, .slice A0_7 l0_7.length c0_7, .slice A0_8 l0_8.length c0_8] 45 (0, 0)) aa_2) : gb370 ≠ gb369)); clear BK369 HB; obtain ⟨BK369, HB, BK370, GW370, GE370, NB369_370, NB370_369⟩ := N_; clear hb hbox hg; have hnb46 := NB369_370.out; have hnc46 := NB370_369.out; obtain ⟨Z47_0, Z47_1, Z47_2, Z47_3, Z47_4, Z47_5, Z47_6, Z47_7, Z47_8, -, -, -, -, -, -, -, -, -⟩ := cn BK369; obtain ⟨Z48_0, Z48_1, Z48_2, Z48_3, Z48_4, Z48_5, Z48_6, Z48_7, Z48_8, -, -, -, -, -, -, -, -, -⟩ := cn BK370))
     go_ret; exact ⟨er_, by repeat (first | (with_reducible first | exact HB.out | apply below_alloc | apply pw_below_drewN | apply below_drew1 | refine below_set ?_ GE369.out | refine below_set ?_ GE370.out) | exact HB.out)⟩
   ·rw [if_neg c5] at H; obtain ⟨c5b0, c5b1⟩ := nb c5; obtain rfl := Option.some.inj H; go_enter Try.func26, Try.ntmps26
    go_wp2_with (first | ((with_reducible refine gate_dst (N := 2) rfl ?_); refine box_event ?hg (N := 2) ?hd (cs := #[.int .i64 a0_0, .int .i64 a0_1, .int .i64 a0_2, .int .i64 a0_3, .int .i64 a0_4, .int .i64 a0_5, .slice A0_6 l0_6.length c0_6, .slice A0_7 l0_7.length c0_7, .slice A0_8 l0_8.length c0_8]) (t := 45) ?hr ?_; (case hd => rfl); (case hg => rfl); (case hr => first | (go_simp; done) | (go_simp; rfl)); intro gb369 hg w49 hbox hb; have N_ := m_ (below_step aa_1 hb) <| m_ (hbox) <| m_ ((by rw [hg]; exact (below_size aa_1) : w.heap.size ≤ gb369)) <| am_ ((by rw [hg]; exact (below_size aa_1) : w.heap.size ≤ gb369)); clear HB; obtain ⟨HB, BK369, GW369, GE369⟩ := N_; clear hb hbox hg) | ((with_reducible refine gate_dst (N := 3) rfl ?_); refine box_event ?hg (N := 3) ?hd (cs := #[.int .i64 a1_0, .int .i64 a1_1, .int .i64 a1_2, .int .i64 a1_3, .int .i64 a1_4, .int .i64 a1_5, .slice A1_6 l1_6.length c1_6, .slice A1_7 l1_7.length c1_7, .slice A1_8 l1_8.length c1_8]) (t := 45) ?hr ?_; (case hd => rfl); (case hg => rfl); (case hr => first | (go_simp; done) | (go_simp; rfl)); intro gb370 hg w50 hbox hb; have N_ := m_ (bbelow BK369 aa_2 hb) <| m_ (below_step aa_0 hb) <| m_ (hbox) <| m_ ((by rw [hg]; exact (below_size aa_0) : w.heap.size ≤ gb370)) <| m_ ((by rw [hg]; exact (below_size aa_0) : w.heap.size ≤ gb370)) <| m_ ((by rw [hg]; exact Nat.ne_of_lt (blk_lt (g := gb369) (o := .cells #[.int .i64 a0_0, .int .i64 a0_1, .int .i64 a0_2, .int .i64 a0_3, .int .i64 a0_4, .int .i64 a0_5, .slice A0_6 l0_6.length c0_6, .slice A0_7 l0_7.length c0_7, .slice A0_8 l0_8.length c0_8] 45 (0, 0)) aa_2) : gb369 ≠ gb370)) <| am_ ((by rw [hg]; exact Nat.ne_of_gt (blk_lt (g := gb369) (o := .cells #[.int .i64 a0_0, .int .i64 a0_1, .int .i64 a0_2, .int .i64 a0_3, .int .i64 a0_4, .int .i64 a0_5, .slice A0_6 l0_6.length c0_6, .slice A0_7 l0_7.length c0_7, .slice A0_8 l0_8.length c0_8] 45 (0, 0)) aa_2) : gb370 ≠ gb369)); clear BK369 HB; obtain ⟨BK369, HB, BK370, GW370, GE370, NB369_370, NB370_369⟩ := N_; clear hb hbox hg; have hnb51 := NB369_370.out; have hnc51 := NB370_369.out; obtain ⟨Z52_0, Z52_1, Z52_2, Z52_3, Z52_4, Z52_5, Z52_6, Z52_7, Z52_8, -, -, -, -, -, -, -, -, -⟩ := cn BK369; obtain ⟨Z53_0, Z53_1, Z53_2, Z53_3, Z53_4, Z53_5, Z53_6, Z53_7, Z53_8, -, -, -, -, -, -, -, -, -⟩ := cn BK370))
    go_ret; exact ⟨er_, by repeat (first | (with_reducible first | exact HB.out | apply below_alloc | apply pw_below_drewN | apply below_drew1 | refine below_set ?_ GE369.out | refine below_set ?_ GE370.out) | exact HB.out)⟩
  ·rw [if_neg c4] at H; obtain ⟨c4b0, c4b1⟩ := nb c4; obtain rfl := Option.some.inj H; go_enter Try.func26, Try.ntmps26
   go_wp2_with (first | ((with_reducible refine gate_dst (N := 2) rfl ?_); refine box_event ?hg (N := 2) ?hd (cs := #[.int .i64 a0_0, .int .i64 a0_1, .int .i64 a0_2, .int .i64 a0_3, .int .i64 a0_4, .int .i64 a0_5, .slice A0_6 l0_6.length c0_6, .slice A0_7 l0_7.length c0_7, .slice A0_8 l0_8.length c0_8]) (t := 45) ?hr ?_; (case hd => rfl); (case hg => rfl); (case hr => first | (go_simp; done) | (go_simp; rfl)); intro gb369 hg w54 hbox hb; have N_ := m_ (below_step aa_1 hb) <| m_ (hbox) <| m_ ((by rw [hg]; exact (below_size aa_1) : w.heap.size ≤ gb369)) <| am_ ((by rw [hg]; exact (below_size aa_1) : w.heap.size ≤ gb369)); clear HB; obtain ⟨HB, BK369, GW369, GE369⟩ := N_; clear hb hbox hg) | ((with_reducible refine gate_dst (N := 3) rfl ?_); refine box_event ?hg (N := 3) ?hd (cs := #[.int .i64 a1_0, .int .i64 a1_1, .int .i64 a1_2, .int .i64 a1_3, .int .i64 a1_4, .int .i64 a1_5, .slice A1_6 l1_6.length c1_6, .slice A1_7 l1_7.length c1_7, .slice A1_8 l1_8.length c1_8]) (t := 45) ?hr ?_; (case hd => rfl); (case hg => rfl); (case hr => first | (go_simp; done) | (go_simp; rfl)); intro gb370 hg w55 hbox hb; have N_ := m_ (bbelow BK369 aa_2 hb) <| m_ (below_step aa_0 hb) <| m_ (hbox) <| m_ ((by rw [hg]; exact (below_size aa_0) : w.heap.size ≤ gb370)) <| m_ ((by rw [hg]; exact (below_size aa_0) : w.heap.size ≤ gb370)) <| m_ ((by rw [hg]; exact Nat.ne_of_lt (blk_lt (g := gb369) (o := .cells #[.int .i64 a0_0, .int .i64 a0_1, .int .i64 a0_2, .int .i64 a0_3, .int .i64 a0_4, .int .i64 a0_5, .slice A0_6 l0_6.length c0_6, .slice A0_7 l0_7.length c0_7, .slice A0_8 l0_8.length c0_8] 45 (0, 0)) aa_2) : gb369 ≠ gb370)) <| am_ ((by rw [hg]; exact Nat.ne_of_gt (blk_lt (g := gb369) (o := .cells #[.int .i64 a0_0, .int .i64 a0_1, .int .i64 a0_2, .int .i64 a0_3, .int .i64 a0_4, .int .i64 a0_5, .slice A0_6 l0_6.length c0_6, .slice A0_7 l0_7.length c0_7, .slice A0_8 l0_8.length c0_8] 45 (0, 0)) aa_2) : gb370 ≠ gb369)); clear BK369 HB; obtain ⟨BK369, HB, BK370, GW370, GE370, NB369_370, NB370_369⟩ := N_; clear hb hbox hg; have hnb56 := NB369_370.out; have hnc56 := NB370_369.out; obtain ⟨Z57_0, Z57_1, Z57_2, Z57_3, Z57_4, Z57_5, Z57_6, Z57_7, Z57_8, -, -, -, -, -, -, -, -, -⟩ := cn BK369; obtain ⟨Z58_0, Z58_1, Z58_2, Z58_3, Z58_4, Z58_5, Z58_6, Z58_7, Z58_8, -, -, -, -, -, -, -, -, -⟩ := cn BK370))
   go_ret; exact ⟨er_, by repeat (first | (with_reducible first | exact HB.out | apply below_alloc | apply pw_below_drewN | apply below_drew1 | refine below_set ?_ GE369.out | refine below_set ?_ GE370.out) | exact HB.out)⟩
 ·rw [if_neg c3] at H; obtain ⟨c3b0, c3b1⟩ := nb c3; obtain rfl := Option.some.inj H; go_enter Try.func26, Try.ntmps26
  go_wp2_with (first | ((with_reducible refine gate_dst (N := 2) rfl ?_); refine box_event ?hg (N := 2) ?hd (cs := #[.int .i64 a0_0, .int .i64 a0_1, .int .i64 a0_2, .int .i64 a0_3, .int .i64 a0_4, .int .i64 a0_5, .slice A0_6 l0_6.length c0_6, .slice A0_7 l0_7.length c0_7, .slice A0_8 l0_8.length c0_8]) (t := 45) ?hr ?_; (case hd => rfl); (case hg => rfl); (case hr => first | (go_simp; done) | (go_simp; rfl)); intro gb369 hg w59 hbox hb; have N_ := m_ (below_step aa_1 hb) <| m_ (hbox) <| m_ ((by rw [hg]; exact (below_size aa_1) : w.heap.size ≤ gb369)) <| am_ ((by rw [hg]; exact (below_size aa_1) : w.heap.size ≤ gb369)); clear HB; obtain ⟨HB, BK369, GW369, GE369⟩ := N_; clear hb hbox hg) | ((with_reducible refine gate_dst (N := 3) rfl ?_); refine box_event ?hg (N := 3) ?hd (cs := #[.int .i64 a1_0, .int .i64 a1_1, .int .i64 a1_2, .int .i64 a1_3, .int .i64 a1_4, .int .i64 a1_5, .slice A1_6 l1_6.length c1_6, .slice A1_7 l1_7.length c1_7, .slice A1_8 l1_8.length c1_8]) (t := 45) ?hr ?_; (case hd => rfl); (case hg => rfl); (case hr => first | (go_simp; done) | (go_simp; rfl)); intro gb370 hg w60 hbox hb; have N_ := m_ (bbelow BK369 aa_2 hb) <| m_ (below_step aa_0 hb) <| m_ (hbox) <| m_ ((by rw [hg]; exact (below_size aa_0) : w.heap.size ≤ gb370)) <| m_ ((by rw [hg]; exact (below_size aa_0) : w.heap.size ≤ gb370)) <| m_ ((by rw [hg]; exact Nat.ne_of_lt (blk_lt (g := gb369) (o := .cells #[.int .i64 a0_0, .int .i64 a0_1, .int .i64 a0_2, .int .i64 a0_3, .int .i64 a0_4, .int .i64 a0_5, .slice A0_6 l0_6.length c0_6, .slice A0_7 l0_7.length c0_7, .slice A0_8 l0_8.length c0_8] 45 (0, 0)) aa_2) : gb369 ≠ gb370)) <| am_ ((by rw [hg]; exact Nat.ne_of_gt (blk_lt (g := gb369) (o := .cells #[.int .i64 a0_0, .int .i64 a0_1, .int .i64 a0_2, .int .i64 a0_3, .int .i64 a0_4, .int .i64 a0_5, .slice A0_6 l0_6.length c0_6, .slice A0_7 l0_7.length c0_7, .slice A0_8 l0_8.length c0_8] 45 (0, 0)) aa_2) : gb370 ≠ gb369)); clear BK369 HB; obtain ⟨BK369, HB, BK370, GW370, GE370, NB369_370, NB370_369⟩ := N_; clear hb hbox hg; have hnb61 := NB369_370.out; have hnc61 := NB370_369.out; obtain ⟨Z62_0, Z62_1, Z62_2, Z62_3, Z62_4, Z62_5, Z62_6, Z62_7, Z62_8, -, -, -, -, -, -, -, -, -⟩ := cn BK369; obtain ⟨Z63_0, Z63_1, Z63_2, Z63_3, Z63_4, Z63_5, Z63_6, Z63_7, Z63_8, -, -, -, -, -, -, -, -, -⟩ := cn BK370))
  go_ret; exact ⟨er_, by repeat (first | (with_reducible first | exact HB.out | apply below_alloc | apply pw_below_drewN | apply below_drew1 | refine below_set ?_ GE369.out | refine below_set ?_ GE370.out) | exact HB.out)⟩

end Go.Proofs.Ytlahigmoljflkaa.PAll
