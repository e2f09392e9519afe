/- Printed by a copy of the printer that was turned for this claim: functions as plain Lean functions, with proofs that their calls come to these; or words that such proofs use. -/
import Derived.Test.YtlahigmoljflkaaPAllx0
import Derived.Test.YtlahigmoljflkaaPAllx1
import Derived.Test.YtlahigmoljflkaaPAllx2
namespace Go.Proofs.Ytlahigmoljflkaa.PAll
open Go.RowKit Go.Proofs.YtlahigmoljflkaaW.PrintWords Go.Proofs.YtlahigmoljflkaaW.PrintLast Go.Proofs.YtlahigmoljflkaaW.PrintMore
attribute [local go_sem] max2_int min2_int max_two min_two max_three min_three max_four min_four   -- for this text's walks alone
set_option linter.unusedVariables false
set_option linter.unusedSimpArgs false

mutual
def code_shape.j0 : Nat → Int → Bool → Option (Int)
 | 0, _, _ => none
 | k + 1, x0, x3 => if x3 = true then (some 2) else (if x0 = 4 then (some 3) else (if x0 = 12 then (code_shape.j1 k x0 true) else (if x0 = 13 then (code_shape.j1 k x0 true) else (if x0 = 16 then (code_shape.j1 k x0 true) else (if x0 ≥ 32 then (code_shape.j1 k x0 (decide (x0 ≤ 36))) else (code_shape.j1 k x0 false))))))
def code_shape.j1 : Nat → Int → Bool → Option (Int)
 | 0, _, _ => none
 | k + 1, x0, x13 => if x13 = true then (some 4) else (if x0 = 14 then (some 5) else (if x0 = 17 then (some 6) else (if x0 = 40 then (code_shape.j2 k x0 true) else (if x0 = 41 then (code_shape.j2 k x0 true) else (if x0 ≥ 44 then (if x0 ≤ 55 then (code_shape.j2 k x0 true) else (if x0 ≥ 58 then (code_shape.j2 k x0 (decide (x0 ≤ 62))) else (code_shape.j2 k x0 false))) else (if x0 ≥ 58 then (none) else (code_shape.j2 k x0 false)))))))
def code_shape.j2 : Nat → Int → Bool → Option (Int)
 | 0, _, _ => none
 | k + 1, x0, x38 => if x38 = true then (some 7) else (if x0 = 63 then (code_shape.j3 k x0 true) else (code_shape.j3 k x0 (x0 == 64)))
def code_shape.j3 : Nat → Int → Bool → Option (Int)
 | 0, _, _ => none
 | k + 1, x0, x61 => if x61 = true then (some 8) else (if x0 = 65 then (some 9) else (if x0 = 66 then (some 10) else (if x0 = 0 then (some 1) else (if x0 = 1 then (some 1) else (if x0 = 15 then (some 1) else (if x0 = 26 then (some 1) else (if x0 = 27 then (some 1) else (if x0 ≥ 69 then (if x0 ≤ 90 then (some 1) else (if x0 ≥ 103 then (if x0 ≤ 138 then (some 1) else (if x0 = 167 then (some 1) else (if x0 = 172 then (some 1) else (if x0 = 173 then (some 1) else (some 0))))) else (if x0 = 167 then (none) else (if x0 = 172 then (none) else (if x0 = 173 then (none) else (some 0)))))) else (if x0 ≥ 103 then (none) else (if x0 = 167 then (none) else (if x0 = 172 then (none) else (if x0 = 173 then (none) else (some 0)))))))))))))
end
def code_shape.f (k : Nat) (a0 : Int) : Option (Int) := if a0 = 2 then (code_shape.j0 k a0 true) else (code_shape.j0 k a0 (a0 == 3))
theorem code_shape.mono_l : ∀ k, (∀ y0 y1, LeO (code_shape.j0 k y0 y1) (code_shape.j0 (k + 1) y0 y1)) ∧ (∀ y0 y1, LeO (code_shape.j1 k y0 y1) (code_shape.j1 (k + 1) y0 y1)) ∧ (∀ y0 y1, LeO (code_shape.j2 k y0 y1) (code_shape.j2 (k + 1) y0 y1)) ∧ (∀ y0 y1, LeO (code_shape.j3 k y0 y1) (code_shape.j3 (k + 1) y0 y1))
 | 0 => ⟨fun _ _ r h => by simp [code_shape.j0] at h, fun _ _ r h => by simp [code_shape.j1] at h, fun _ _ r h => by simp [code_shape.j2] at h, fun _ _ r h => by simp [code_shape.j3] at h⟩
 | k + 1 => by
  obtain ⟨ih0, ih1, ih2, ih3⟩ := code_shape.mono_l k
  refine ⟨?_, ?_, ?_, ?_⟩
  ·intro y0 y1
   unfold code_shape.j0
   repeat' first
   | (with_reducible apply ih0)
   | (with_reducible apply ih1)
   | (with_reducible apply ih2)
   | (with_reducible apply ih3)
   | (with_reducible exact LeO.refl _)
   | (with_reducible exact LeO.none _)
   | (with_reducible refine LeO.ite ?_ ?_)
   | (with_reducible refine LeO.bind ?_ (fun _ => ?_))
   | apply ih0
   | apply ih1
   | apply ih2
   | apply ih3
   | exact LeO.none _
   | refine LeO.ite ?_ ?_
   | refine LeO.bind ?_ (fun _ => ?_)
  ·intro y0 y1
   unfold code_shape.j1
   repeat' first
   | (with_reducible apply ih0)
   | (with_reducible apply ih1)
   | (with_reducible apply ih2)
   | (with_reducible apply ih3)
   | (with_reducible exact LeO.refl _)
   | (with_reducible exact LeO.none _)
   | (with_reducible refine LeO.ite ?_ ?_)
   | (with_reducible refine LeO.bind ?_ (fun _ => ?_))
   | apply ih0
   | apply ih1
   | apply ih2
   | apply ih3
   | exact LeO.none _
   | refine LeO.ite ?_ ?_
   | refine LeO.bind ?_ (fun _ => ?_)
  ·intro y0 y1
   unfold code_shape.j2
   repeat' first
   | (with_reducible apply ih0)
   | (with_reducible apply ih1)
   | (with_reducible apply ih2)
   | (with_reducible apply ih3)
   | (with_reducible exact LeO.refl _)
   | (with_reducible exact LeO.none _)
   | (with_reducible refine LeO.ite ?_ ?_)
   | (with_reducible refine LeO.bind ?_ (fun _ => ?_))
   | apply ih0
   | apply ih1
   | apply ih2
   | apply ih3
   | exact LeO.none _
   | refine LeO.ite ?_ ?_
   | refine LeO.bind ?_ (fun _ => ?_)
  ·intro y0 y1
   unfold code_shape.j3
   repeat' first
   | (with_reducible apply ih0)
   | (with_reducible apply ih1)
   | (with_reducible apply ih2)
   | (with_reducible apply ih3)
   | (with_reducible exact LeO.refl _)
   | (with_reducible exact LeO.none _)
   | (with_reducible refine LeO.ite ?_ ?_)
   | (with_reducible refine LeO.bind ?_ (fun _ => ?_))
   | apply ih0
   | apply ih1
   | apply ih2
   | apply ih3
   | exact LeO.none _
   | refine LeO.ite ?_ ?_
   | refine LeO.bind ?_ (fun _ => ?_)
theorem code_shape.mono : ∀ a0 k, LeO (code_shape.f k a0) (code_shape.f (k + 1) a0) := by
 intro a0 k
 obtain ⟨ih0, ih1, ih2, ih3⟩ := code_shape.mono_l k
 unfold code_shape.f
 repeat' first
   | (with_reducible apply ih0)
   | (with_reducible apply ih1)
   | (with_reducible apply ih2)
   | (with_reducible apply ih3)
   | (with_reducible exact LeO.refl _)
   | (with_reducible exact LeO.none _)
   | (with_reducible refine LeO.ite ?_ ?_)
   | (with_reducible refine LeO.bind ?_ (fun _ => ?_))
   | apply ih0
   | apply ih1
   | apply ih2
   | apply ih3
   | exact LeO.none _
   | refine LeO.ite ?_ ?_
   | refine LeO.bind ?_ (fun _ => ?_)
theorem code_shape.aa_0 {p : Prop} (h : p := by first | rfl | (simp; done) | (simp [*]; done)) : p := h
theorem code_shape.am_ {p : Prop} (h : p) : Aside0 p := Aside0.mk h
set_option maxHeartbeats 8000000 in
set_option maxRecDepth 100000 in
theorem code_shape.calls (k : Nat) (a0 : Int) (r : Int) (w : World) (h : code_shape.f k a0 = some r) :
  Calls Try.prog 49 #[.int .i64 a0] w fun e w' => e = .returned (.int .i64 r) ∧ Drawn0 w w' := by
 have H : (if a0 = 2 then (j0 k a0 true) else (j0 k a0 (a0 == 3))) = some r := h
 clear h
 have HC2 := am_ H
 clear H
 go_enter Try.func49, Try.ntmps49
 go_upto_region 1 with (fail)
 go_cut [3] (fun v3 wc => ∃ (kq : Nat) (x3_1 : Bool), v3 = .bool x3_1 ∧ Aside0 (j0 kq a0 x3_1 = some r) ∧ Aside0 (kq ≤ k) ∧ Drawn0 w wc)
 case first =>
  have H := HC2.out
  clear HC2
  by_cases c3 : a0 = 2
  ·rw [if_pos c3] at H
   have c3b0 : (a0 == 2) = true := beq_iff_eq.mpr c3
   have c3b1 : (a0 != 2) = false := bne_eq_false_iff_eq.mpr c3
   clear c3
   (first | rw [c3b0] | (simp only [i64_w, i32_w]; rw [c3b0]) | skip)
   have H' := am_ H
   clear H
   go_wp2
   go_meet
   case rel => exact ⟨_, (true), aa_0, H', ⟨by first | omega | exact Nat.le_refl _⟩, by repeat (first | exact Drawn0.refl _ | apply Drawn0.step)⟩
  rw [if_neg c3] at H
  have c3b0 : (a0 == 2) = false := beq_eq_false_iff_ne.mpr c3
  have c3b1 : (a0 != 2) = true := bne_iff_ne.mpr c3
  (first | rw [c3b0] | (simp only [i64_w, i32_w]; rw [c3b0]) | skip)
  have H' := am_ H
  clear H
  go_wp2
  go_meet
  case rel => exact ⟨_, ((a0 == 3)), aa_0, H', ⟨by first | omega | exact Nat.le_refl _⟩, by repeat (first | exact Drawn0.refl _ | apply Drawn0.step)⟩
 case rest =>
 clear HC2
 obtain ⟨kq, x3_1, rfl, HA, HJ1, ⟨mc1, rfl⟩⟩ := hcut
 cases kq with
 | zero => exact absurd HA.out (by simp [j0])
 | succ kj1 =>
 have H := HA.out
 clear HA
 simp only [j0] at H
 by_cases c4 : x3_1 = true
 ·subst c4
  have H1 : (some 2) = some r := by rw [if_pos rfl] at H; exact H
  clear H
  have H := H1
  clear H1
  obtain rfl := Option.some.inj H
  go_wp2
  go_ret
  exact ⟨by first | rfl | (simp; done) | (simp [*]; done), by repeat (first | exact Drawn0.refl _ | apply Drawn0.step)⟩
 replace c4 := Bool.eq_false_iff.mpr c4
 subst c4
 have H1 : (if a0 = 4 then (some 3) else (if a0 = 12 then (j1 kj1 a0 true) else (if a0 = 13 then (j1 kj1 a0 true) else (if a0 = 16 then (j1 kj1 a0 true) else (if a0 ≥ 32 then (j1 kj1 a0 (decide (a0 ≤ 36))) else (j1 kj1 a0 false)))))) = some r := by rw [if_neg (show ¬ (false = true) by decide)] at H; exact H
 clear H
 have H := H1
 clear H1
 by_cases c5 : a0 = 4
 ·rw [if_pos c5] at H
  have c5b0 : (a0 == 4) = true := beq_iff_eq.mpr c5
  have c5b1 : (a0 != 4) = false := bne_eq_false_iff_eq.mpr c5
  clear c5
  obtain rfl := Option.some.inj H
  go_wp2
  go_ret
  exact ⟨by first | rfl | (simp; done) | (simp [*]; done), by repeat (first | exact Drawn0.refl _ | apply Drawn0.step)⟩
 rw [if_neg c5] at H
 have c5b0 : (a0 == 4) = false := beq_eq_false_iff_ne.mpr c5
 have c5b1 : (a0 != 4) = true := bne_iff_ne.mpr c5
 have HC6 := am_ H
 clear H
 go_upto_region 5 with (fail)
 go_cut [13] (fun v13 wc => ∃ (kq : Nat) (x13_5 : Bool), v13 = .bool x13_5 ∧ Aside0 (j1 kq a0 x13_5 = some r) ∧ Aside0 (kq ≤ kj1) ∧ Drawn0 w wc)
 case first =>
  have H := HC6.out
  clear HC6
  by_cases c7 : a0 = 12
  ·rw [if_pos c7] at H
   have c7b0 : (a0 == 12) = true := beq_iff_eq.mpr c7
   have c7b1 : (a0 != 12) = false := bne_eq_false_iff_eq.mpr c7
   clear c7
   (first | rw [c7b0] | (simp only [i64_w, i32_w]; rw [c7b0]) | skip)
   have H' := am_ H
   clear H
   go_wp2
   go_meet
   case rel => exact ⟨_, (true), aa_0, H', ⟨by have := HJ1.out; first | omega | exact Nat.le_refl _⟩, by repeat (first | exact Drawn0.refl _ | apply Drawn0.step)⟩
  rw [if_neg c7] at H
  have c7b0 : (a0 == 12) = false := beq_eq_false_iff_ne.mpr c7
  have c7b1 : (a0 != 12) = true := bne_iff_ne.mpr c7
  (first | rw [c7b0] | (simp only [i64_w, i32_w]; rw [c7b0]) | skip)
  by_cases c8 : a0 = 13
  ·rw [if_pos c8] at H
   have c8b0 : (a0 == 13) = true := beq_iff_eq.mpr c8
   have c8b1 : (a0 != 13) = false := bne_eq_false_iff_eq.mpr c8
   clear c8
   have H' := am_ H
   clear H
   go_wp2
   go_meet
   case rel => exact ⟨_, (true), aa_0, H', ⟨by have := HJ1.out; first | omega | exact Nat.le_refl _⟩, by repeat (first | exact Drawn0.refl _ | apply Drawn0.step)⟩
  rw [if_neg c8] at H
  have c8b0 : (a0 == 13) = false := beq_eq_false_iff_ne.mpr c8
  have c8b1 : (a0 != 13) = true := bne_iff_ne.mpr c8
  by_cases c9 : a0 = 16
  ·rw [if_pos c9] at H
   have c9b0 : (a0 == 16) = true := beq_iff_eq.mpr c9
   have c9b1 : (a0 != 16) = false := bne_eq_false_iff_eq.mpr c9
   clear c9
   have H' := am_ H
   clear H
   go_wp2
   go_meet
   case rel => exact ⟨_, (true), aa_0, H', ⟨by have := HJ1.out; first | omega | exact Nat.le_refl _⟩, by repeat (first | exact Drawn0.refl _ | apply Drawn0.step)⟩
  rw [if_neg c9] at H
  have c9b0 : (a0 == 16) = false := beq_eq_false_iff_ne.mpr c9
  have c9b1 : (a0 != 16) = true := bne_iff_ne.mpr c9
  by_cases c10 : a0 ≥ 32
  ·rw [if_pos c10] at H
   have c10b0 : decide (32 ≤ a0) = true := decide_eq_true c10
   clear c10
   have H' := am_ H
   clear H
   go_wp2
   go_meet
   case rel => exact ⟨_, (decide (a0 ≤ 36)), aa_0, H', ⟨by have := HJ1.out; first | omega | exact Nat.le_refl _⟩, by repeat (first | exact Drawn0.refl _ | apply Drawn0.step)⟩
  rw [if_neg c10] at H
  have c10b0 : decide (32 ≤ a0) = false := decide_eq_false c10
  clear c10
  have H' := am_ H
  clear H
  go_wp2
  go_meet
  case rel => exact ⟨_, (false), aa_0, H', ⟨by have := HJ1.out; first | omega | exact Nat.le_refl _⟩, by repeat (first | exact Drawn0.refl _ | apply Drawn0.step)⟩
 case rest =>
 clear HC6
 try clear c4
 try clear c5
 try clear c5b0
 try clear c5b1
 obtain ⟨kq, x13_5, rfl, HA, HJ5, ⟨mc5, rfl⟩⟩ := hcut
 cases kq with
 | zero => exact absurd HA.out (by simp [j1])
 | succ kj5 =>
 have H := HA.out
 clear HA
 simp only [j1] at H
 by_cases c11 : x13_5 = true
 ·subst c11
  have H1 : (some 4) = some r := by rw [if_pos rfl] at H; exact H
  clear H
  have H := H1
  clear H1
  obtain rfl := Option.some.inj H
  go_wp2
  go_ret
  exact ⟨by first | rfl | (simp; done) | (simp [*]; done), by repeat (first | exact Drawn0.refl _ | apply Drawn0.step)⟩
 replace c11 := Bool.eq_false_iff.mpr c11
 subst c11
 have H1 : (if a0 = 14 then (some 5) else (if a0 = 17 then (some 6) else (if a0 = 40 then (j2 kj5 a0 true) else (if a0 = 41 then (j2 kj5 a0 true) else (if a0 ≥ 44 then (if a0 ≤ 55 then (j2 kj5 a0 true) else (if a0 ≥ 58 then (j2 kj5 a0 (decide (a0 ≤ 62))) else (j2 kj5 a0 false))) else (if a0 ≥ 58 then (none) else (j2 kj5 a0 false))))))) = some r := by rw [if_neg (show ¬ (false = true) by decide)] at H; exact H
 clear H
 have H := H1
 clear H1
 by_cases c12 : a0 = 14
 ·rw [if_pos c12] at H
  have c12b0 : (a0 == 14) = true := beq_iff_eq.mpr c12
  have c12b1 : (a0 != 14) = false := bne_eq_false_iff_eq.mpr c12
  clear c12
  obtain rfl := Option.some.inj H
  go_wp2
  go_ret
  exact ⟨by first | rfl | (simp; done) | (simp [*]; done), by repeat (first | exact Drawn0.refl _ | apply Drawn0.step)⟩
 rw [if_neg c12] at H
 have c12b0 : (a0 == 14) = false := beq_eq_false_iff_ne.mpr c12
 have c12b1 : (a0 != 14) = true := bne_iff_ne.mpr c12
 by_cases c13 : a0 = 17
 ·rw [if_pos c13] at H
  have c13b0 : (a0 == 17) = true := beq_iff_eq.mpr c13
  have c13b1 : (a0 != 17) = false := bne_eq_false_iff_eq.mpr c13
  clear c13
  obtain rfl := Option.some.inj H
  go_wp2
  go_ret
  exact ⟨by first | rfl | (simp; done) | (simp [*]; done), by repeat (first | exact Drawn0.refl _ | apply Drawn0.step)⟩
 rw [if_neg c13] at H
 have c13b0 : (a0 == 17) = false := beq_eq_false_iff_ne.mpr c13
 have c13b1 : (a0 != 17) = true := bne_iff_ne.mpr c13
 have HC14 := am_ H
 clear H
 go_upto_region 11 with (fail)
 go_cut [38] (fun v38 wc => ∃ (kq : Nat) (x38_13 : Bool), v38 = .bool x38_13 ∧ Aside0 (j2 kq a0 x38_13 = some r) ∧ Aside0 (kq ≤ kj5) ∧ Drawn0 w wc)
 case first =>
  have H := HC14.out
  clear HC14
  by_cases c15 : a0 = 40
  ·rw [if_pos c15] at H
   have c15b0 : (a0 == 40) = true := beq_iff_eq.mpr c15
   have c15b1 : (a0 != 40) = false := bne_eq_false_iff_eq.mpr c15
   clear c15
   (first | rw [c15b0] | (simp only [i64_w, i32_w]; rw [c15b0]) | skip)
   have H' := am_ H
   clear H
   go_wp2
   go_meet
   case rel => exact ⟨_, (true), aa_0, H', ⟨by have := HJ1.out; have := HJ5.out; first | omega | exact Nat.le_refl _⟩, by repeat (first | exact Drawn0.refl _ | apply Drawn0.step)⟩
  rw [if_neg c15] at H
  have c15b0 : (a0 == 40) = false := beq_eq_false_iff_ne.mpr c15
  have c15b1 : (a0 != 40) = true := bne_iff_ne.mpr c15
  (first | rw [c15b0] | (simp only [i64_w, i32_w]; rw [c15b0]) | skip)
  by_cases c16 : a0 = 41
  ·rw [if_pos c16] at H
   have c16b0 : (a0 == 41) = true := beq_iff_eq.mpr c16
   have c16b1 : (a0 != 41) = false := bne_eq_false_iff_eq.mpr c16
   clear c16
   have H' := am_ H
   clear H
   go_wp2
   go_meet
   case rel => exact ⟨_, (true), aa_0, H', ⟨by have := HJ1.out; have := HJ5.out; first | omega | exact Nat.le_refl _⟩, by repeat (first | exact Drawn0.refl _ | apply Drawn0.step)⟩
  rw [if_neg c16] at H
  have c16b0 : (a0 == 41) = false := beq_eq_false_iff_ne.mpr c16
  have c16b1 : (a0 != 41) = true := bne_iff_ne.mpr c16
  by_cases c17 : a0 ≥ 44
  rotate_left
  ·rw [if_neg c17] at H
   have c17b0 : decide (44 ≤ a0) = false := decide_eq_false c17
   clear c17
   by_cases c20 : a0 ≥ 58
   ·rw [if_pos c20] at H
    exact absurd H (by simp)
   rw [if_neg c20] at H
   have c20b0 : decide (58 ≤ a0) = false := decide_eq_false c20
   clear c20
   have H' := am_ H
   clear H
   go_wp2
   go_meet
   case rel => exact ⟨_, (false), aa_0, H', ⟨by have := HJ1.out; have := HJ5.out; first | omega | exact Nat.le_refl _⟩, by repeat (first | exact Drawn0.refl _ | apply Drawn0.step)⟩
  rw [if_pos c17] at H
  have c17b0 : decide (44 ≤ a0) = true := decide_eq_true c17
  clear c17
  by_cases c18 : a0 ≤ 55
  ·rw [if_pos c18] at H
   have c18b0 : decide (a0 ≤ 55) = true := decide_eq_true c18
   clear c18
   have H' := am_ H
   clear H
   go_wp2
   go_meet
   case rel => exact ⟨_, (true), aa_0, H', ⟨by have := HJ1.out; have := HJ5.out; first | omega | exact Nat.le_refl _⟩, by repeat (first | exact Drawn0.refl _ | apply Drawn0.step)⟩
  rw [if_neg c18] at H
  have c18b0 : decide (a0 ≤ 55) = false := decide_eq_false c18
  clear c18
  by_cases c19 : a0 ≥ 58
  ·rw [if_pos c19] at H
   have c19b0 : decide (58 ≤ a0) = true := decide_eq_true c19
   clear c19
   have H' := am_ H
   clear H
   go_wp2
   go_meet
   case rel => exact ⟨_, (decide (a0 ≤ 62)), aa_0, H', ⟨by have := HJ1.out; have := HJ5.out; first | omega | exact Nat.le_refl _⟩, by repeat (first | exact Drawn0.refl _ | apply Drawn0.step)⟩
  rw [if_neg c19] at H
  have c19b0 : decide (58 ≤ a0) = false := decide_eq_false c19
  clear c19
  have H' := am_ H
  clear H
  go_wp2
  go_meet
  case rel => exact ⟨_, (false), aa_0, H', ⟨by have := HJ1.out; have := HJ5.out; first | omega | exact Nat.le_refl _⟩, by repeat (first | exact Drawn0.refl _ | apply Drawn0.step)⟩
 case rest =>
 clear HC14
 try clear c11
 try clear c12
 try clear c12b0
 try clear c12b1
 try clear c13
 try clear c13b0
 try clear c13b1
 obtain ⟨kq, x38_13, rfl, HA, HJ13, ⟨mc13, rfl⟩⟩ := hcut
 cases kq with
 | zero => exact absurd HA.out (by simp [j2])
 | succ kj13 =>
 have H := HA.out
 clear HA
 simp only [j2] at H
 by_cases c21 : x38_13 = true
 ·subst c21
  have H1 : (some 7) = some r := by rw [if_pos rfl] at H; exact H
  clear H
  have H := H1
  clear H1
  obtain rfl := Option.some.inj H
  go_wp2
  go_ret
  exact ⟨by first | rfl | (simp; done) | (simp [*]; done), by repeat (first | exact Drawn0.refl _ | apply Drawn0.step)⟩
 replace c21 := Bool.eq_false_iff.mpr c21
 subst c21
 have H1 : (if a0 = 63 then (j3 kj13 a0 true) else (j3 kj13 a0 (a0 == 64))) = some r := by rw [if_neg (show ¬ (false = true) by decide)] at H; exact H
 clear H
 have H := H1
 clear H1
 have HC22 := am_ H
 clear H
 go_upto_region 13 with (fail)
 go_cut [61] (fun v61 wc => ∃ (kq : Nat) (x61_21 : Bool), v61 = .bool x61_21 ∧ Aside0 (j3 kq a0 x61_21 = some r) ∧ Aside0 (kq ≤ kj13) ∧ Drawn0 w wc)
 case first =>
  have H := HC22.out
  clear HC22
  by_cases c23 : a0 = 63
  ·rw [if_pos c23] at H
   have c23b0 : (a0 == 63) = true := beq_iff_eq.mpr c23
   have c23b1 : (a0 != 63) = false := bne_eq_false_iff_eq.mpr c23
   clear c23
   (first | rw [c23b0] | (simp only [i64_w, i32_w]; rw [c23b0]) | skip)
   have H' := am_ H
   clear H
   go_wp2
   go_meet
   case rel => exact ⟨_, (true), aa_0, H', ⟨by have := HJ1.out; have := HJ5.out; have := HJ13.out; first | omega | exact Nat.le_refl _⟩, by repeat (first | exact Drawn0.refl _ | apply Drawn0.step)⟩
  rw [if_neg c23] at H
  have c23b0 : (a0 == 63) = false := beq_eq_false_iff_ne.mpr c23
  have c23b1 : (a0 != 63) = true := bne_iff_ne.mpr c23
  (first | rw [c23b0] | (simp only [i64_w, i32_w]; rw [c23b0]) | skip)
  have H' := am_ H
  clear H
  go_wp2
  go_meet
  case rel => exact ⟨_, ((a0 == 64)), aa_0, H', ⟨by have := HJ1.out; have := HJ5.out; have := HJ13.out; first | omega | exact Nat.le_refl _⟩, by repeat (first | exact Drawn0.refl _ | apply Drawn0.step)⟩
 case rest =>
 clear HC22
 try clear c21
 obtain ⟨kq, x61_21, rfl, HA, HJ21, ⟨mc21, rfl⟩⟩ := hcut
 cases kq with
 | zero => exact absurd HA.out (by simp [j3])
 | succ kj21 =>
 have H := HA.out
 clear HA
 simp only [j3] at H
 by_cases c24 : x61_21 = true
 ·subst c24
  have H1 : (some 8) = some r := by rw [if_pos rfl] at H; exact H
  clear H
  have H := H1
  clear H1
  obtain rfl := Option.some.inj H
  go_wp2
  go_ret
  exact ⟨by first | rfl | (simp; done) | (simp [*]; done), by repeat (first | exact Drawn0.refl _ | apply Drawn0.step)⟩
 replace c24 := Bool.eq_false_iff.mpr c24
 subst c24
 have H1 : (if a0 = 65 then (some 9) else (if a0 = 66 then (some 10) else (if a0 = 0 then (some 1) else (if a0 = 1 then (some 1) else (if a0 = 15 then (some 1) else (if a0 = 26 then (some 1) else (if a0 = 27 then (some 1) else (if a0 ≥ 69 then (if a0 ≤ 90 then (some 1) else (if a0 ≥ 103 then (if a0 ≤ 138 then (some 1) else (if a0 = 167 then (some 1) else (if a0 = 172 then (some 1) else (if a0 = 173 then (some 1) else (some 0))))) else (if a0 = 167 then (none) else (if a0 = 172 then (none) else (if a0 = 173 then (none) else (some 0)))))) else (if a0 ≥ 103 then (none) else (if a0 = 167 then (none) else (if a0 = 172 then (none) else (if a0 = 173 then (none) else (some 0))))))))))))) = some r := by rw [if_neg (show ¬ (false = true) by decide)] at H; exact H
 clear H
 have H := H1
 clear H1
 by_cases c25 : a0 = 65
 ·rw [if_pos c25] at H
  have c25b0 : (a0 == 65) = true := beq_iff_eq.mpr c25
  have c25b1 : (a0 != 65) = false := bne_eq_false_iff_eq.mpr c25
  clear c25
  obtain rfl := Option.some.inj H
  go_wp2
  go_ret
  exact ⟨by first | rfl | (simp; done) | (simp [*]; done), by repeat (first | exact Drawn0.refl _ | apply Drawn0.step)⟩
 rw [if_neg c25] at H
 have c25b0 : (a0 == 65) = false := beq_eq_false_iff_ne.mpr c25
 have c25b1 : (a0 != 65) = true := bne_iff_ne.mpr c25
 by_cases c26 : a0 = 66
 ·rw [if_pos c26] at H
  have c26b0 : (a0 == 66) = true := beq_iff_eq.mpr c26
  have c26b1 : (a0 != 66) = false := bne_eq_false_iff_eq.mpr c26
  clear c26
  obtain rfl := Option.some.inj H
  go_wp2
  go_ret
  exact ⟨by first | rfl | (simp; done) | (simp [*]; done), by repeat (first | exact Drawn0.refl _ | apply Drawn0.step)⟩
 rw [if_neg c26] at H
 have c26b0 : (a0 == 66) = false := beq_eq_false_iff_ne.mpr c26
 have c26b1 : (a0 != 66) = true := bne_iff_ne.mpr c26
 by_cases c27 : a0 = 0
 ·rw [if_pos c27] at H
  have c27b0 : (a0 == 0) = true := beq_iff_eq.mpr c27
  have c27b1 : (a0 != 0) = false := bne_eq_false_iff_eq.mpr c27
  clear c27
  obtain rfl := Option.some.inj H
  go_wp2
  go_ret
  exact ⟨by first | rfl | (simp; done) | (simp [*]; done), by repeat (first | exact Drawn0.refl _ | apply Drawn0.step)⟩
 rw [if_neg c27] at H
 have c27b0 : (a0 == 0) = false := beq_eq_false_iff_ne.mpr c27
 have c27b1 : (a0 != 0) = true := bne_iff_ne.mpr c27
 by_cases c28 : a0 = 1
 ·rw [if_pos c28] at H
  have c28b0 : (a0 == 1) = true := beq_iff_eq.mpr c28
  have c28b1 : (a0 != 1) = false := bne_eq_false_iff_eq.mpr c28
  clear c28
  obtain rfl := Option.some.inj H
  go_wp2
  go_ret
  exact ⟨by first | rfl | (simp; done) | (simp [*]; done), by repeat (first | exact Drawn0.refl _ | apply Drawn0.step)⟩
 rw [if_neg c28] at H
 have c28b0 : (a0 == 1) = false := beq_eq_false_iff_ne.mpr c28
 have c28b1 : (a0 != 1) = true := bne_iff_ne.mpr c28
 by_cases c29 : a0 = 15
 ·rw [if_pos c29] at H
  have c29b0 : (a0 == 15) = true := beq_iff_eq.mpr c29
  have c29b1 : (a0 != 15) = false := bne_eq_false_iff_eq.mpr c29
  clear c29
  obtain rfl := Option.some.inj H
  go_wp2
  go_ret
  exact ⟨by first | rfl | (simp; done) | (simp [*]; done), by repeat (first | exact Drawn0.refl _ | apply Drawn0.step)⟩
 rw [if_neg c29] at H
 have c29b0 : (a0 == 15) = false := beq_eq_false_iff_ne.mpr c29
 have c29b1 : (a0 != 15) = true := bne_iff_ne.mpr c29
 by_cases c30 : a0 = 26
 ·rw [if_pos c30] at H
  have c30b0 : (a0 == 26) = true := beq_iff_eq.mpr c30
  have c30b1 : (a0 != 26) = false := bne_eq_false_iff_eq.mpr c30
  clear c30
  obtain rfl := Option.some.inj H
  go_wp2
  go_ret
  exact ⟨by first | rfl | (simp; done) | (simp [*]; done), by repeat (first | exact Drawn0.refl _ | apply Drawn0.step)⟩
 rw [if_neg c30] at H
 have c30b0 : (a0 == 26) = false := beq_eq_false_iff_ne.mpr c30
 have c30b1 : (a0 != 26) = true := bne_iff_ne.mpr c30
 by_cases c31 : a0 = 27
 ·rw [if_pos c31] at H
  have c31b0 : (a0 == 27) = true := beq_iff_eq.mpr c31
  have c31b1 : (a0 != 27) = false := bne_eq_false_iff_eq.mpr c31
  clear c31
  obtain rfl := Option.some.inj H
  go_wp2
  go_ret
  exact ⟨by first | rfl | (simp; done) | (simp [*]; done), by repeat (first | exact Drawn0.refl _ | apply Drawn0.step)⟩
 rw [if_neg c31] at H
 have c31b0 : (a0 == 27) = false := beq_eq_false_iff_ne.mpr c31
 have c31b1 : (a0 != 27) = true := bne_iff_ne.mpr c31
 by_cases c32 : a0 ≥ 69
 rotate_left
 ·rw [if_neg c32] at H
  have c32b0 : decide (69 ≤ a0) = false := decide_eq_false c32
  clear c32
  by_cases c42 : a0 ≥ 103
  ·rw [if_pos c42] at H
   exact absurd H (by simp)
  rw [if_neg c42] at H
  have c42b0 : decide (103 ≤ a0) = false := decide_eq_false c42
  clear c42
  by_cases c43 : a0 = 167
  ·rw [if_pos c43] at H
   exact absurd H (by simp)
  rw [if_neg c43] at H
  have c43b0 : (a0 == 167) = false := beq_eq_false_iff_ne.mpr c43
  have c43b1 : (a0 != 167) = true := bne_iff_ne.mpr c43
  by_cases c44 : a0 = 172
  ·rw [if_pos c44] at H
   exact absurd H (by simp)
  rw [if_neg c44] at H
  have c44b0 : (a0 == 172) = false := beq_eq_false_iff_ne.mpr c44
  have c44b1 : (a0 != 172) = true := bne_iff_ne.mpr c44
  by_cases c45 : a0 = 173
  ·rw [if_pos c45] at H
   exact absurd H (by simp)
  rw [if_neg c45] at H
  have c45b0 : (a0 == 173) = false := beq_eq_false_iff_ne.mpr c45
  have c45b1 : (a0 != 173) = true := bne_iff_ne.mpr c45
  obtain rfl := Option.some.inj H
  go_wp2
  go_ret
  exact ⟨by first | rfl | (simp; done) | (simp [*]; done), by repeat (first | exact Drawn0.refl _ | apply Drawn0.step)⟩
 rw [if_pos c32] at H
 have c32b0 : decide (69 ≤ a0) = true := decide_eq_true c32
 clear c32
 by_cases c33 : a0 ≤ 90
 ·rw [if_pos c33] at H
  have c33b0 : decide (a0 ≤ 90) = true := decide_eq_true c33
  clear c33
  obtain rfl := Option.some.inj H
  go_wp2
  go_ret
  exact ⟨by first | rfl | (simp; done) | (simp [*]; done), by repeat (first | exact Drawn0.refl _ | apply Drawn0.step)⟩
 rw [if_neg c33] at H
 have c33b0 : decide (a0 ≤ 90) = false := decide_eq_false c33
 clear c33
 by_cases c34 : a0 ≥ 103
 rotate_left
 ·rw [if_neg c34] at H
  have c34b0 : decide (103 ≤ a0) = false := decide_eq_false c34
  clear c34
  by_cases c39 : a0 = 167
  ·rw [if_pos c39] at H
   exact absurd H (by simp)
  rw [if_neg c39] at H
  have c39b0 : (a0 == 167) = false := beq_eq_false_iff_ne.mpr c39
  have c39b1 : (a0 != 167) = true := bne_iff_ne.mpr c39
  by_cases c40 : a0 = 172
  ·rw [if_pos c40] at H
   exact absurd H (by simp)
  rw [if_neg c40] at H
  have c40b0 : (a0 == 172) = false := beq_eq_false_iff_ne.mpr c40
  have c40b1 : (a0 != 172) = true := bne_iff_ne.mpr c40
  by_cases c41 : a0 = 173
  ·rw [if_pos c41] at H
   exact absurd H (by simp)
  rw [if_neg c41] at H
  have c41b0 : (a0 == 173) = false := beq_eq_false_iff_ne.mpr c41
  have c41b1 : (a0 != 173) = true := bne_iff_ne.mpr c41
  obtain rfl := Option.some.inj H
  go_wp2
  go_ret
  exact ⟨by first | rfl | (simp; done) | (simp [*]; done), by repeat (first | exact Drawn0.refl _ | apply Drawn0.step)⟩
 rw [if_pos c34] at H
 have c34b0 : decide (103 ≤ a0) = true := decide_eq_true c34
 clear c34
 by_cases c35 : a0 ≤ 138
 ·rw [if_pos c35] at H
  have c35b0 : decide (a0 ≤ 138) = true := decide_eq_true c35
  clear c35
  obtain rfl := Option.some.inj H
  go_wp2
  go_ret
  exact ⟨by first | rfl | (simp; done) | (simp [*]; done), by repeat (first | exact Drawn0.refl _ | apply Drawn0.step)⟩
 rw [if_neg c35] at H
 have c35b0 : decide (a0 ≤ 138) = false := decide_eq_false c35
 clear c35
 by_cases c36 : a0 = 167
 ·rw [if_pos c36] at H
  have c36b0 : (a0 == 167) = true := beq_iff_eq.mpr c36
  have c36b1 : (a0 != 167) = false := bne_eq_false_iff_eq.mpr c36
  clear c36
  obtain rfl := Option.some.inj H
  go_wp2
  go_ret
  exact ⟨by first | rfl | (simp; done) | (simp [*]; done), by repeat (first | exact Drawn0.refl _ | apply Drawn0.step)⟩
 rw [if_neg c36] at H
 have c36b0 : (a0 == 167) = false := beq_eq_false_iff_ne.mpr c36
 have c36b1 : (a0 != 167) = true := bne_iff_ne.mpr c36
 by_cases c37 : a0 = 172
 ·rw [if_pos c37] at H
  have c37b0 : (a0 == 172) = true := beq_iff_eq.mpr c37
  have c37b1 : (a0 != 172) = false := bne_eq_false_iff_eq.mpr c37
  clear c37
  obtain rfl := Option.some.inj H
  go_wp2
  go_ret
  exact ⟨by first | rfl | (simp; done) | (simp [*]; done), by repeat (first | exact Drawn0.refl _ | apply Drawn0.step)⟩
 rw [if_neg c37] at H
 have c37b0 : (a0 == 172) = false := beq_eq_false_iff_ne.mpr c37
 have c37b1 : (a0 != 172) = true := bne_iff_ne.mpr c37
 by_cases c38 : a0 = 173
 ·rw [if_pos c38] at H
  have c38b0 : (a0 == 173) = true := beq_iff_eq.mpr c38
  have c38b1 : (a0 != 173) = false := bne_eq_false_iff_eq.mpr c38
  clear c38
  obtain rfl := Option.some.inj H
  go_wp2
  go_ret
  exact ⟨by first | rfl | (simp; done) | (simp [*]; done), by repeat (first | exact Drawn0.refl _ | apply Drawn0.step)⟩
 rw [if_neg c38] at H
 have c38b0 : (a0 == 173) = false := beq_eq_false_iff_ne.mpr c38
 have c38b1 : (a0 != 173) = true := bne_iff_ne.mpr c38
 obtain rfl := Option.some.inj H
 go_wp2
 go_ret
 exact ⟨by first | rfl | (simp; done) | (simp [*]; done), by repeat (first | exact Drawn0.refl _ | apply Drawn0.step)⟩
def code_typ.f (a0 : Int) : Option (Bool) := if a0 = 64 then (some true) else (if a0 = 127 then (some true) else (some (a0 == 126)))
set_option maxHeartbeats 8000000 in
set_option maxRecDepth 100000 in
theorem code_typ.calls (a0 : Int) (r : Bool) (w : World) (h : code_typ.f a0 = some r) :
    Calls Try.prog 50 #[.int .i64 a0] w fun e w' => e = .returned (.bool r) ∧ Drawn0 w w' := by
  have H : (if a0 = 64 then (some true) else (if a0 = 127 then (some true) else (some (a0 == 126)))) = some r := h
  clear h
  by_cases c2 : a0 = 64
  · rw [if_pos c2] at H
    have c2b0 : (a0 == 64) = true := beq_iff_eq.mpr c2
    have c2b1 : (a0 != 64) = false := bne_eq_false_iff_eq.mpr c2
    clear c2
    obtain rfl := Option.some.inj H
    go_enter Try.func50, Try.ntmps50
    go_wp2
    go_ret
    exact ⟨by first | rfl | (simp; done) | (simp [*]; done), by repeat (first | exact Drawn0.refl _ | apply Drawn0.step)⟩
  · rw [if_neg c2] at H
    have c2b0 : (a0 == 64) = false := beq_eq_false_iff_ne.mpr c2
    have c2b1 : (a0 != 64) = true := bne_iff_ne.mpr c2
    by_cases c3 : a0 = 127
    · rw [if_pos c3] at H
      have c3b0 : (a0 == 127) = true := beq_iff_eq.mpr c3
      have c3b1 : (a0 != 127) = false := bne_eq_false_iff_eq.mpr c3
      clear c3
      obtain rfl := Option.some.inj H
      go_enter Try.func50, Try.ntmps50
      go_wp2
      go_ret
      exact ⟨by first | rfl | (simp; done) | (simp [*]; done), by repeat (first | exact Drawn0.refl _ | apply Drawn0.step)⟩
    · rw [if_neg c3] at H
      have c3b0 : (a0 == 127) = false := beq_eq_false_iff_ne.mpr c3
      have c3b1 : (a0 != 127) = true := bne_iff_ne.mpr c3
      obtain rfl := Option.some.inj H
      go_enter Try.func50, Try.ntmps50
      go_wp2
      go_ret
      exact ⟨by first | rfl | (simp; done) | (simp [*]; done), by repeat (first | exact Drawn0.refl _ | apply Drawn0.step)⟩

def code_place_labels.l0 : Nat → List Int → Int → List Int → Int → Bool → Option (List Int × Int × Bool)
 | 0, _, _, _, _, _ => none
 | k + 1, x2, x3, x1000, x1001, x1002 => if x3 > 0 then (if x1002 = true then (some (x2, x1001, x1002)) else ((code_place_number.f k x1000 x1001 x1002).bind fun bt131 => (if x2.length < 17592186044416 then (code_place_labels.l0 k (x2 ++ [bt131.1]) (wrap64 (x3 - 1)) x1000 bt131.2.1 bt131.2.2) else (none)))) else (some (x2, x1001, x1002))
def code_place_labels.f (k : Nat) (s0_0 : List Int) (s0_1 : Int) (s0_2 : Bool) : Option (List Int × Int × Bool) := (code_place_number.f k s0_0 s0_1 s0_2).bind fun bt128 => (code_place_labels.l0 k ([] : List Int) bt128.1 s0_0 bt128.2.1 bt128.2.2)
theorem code_place_labels.mono_l : ∀ k, (∀ y0 y1 y2 y3 y4, LeO (code_place_labels.l0 k y0 y1 y2 y3 y4) (code_place_labels.l0 (k + 1) y0 y1 y2 y3 y4))
 | 0 => fun _ _ _ _ _ r h => by simp [code_place_labels.l0] at h
 | k + 1 => by
  have ih0 := code_place_labels.mono_l k
  ·intro y0 y1 y2 y3 y4
   unfold code_place_labels.l0
   repeat' first
   | (with_reducible apply ih0)
   | (with_reducible exact code_place_number.mono _ _ _ _)
   | (with_reducible exact LeO.refl _)
   | (with_reducible exact LeO.none _)
   | (with_reducible refine LeO.ite ?_ ?_)
   | (with_reducible refine LeO.bind ?_ (fun _ => ?_))
   | apply ih0
   | exact code_place_number.mono _ _ _ _
   | exact LeO.none _
   | refine LeO.ite ?_ ?_
   | refine LeO.bind ?_ (fun _ => ?_)
theorem code_place_labels.mono : ∀ a0 a1 a2 k, LeO (code_place_labels.f k a0 a1 a2) (code_place_labels.f (k + 1) a0 a1 a2) := by
 intro a0 a1 a2 k
 have ih0 := code_place_labels.mono_l k
 unfold code_place_labels.f
 repeat' first
   | (with_reducible apply ih0)
   | (with_reducible exact code_place_number.mono _ _ _ _)
   | (with_reducible exact LeO.refl _)
   | (with_reducible exact LeO.none _)
   | (with_reducible refine LeO.ite ?_ ?_)
   | (with_reducible refine LeO.bind ?_ (fun _ => ?_))
   | apply ih0
   | exact code_place_number.mono _ _ _ _
   | exact LeO.none _
   | refine LeO.ite ?_ ?_
   | refine LeO.bind ?_ (fun _ => ?_)
theorem code_place_labels.aa_0 {p : Prop} (h : p := by repeat (first | (with_reducible first | exact HK.out | apply KeepBut.set_ | apply keep_drewN | apply keep_drew | apply keep_alloc) | exact HK.out)) : p := h
theorem code_place_labels.aa_1 {p : Prop} (h : p := by repeat (first | (with_reducible first | exact HI0.out | apply IsS53.alloc | apply IsS53.drewN | apply IsS53.drew | apply IsS53.set_1 | apply IsS53.set_2) | exact HI0.out)) : p := h
theorem code_place_labels.aa_2 {p : Prop} (h : p := by repeat (first | (with_reducible first | exact HB.out | apply below_alloc | apply pw_below_drewN | apply below_drew1 | refine below_set ?_ (IsS53.ge HI0.out)) | exact HB.out)) : p := h
theorem code_place_labels.am_ {p : Prop} (h : p) : Aside0 p := Aside0.mk h
theorem code_place_labels.bm_ {α β : Type _} {o : Option α} {f : α → Option β} {b : β} (h : o.bind f = some b) : ∃ a, o = some a ∧ f a = some b := Option.bind_eq_some_iff.mp h
set_option maxHeartbeats 8000000 in
set_option maxRecDepth 100000 in
theorem code_place_labels.calls (k : Nat) (g : Nat) (s0_0 : List Int) (s0_1 : Int) (s0_2 : Bool) (r1 : List Int) (r2 : Int) (r3 : Bool) (w0 w : World) (hI : IsS53 w0 w g s0_0 s0_1 s0_2) (hB : Below w0.heap.size w0 w) (h : code_place_labels.f k s0_0 s0_1 s0_2 = some (r1, r2, r3)) :
  Calls Try.prog 51 #[.pointer (some ⟨g, 0, none⟩)] w fun e w' => ∃ v0_ : Value, e = .returned (v0_) ∧ Kd.R (Kd.int .i64) 3 w' w.heap.size (fun _ => True) v0_ r1 ∧ IsS53 w0 w' g s0_0 r2 r3 ∧ Below w0.heap.size w0 w' ∧ KeepBut w w' g none := by
 have HI0 := am_ hI
 have HK := am_ (KeepBut.refl w g none)
 have HL := am_ hB.size
 clear hI
 have HW0 := am_ hB.size
 have HB := am_ hB
 clear hB
 have H : ((code_place_number.f k s0_0 s0_1 s0_2).bind fun bt128 => (code_place_labels.l0 k ([] : List Int) bt128.1 s0_0 bt128.2.1 bt128.2.2)) = some (r1, r2, r3) := h
 clear h
 replace H := bm_ H
 obtain ⟨⟨t128, t129, t130⟩, A20, H⟩ := H
 replace H : (code_place_labels.l0 k ([] : List Int) t128 s0_0 t129 t130) = some (r1, r2, r3) := H
 have A2 := am_ A20
 clear A20
 have H' := am_ H
 clear H
 go_enter Try.func51, Try.ntmps51
 go_wp2_with (first | ((with_reducible refine gate_callee (f := 48) rfl ?_); refine goesL_ (some 5) rfl rfl Try.func48 (by kernel_rfl) rfl #[.pointer (some ⟨g, 0, none⟩)] rfl (by (try simp only [List.map_toArray, List.map_cons, List.map_nil]); first | done | rfl | (simp only [List.length_drop, List.length_take]; rfl)) ?_; (with_reducible refine (code_place_number.calls k g s0_0 s0_1 s0_2 t128 t129 t130 w0 _ ?side1 ?side2 A2.out).mono ?_); (case side1 => exact aa_1); (case side2 => exact aa_2); rintro e w3 ⟨rfl, hi, hb, hk⟩; refine ⟨_, rfl, ?_⟩; have n0_ := am_ (KeepBut.trans aa_0 hk (.inl rfl)); have n1_ := am_ (hb); have n2_ := am_ (hi); clear HK; clear HB; clear HI0; have HK := n0_; have HB := n1_; have HI0 := n2_; clear n0_ n1_ n2_; (try clear hb); (try clear hb2); (try clear hk); (try clear hi)))
 go_loopg [2, 3] k (fun kq v2 v3 w' => ∃ (x2_1 : List Int) (x3_1 : Int) (x1001_1 : Int) (x1002_1 : Bool), v3 = .int .i64 x3_1 ∧ Aside0 (code_place_labels.l0 kq x2_1 x3_1 s0_0 x1001_1 x1002_1 = some (r1, r2, r3)) ∧ Aside0 (kq ≤ k) ∧ Aside0 (Kd.R (Kd.int .i64) 3 w' w.heap.size (fun _ => True) v2 x2_1) ∧ Aside0 (IsS53 w0 w' g s0_0 x1001_1 x1002_1) ∧ Aside0 (KeepBut w w' g none) ∧ Aside0 (Below w0.heap.size w0 w'))
 case atStart => exact ⟨(([] : List Int)), (t128), (t129), (t130), (by first | rfl | (simp; done) | (simp [*]; done)), H', ⟨Nat.le_refl _⟩, ⟨by first | exact Kd.R_nil _ _ _ _ _ | exact Kd.N_nil _ _ _ _ _ | exact Kd.V_nil _ _ _ _ _ | exact Kd.Q_nil _ _ _ _ _ | exact Kd.S_nil _ _ _ _ _⟩, ⟨aa_1⟩, ⟨aa_0⟩, ⟨aa_2⟩⟩
 case round =>
 clear H'
 obtain ⟨x2_1, x3_1, x1001_1, x1002_1, rfl, HA, HK1, HO_2, HI0, HK, HB⟩ := hrel
 cases gk with
 | zero => exact absurd HA.out (by simp [code_place_labels.l0])
 | succ k1 =>
 have H := HA.out
 clear HA
 simp only [code_place_labels.l0] at H
 by_cases c4 : x3_1 > 0
 rotate_left
 ·rw [if_neg c4] at H
  have c4b0 : decide (0 < x3_1) = false := decide_eq_false c4
  clear c4
  simp only [Option.some.injEq, Prod.mk.injEq] at H
  obtain ⟨rfl, rfl, rfl⟩ := H
  go_wp2
  go_ret
  exact ⟨_, by first | rfl | (simp [errW_none, errW_some] <;> rfl) | (simp [*, errW_none, errW_some] <;> rfl), by (with_reducible repeat (first | apply Kd.R_alloc | apply Kd.R_drewN | apply Kd.R_drew)); exact HO_2.out, by repeat (first | (with_reducible first | exact HI0.out | apply IsS53.alloc | apply IsS53.drewN | apply IsS53.drew | apply IsS53.set_1 | apply IsS53.set_2) | exact HI0.out), by repeat (first | (with_reducible first | exact HB.out | apply below_alloc | apply pw_below_drewN | apply below_drew1 | refine below_set ?_ (IsS53.ge HI0.out)) | exact HB.out), by repeat (first | (with_reducible first | exact HK.out | apply KeepBut.set_ | apply keep_drewN | apply keep_drew | apply keep_alloc) | exact HK.out)⟩
 rw [if_pos c4] at H
 have c4b0 : decide (0 < x3_1) = true := decide_eq_true c4
 clear c4
 by_cases c5 : x1002_1 = true
 ·subst c5
  have H1 : (some (x2_1, x1001_1, true)) = some (r1, r2, r3) := by rw [if_pos rfl] at H; exact H
  clear H
  have H := H1
  clear H1
  simp only [Option.some.injEq, Prod.mk.injEq] at H
  obtain ⟨rfl, rfl, rfl⟩ := H
  obtain ⟨ASz6_0, cSz6_0, HGz6, hgz6, HSz6_0⟩ := HI0.out
  have hcz6_0 := cellS53_0 HGz6
  have hcz6_1 := cellS53_1 HGz6
  have hcz6_2 := cellS53_2 HGz6
  have hfz6_1 := blk_frozen HGz6 1
  have hfz6_2 := blk_frozen HGz6 2
  clear HGz6 hgz6
  go_wp2
  go_ret
  exact ⟨_, by first | rfl | (simp [errW_none, errW_some] <;> rfl) | (simp [*, errW_none, errW_some] <;> rfl), by (with_reducible repeat (first | apply Kd.R_alloc | apply Kd.R_drewN | apply Kd.R_drew)); exact HO_2.out, by repeat (first | (with_reducible first | exact HI0.out | apply IsS53.alloc | apply IsS53.drewN | apply IsS53.drew | apply IsS53.set_1 | apply IsS53.set_2) | exact HI0.out), by repeat (first | (with_reducible first | exact HB.out | apply below_alloc | apply pw_below_drewN | apply below_drew1 | refine below_set ?_ (IsS53.ge HI0.out)) | exact HB.out), by repeat (first | (with_reducible first | exact HK.out | apply KeepBut.set_ | apply keep_drewN | apply keep_drew | apply keep_alloc) | exact HK.out)⟩
 replace c5 := Bool.eq_false_iff.mpr c5
 subst c5
 have H1 : ((code_place_number.f k1 s0_0 x1001_1 false).bind fun bt131 => (if x2_1.length < 17592186044416 then (code_place_labels.l0 k1 (x2_1 ++ [bt131.1]) (wrap64 (x3_1 - 1)) s0_0 bt131.2.1 bt131.2.2) else (none))) = some (r1, r2, r3) := by rw [if_neg (show ¬ (false = true) by decide)] at H; exact H
 clear H
 have H := H1
 clear H1
 replace H := bm_ H
 obtain ⟨⟨t131, t132, t133⟩, A70, H⟩ := H
 replace H : (if x2_1.length < 17592186044416 then (code_place_labels.l0 k1 (x2_1 ++ [t131]) (wrap64 (x3_1 - 1)) s0_0 t132 t133) else (none)) = some (r1, r2, r3) := H
 have A7 := am_ A70
 clear A70
 by_cases c8 : x2_1.length < 17592186044416
 rotate_left
 ·rw [if_neg c8] at H
  exact absurd H (by simp)
 rw [if_pos c8] at H
 have LMc8 := am_ c8
 clear c8
 obtain ⟨y134, hy134⟩ : ∃ y_ : List Int, y_ = (x2_1 ++ [t131]) := ⟨_, rfl⟩
 replace H : (code_place_labels.l0 k1 y134 (wrap64 (x3_1 - 1)) s0_0 t132 t133) = some (r1, r2, r3) := by first | (rw [hy134]; with_reducible exact H) | (have H2_ := (Option.bind_some _ _).symm.trans H; rw [hy134]; with_reducible exact H2_) | (have H2_ := (Option.bind_some _ _).symm.trans H; with_reducible exact H2_) | with_reducible exact H | (rw [hy134]; exact H) | exact H
 have Ny134 := am_ hy134
 clear hy134
 have H' := am_ H
 clear H
 obtain ⟨ASz9_0, cSz9_0, HGz9, hgz9, HSz9_0⟩ := HI0.out
 have hcz9_0 := cellS53_0 HGz9
 have hcz9_1 := cellS53_1 HGz9
 have hcz9_2 := cellS53_2 HGz9
 have hfz9_1 := blk_frozen HGz9 1
 have hfz9_2 := blk_frozen HGz9 2
 clear HGz9 hgz9
 go_wp2_with (first | ((with_reducible refine gate_callee (f := 48) rfl ?_); refine goesL_ (some 19) rfl rfl Try.func48 (by kernel_rfl) rfl #[.pointer (some ⟨g, 0, none⟩)] rfl (by (try simp only [List.map_toArray, List.map_cons, List.map_nil]); first | done | rfl | (simp only [List.length_drop, List.length_take]; rfl)) ?_; (with_reducible refine (code_place_number.calls k1 g s0_0 x1001_1 false t131 t132 t133 w0 _ ?side1 ?side2 A7.out).mono ?_); (case side1 => exact aa_1); (case side2 => exact aa_2); rintro e w10 ⟨rfl, hi, hb, hk⟩; refine ⟨_, rfl, ?_⟩; have n0_ := am_ (Kd.R_mono (Kd.R_keep (IsS53.apart (show IsS53 w0 _ g s0_0 x1001_1 false from by repeat (first | (with_reducible first | exact HI0.out | apply IsS53.alloc | apply IsS53.drewN | apply IsS53.drew | apply IsS53.set_1 | apply IsS53.set_2) | exact HI0.out)) (by (with_reducible repeat (first | apply Kd.R_alloc | apply Kd.R_drewN | apply Kd.R_drew)); exact HO_2.out) (by decide)) hk (fun _ h => h.2)) (fun _ h => h.1)); have n1_ := am_ (KeepBut.trans aa_0 hk (.inl rfl)); have n2_ := am_ (hb); have n3_ := am_ (hi); clear HO_2; clear HK; clear HB; clear HI0; have HO_2 := n0_; have HK := n1_; have HB := n2_; have HI0 := n3_; clear n0_ n1_ n2_ n3_; (try clear hb); (try clear hb2); (try clear hk); (try clear hi)) | ((with_reducible refine gate_builtin (b := .append) (xs := #[.tmp 17, .tmp 20]) rfl ?_); at_builtin; refine Kd.R_append (Kd.int .i64) w.heap.size rfl (.tmp 17) (.tmp 20) 43 3 (.int .i64 0) 8 rfl Try.underlying43 info3 rfl (by decide) (by omega) u2 x2_1 t131 [.int .i64 t131] (fun _ => True) (fun _ => False) rfl rfl ?aP (fun _ hk => hk.elim) ?aF ?aO (Below.refl _ _) ?aS ?aL ?_; (case aP => exact rfl); (case aF => exact (fun _ _ => trivial)); (case aO => exact (by (with_reducible repeat (first | apply Kd.R_alloc | apply Kd.R_drewN | apply Kd.R_drew)); exact HO_2.out)); (case aS => exact (keep_size (w := w) (g := g) (row := none) aa_0)); (case aL => have := LMc8.out; omega); intro v135 w11 ho hb hg hat; rw [← Ny134.out] at ho; have n0_ := am_ (IsS53.grown (by repeat (first | (with_reducible first | exact HI0.out | apply IsS53.alloc | apply IsS53.drewN | apply IsS53.drew | apply IsS53.set_1 | apply IsS53.set_2) | exact HI0.out)) hg (IsS53.own_ne HI0.out HO_2.out (by decide))); have n1_ := am_ (below_weaken (by repeat (first | (with_reducible first | exact HB.out | apply below_alloc | apply pw_below_drewN | apply below_drew1 | refine below_set ?_ (IsS53.ge HI0.out)) | exact HB.out)) HL.out hb); have n2_ := am_ (KeepBut.trans aa_0 (KeepBut.of_grown hg g) (Kd.R_base2 HO_2.out)); have n3_ := am_ (ho); clear HI0; clear HB; clear HK; clear HO_2; have HI0 := n0_; have HB := n1_; have HK := n2_; have HO136 := n3_; clear n0_ n1_ n2_ n3_; clear ho hb hg hat))
 go_roundg k1
 case measure => have := HK1.out; omega
 case rel => exact ⟨(y134), (wrap64 (x3_1 - 1)), (t132), (t133), (by first | rfl | (simp; done) | (simp [*]; done)), H', ⟨by have := HK1.out; omega⟩, ⟨by (with_reducible repeat (first | apply Kd.R_alloc | apply Kd.R_drewN | apply Kd.R_drew)); exact HO136.out⟩, ⟨aa_1⟩, ⟨aa_0⟩, ⟨aa_2⟩⟩
end Go.Proofs.Ytlahigmoljflkaa.PAll
