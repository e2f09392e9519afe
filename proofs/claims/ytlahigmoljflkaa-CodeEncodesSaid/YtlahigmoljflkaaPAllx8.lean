import Derived.Test.YtlahigmoljflkaaPAllx0
namespace Go.Proofs.Ytlahigmoljflkaa.PAll
open Go.RowKit Go.Proofs.YtlahigmoljflkaaW.PrintWords Go.Proofs.YtlahigmoljflkaaW.PrintLast Go.Proofs.YtlahigmoljflkaaW.PrintMore
attribute [local go_sem] max2_int min2_int max_two min_two max_three min_three max_four min_four   -- for this text's walks alone
set_option linter.unusedVariables false
set_option linter.unusedSimpArgs false

theorem gangwayref5_shape.eb {α : Type} [BEq α] [LawfulBEq α] {a b : α} (h : a = b) : (a == b) = true ∧ (a != b) = false := ⟨beq_iff_eq.mpr h, bne_eq_false_iff_eq.mpr h⟩
theorem gangwayref5_shape.nb {α : Type} [BEq α] [LawfulBEq α] {a b : α} (h : ¬ a = b) : (a == b) = false ∧ (a != b) = true := ⟨beq_eq_false_iff_ne.mpr h, bne_iff_ne.mpr h⟩
mutual
def gangwayref5_shape.j0 : Nat → Int → Bool → Option (Int)
 | 0, _, _ => none
 | k + 1, x0, x3 => if x3 = true then (some 1) else (if x0 ≥ 2 then (gangwayref5_shape.j1 k x0 (decide (x0 ≤ 4))) else (gangwayref5_shape.j1 k x0 false))
def gangwayref5_shape.j1 : Nat → Int → Bool → Option (Int)
 | 0, _, _ => none
 | k + 1, x0, x22 => if x22 = true then (some 2) else (if x0 = 12 then (gangwayref5_shape.j2 k x0 true) else (if x0 = 13 then (gangwayref5_shape.j2 k x0 true) else (if x0 = 16 then (gangwayref5_shape.j2 k x0 true) else (if x0 ≥ 32 then (gangwayref5_shape.j2 k x0 (decide (x0 ≤ 36))) else (gangwayref5_shape.j2 k x0 false)))))
def gangwayref5_shape.j2 : Nat → Int → Bool → Option (Int)
 | 0, _, _ => none
 | k + 1, x0, x29 => if x29 = true then (some 3) else (if x0 = 14 then (some 4) else (if x0 = 17 then (some 5) else (if x0 = 40 then (gangwayref5_shape.j3 k x0 true) else (if x0 = 41 then (gangwayref5_shape.j3 k x0 true) else (if x0 ≥ 44 then (if x0 ≤ 55 then (gangwayref5_shape.j3 k x0 true) else (if x0 ≥ 58 then (gangwayref5_shape.j3 k x0 (decide (x0 ≤ 62))) else (gangwayref5_shape.j3 k x0 false))) else (if x0 ≥ 58 then (none) else (gangwayref5_shape.j3 k x0 false)))))))
def gangwayref5_shape.j3 : Nat → Int → Bool → Option (Int)
 | 0, _, _ => none
 | k + 1, x0, x54 => if x54 = true then (some 6) else (if x0 = 63 then (gangwayref5_shape.j4 k x0 true) else (gangwayref5_shape.j4 k x0 (x0 == 64)))
def gangwayref5_shape.j4 : Nat → Int → Bool → Option (Int)
 | 0, _, _ => none
 | k + 1, x0, x77 => if x77 = true then (some 7) else (if x0 = 65 then (some 8) else (if x0 = 66 then (some 9) else (if x0 ≥ 69 then (if x0 ≤ 90 then (some 1) else (if x0 ≥ 103 then (if x0 ≤ 138 then (some 1) else (if x0 = 167 then (some 1) else (if x0 = 172 then (some 1) else (if x0 = 173 then (some 1) else (some 0))))) else (if x0 = 167 then (none) else (if x0 = 172 then (none) else (if x0 = 173 then (none) else (some 0)))))) else (if x0 ≥ 103 then (none) else (if x0 = 167 then (none) else (if x0 = 172 then (none) else (if x0 = 173 then (none) else (some 0))))))))
end
def gangwayref5_shape.f (k : Nat) (a0 : Int) : Option (Int) := if a0 = 0 then (gangwayref5_shape.j0 k a0 true) else (if a0 = 1 then (gangwayref5_shape.j0 k a0 true) else (if a0 = 15 then (gangwayref5_shape.j0 k a0 true) else (if a0 = 26 then (gangwayref5_shape.j0 k a0 true) else (gangwayref5_shape.j0 k a0 (a0 == 27)))))
theorem gangwayref5_shape.mono_l : ∀ k, (∀ y0 y1, LeO (gangwayref5_shape.j0 k y0 y1) (gangwayref5_shape.j0 (k + 1) y0 y1)) ∧ (∀ y0 y1, LeO (gangwayref5_shape.j1 k y0 y1) (gangwayref5_shape.j1 (k + 1) y0 y1)) ∧ (∀ y0 y1, LeO (gangwayref5_shape.j2 k y0 y1) (gangwayref5_shape.j2 (k + 1) y0 y1)) ∧ (∀ y0 y1, LeO (gangwayref5_shape.j3 k y0 y1) (gangwayref5_shape.j3 (k + 1) y0 y1)) ∧ (∀ y0 y1, LeO (gangwayref5_shape.j4 k y0 y1) (gangwayref5_shape.j4 (k + 1) y0 y1))
 | 0 => ⟨fun _ _ r h => by simp [gangwayref5_shape.j0] at h, fun _ _ r h => by simp [gangwayref5_shape.j1] at h, fun _ _ r h => by simp [gangwayref5_shape.j2] at h, fun _ _ r h => by simp [gangwayref5_shape.j3] at h, fun _ _ r h => by simp [gangwayref5_shape.j4] at h⟩
 | k + 1 => by
  obtain ⟨ih0, ih1, ih2, ih3, ih4⟩ := gangwayref5_shape.mono_l k; refine ⟨?_, ?_, ?_, ?_, ?_⟩ <;> (intros; (first | unfold gangwayref5_shape.j0 | unfold gangwayref5_shape.j1 | unfold gangwayref5_shape.j2 | unfold gangwayref5_shape.j3 | unfold gangwayref5_shape.j4); repeat' first | (with_reducible apply ih0) | (with_reducible apply ih1) | (with_reducible apply ih2) | (with_reducible apply ih3) | (with_reducible apply ih4) | (with_reducible exact LeO.refl _) | (with_reducible exact LeO.none _) | (with_reducible refine LeO.ite ?_ ?_) | (with_reducible refine LeO.bind ?_ (fun _ => ?_)) | apply ih0 | apply ih1 | apply ih2 | apply ih3 | apply ih4 | exact LeO.none _ | refine LeO.ite ?_ ?_ | refine LeO.bind ?_ (fun _ => ?_))
theorem gangwayref5_shape.mono : ∀ a0 k, LeO (gangwayref5_shape.f k a0) (gangwayref5_shape.f (k + 1) a0) := by
 intro a0 k; obtain ⟨ih0, ih1, ih2, ih3, ih4⟩ := gangwayref5_shape.mono_l k
 unfold gangwayref5_shape.f
 repeat' first
   | (with_reducible apply ih0)
   | (with_reducible apply ih1)
   | (with_reducible apply ih2)
   | (with_reducible apply ih3)
   | (with_reducible apply ih4)
   | (with_reducible exact LeO.refl _)
   | (with_reducible exact LeO.none _)
   | (with_reducible refine LeO.ite ?_ ?_)
   | (with_reducible refine LeO.bind ?_ (fun _ => ?_))
   | apply ih0
   | apply ih1
   | apply ih2
   | apply ih3
   | apply ih4
   | exact LeO.none _
   | refine LeO.ite ?_ ?_
   | refine LeO.bind ?_ (fun _ => ?_)
theorem gangwayref5_shape.aa_0 {p : Prop} (h : p := by first | rfl | (simp; done) | (simp [*]; done)) : p := h
theorem gangwayref5_shape.am_ {p : Prop} (h : p) : Aside0 p := Aside0.mk h
set_option maxHeartbeats 8000000 in
set_option maxRecDepth 100000 in
theorem gangwayref5_shape.calls (k : Nat) (a0 : Int) (r : Int) (w : World) (h : gangwayref5_shape.f k a0 = some r) :
  Calls Try.prog 42 #[.int .i64 a0] w fun e w' => e = .returned (.int .i64 r) ∧ Drawn0 w w' := by
 have H : (if a0 = 0 then (j0 k a0 true) else (if a0 = 1 then (j0 k a0 true) else (if a0 = 15 then (j0 k a0 true) else (if a0 = 26 then (j0 k a0 true) else (j0 k a0 (a0 == 27)))))) = some r := h; clear h; have HC2 := am_ H; clear H; go_enter Try.func42, Try.ntmps42
 go_upto_region 1 with (fail)
 go_cut [3] (fun v3 wc => ∃ (kq : Nat) (x3_1 : Bool), v3 = .bool x3_1 ∧ Aside0 (j0 kq a0 x3_1 = some r) ∧ Aside0 (kq ≤ k) ∧ Drawn0 w wc)
 case first =>
  have H := HC2.out; clear HC2; by_cases c3 : a0 = 0
  ·rw [if_pos c3] at H; obtain ⟨c3b0, c3b1⟩ := eb c3; clear c3; (first | rw [c3b0] | (simp only [i64_w, i32_w]; rw [c3b0]) | skip); have H' := am_ H; clear H; go_wp2; go_meet
   case rel => exact ⟨_, (true), aa_0, H', ⟨by first | omega | exact Nat.le_refl _⟩, dr_⟩
  rw [if_neg c3] at H; obtain ⟨c3b0, c3b1⟩ := nb c3; (first | rw [c3b0] | (simp only [i64_w, i32_w]; rw [c3b0]) | skip); by_cases c4 : a0 = 1
  ·rw [if_pos c4] at H; obtain ⟨c4b0, c4b1⟩ := eb c4; clear c4; have H' := am_ H; clear H; go_wp2; go_meet
   case rel => exact ⟨_, (true), aa_0, H', ⟨by first | omega | exact Nat.le_refl _⟩, dr_⟩
  rw [if_neg c4] at H; obtain ⟨c4b0, c4b1⟩ := nb c4; by_cases c5 : a0 = 15
  ·rw [if_pos c5] at H; obtain ⟨c5b0, c5b1⟩ := eb c5; clear c5; have H' := am_ H; clear H; go_wp2; go_meet
   case rel => exact ⟨_, (true), aa_0, H', ⟨by first | omega | exact Nat.le_refl _⟩, dr_⟩
  rw [if_neg c5] at H; obtain ⟨c5b0, c5b1⟩ := nb c5; by_cases c6 : a0 = 26
  ·rw [if_pos c6] at H; obtain ⟨c6b0, c6b1⟩ := eb c6; clear c6; have H' := am_ H; clear H; go_wp2; go_meet
   case rel => exact ⟨_, (true), aa_0, H', ⟨by first | omega | exact Nat.le_refl _⟩, dr_⟩
  rw [if_neg c6] at H; obtain ⟨c6b0, c6b1⟩ := nb c6; have H' := am_ H; clear H; go_wp2; go_meet
  case rel => exact ⟨_, ((a0 == 27)), aa_0, H', ⟨by first | omega | exact Nat.le_refl _⟩, dr_⟩
 case rest =>
 clear HC2; obtain ⟨kq, x3_1, rfl, HA, HJ1, ⟨mc1, rfl⟩⟩ := hcut
 cases kq with
 | zero => exact absurd HA.out (by simp [j0])
 | succ kj1 =>
 have H := HA.out; clear HA; simp only [j0] at H; by_cases c7 : x3_1 = true
 ·subst c7; have H1 : (some 1) = some r := by rw [if_pos rfl] at H; exact H
  clear H; have H := H1; clear H1; obtain rfl := Option.some.inj H; go_wp2; go_ret; exact ⟨es_, dr_⟩
 replace c7 := Bool.eq_false_iff.mpr c7; subst c7; have H1 : (if a0 ≥ 2 then (j1 kj1 a0 (decide (a0 ≤ 4))) else (j1 kj1 a0 false)) = some r := by rw [if_neg (show ¬ (false = true) by decide)] at H; exact H
 clear H; have H := H1; clear H1; have HC8 := am_ H; clear H
 go_upto_region 3 with (fail)
 go_cut [22] (fun v22 wc => ∃ (kq : Nat) (x22_7 : Bool), v22 = .bool x22_7 ∧ Aside0 (j1 kq a0 x22_7 = some r) ∧ Aside0 (kq ≤ kj1) ∧ Drawn0 w wc)
 case first =>
  have H := HC8.out; clear HC8; by_cases c9 : a0 ≥ 2
  ·rw [if_pos c9] at H; have c9b0 : decide (2 ≤ a0) = true := decide_eq_true c9; clear c9; (first | rw [c9b0] | (simp only [i64_w, i32_w]; rw [c9b0]) | skip); have H' := am_ H; clear H; go_wp2; go_meet
   case rel => exact ⟨_, (decide (a0 ≤ 4)), aa_0, H', ⟨by have := HJ1.out; first | omega | exact Nat.le_refl _⟩, dr_⟩
  rw [if_neg c9] at H; have c9b0 : decide (2 ≤ a0) = false := decide_eq_false c9; clear c9; (first | rw [c9b0] | (simp only [i64_w, i32_w]; rw [c9b0]) | skip); have H' := am_ H; clear H; go_wp2; go_meet
  case rel => exact ⟨_, (false), aa_0, H', ⟨by have := HJ1.out; first | omega | exact Nat.le_refl _⟩, dr_⟩
 case rest =>
 clear HC8; (try clear c7); obtain ⟨kq, x22_7, rfl, HA, HJ7, ⟨mc7, rfl⟩⟩ := hcut
 cases kq with
 | zero => exact absurd HA.out (by simp [j1])
 | succ kj7 =>
 have H := HA.out; clear HA; simp only [j1] at H; by_cases c10 : x22_7 = true
 ·subst c10; have H1 : (some 2) = some r := by rw [if_pos rfl] at H; exact H
  clear H; have H := H1; clear H1; obtain rfl := Option.some.inj H; go_wp2; go_ret; exact ⟨es_, dr_⟩
 replace c10 := Bool.eq_false_iff.mpr c10; subst c10; have H1 : (if a0 = 12 then (j2 kj7 a0 true) else (if a0 = 13 then (j2 kj7 a0 true) else (if a0 = 16 then (j2 kj7 a0 true) else (if a0 ≥ 32 then (j2 kj7 a0 (decide (a0 ≤ 36))) else (j2 kj7 a0 false))))) = some r := by rw [if_neg (show ¬ (false = true) by decide)] at H; exact H
 clear H; have H := H1; clear H1; have HC11 := am_ H; clear H
 go_upto_region 5 with (fail)
 go_cut [29] (fun v29 wc => ∃ (kq : Nat) (x29_10 : Bool), v29 = .bool x29_10 ∧ Aside0 (j2 kq a0 x29_10 = some r) ∧ Aside0 (kq ≤ kj7) ∧ Drawn0 w wc)
 case first =>
  have H := HC11.out; clear HC11; by_cases c12 : a0 = 12
  ·rw [if_pos c12] at H; obtain ⟨c12b0, c12b1⟩ := eb c12; clear c12; (first | rw [c12b0] | (simp only [i64_w, i32_w]; rw [c12b0]) | skip); have H' := am_ H; clear H; go_wp2; go_meet
   case rel => exact ⟨_, (true), aa_0, H', ⟨by have := HJ1.out; have := HJ7.out; first | omega | exact Nat.le_refl _⟩, dr_⟩
  rw [if_neg c12] at H; obtain ⟨c12b0, c12b1⟩ := nb c12; (first | rw [c12b0] | (simp only [i64_w, i32_w]; rw [c12b0]) | skip); by_cases c13 : a0 = 13
  ·rw [if_pos c13] at H; obtain ⟨c13b0, c13b1⟩ := eb c13; clear c13; have H' := am_ H; clear H; go_wp2; go_meet
   case rel => exact ⟨_, (true), aa_0, H', ⟨by have := HJ1.out; have := HJ7.out; first | omega | exact Nat.le_refl _⟩, dr_⟩
  rw [if_neg c13] at H; obtain ⟨c13b0, c13b1⟩ := nb c13; by_cases c14 : a0 = 16
  ·rw [if_pos c14] at H; obtain ⟨c14b0, c14b1⟩ := eb c14; clear c14; have H' := am_ H; clear H; go_wp2; go_meet
   case rel => exact ⟨_, (true), aa_0, H', ⟨by have := HJ1.out; have := HJ7.out; first | omega | exact Nat.le_refl _⟩, dr_⟩
  rw [if_neg c14] at H; obtain ⟨c14b0, c14b1⟩ := nb c14; by_cases c15 : a0 ≥ 32
  ·rw [if_pos c15] at H; have c15b0 : decide (32 ≤ a0) = true := decide_eq_true c15; clear c15; have H' := am_ H; clear H; go_wp2; go_meet
   case rel => exact ⟨_, (decide (a0 ≤ 36)), aa_0, H', ⟨by have := HJ1.out; have := HJ7.out; first | omega | exact Nat.le_refl _⟩, dr_⟩
  rw [if_neg c15] at H; have c15b0 : decide (32 ≤ a0) = false := decide_eq_false c15; clear c15; have H' := am_ H; clear H; go_wp2; go_meet
  case rel => exact ⟨_, (false), aa_0, H', ⟨by have := HJ1.out; have := HJ7.out; first | omega | exact Nat.le_refl _⟩, dr_⟩
 case rest =>
 clear HC11; (try clear c10); obtain ⟨kq, x29_10, rfl, HA, HJ10, ⟨mc10, rfl⟩⟩ := hcut
 cases kq with
 | zero => exact absurd HA.out (by simp [j2])
 | succ kj10 =>
 have H := HA.out; clear HA; simp only [j2] at H; by_cases c16 : x29_10 = true
 ·subst c16; have H1 : (some 3) = some r := by rw [if_pos rfl] at H; exact H
  clear H; have H := H1; clear H1; obtain rfl := Option.some.inj H; go_wp2; go_ret; exact ⟨es_, dr_⟩
 replace c16 := Bool.eq_false_iff.mpr c16; subst c16; have H1 : (if a0 = 14 then (some 4) else (if a0 = 17 then (some 5) else (if a0 = 40 then (j3 kj10 a0 true) else (if a0 = 41 then (j3 kj10 a0 true) else (if a0 ≥ 44 then (if a0 ≤ 55 then (j3 kj10 a0 true) else (if a0 ≥ 58 then (j3 kj10 a0 (decide (a0 ≤ 62))) else (j3 kj10 a0 false))) else (if a0 ≥ 58 then (none) else (j3 kj10 a0 false))))))) = some r := by rw [if_neg (show ¬ (false = true) by decide)] at H; exact H
 clear H; have H := H1; clear H1; by_cases c17 : a0 = 14
 ·rw [if_pos c17] at H; obtain ⟨c17b0, c17b1⟩ := eb c17; clear c17; obtain rfl := Option.some.inj H; go_wp2; go_ret; exact ⟨es_, dr_⟩
 rw [if_neg c17] at H; obtain ⟨c17b0, c17b1⟩ := nb c17; by_cases c18 : a0 = 17
 ·rw [if_pos c18] at H; obtain ⟨c18b0, c18b1⟩ := eb c18; clear c18; obtain rfl := Option.some.inj H; go_wp2; go_ret; exact ⟨es_, dr_⟩
 rw [if_neg c18] at H; obtain ⟨c18b0, c18b1⟩ := nb c18; have HC19 := am_ H; clear H
 go_upto_region 11 with (fail)
 go_cut [54] (fun v54 wc => ∃ (kq : Nat) (x54_18 : Bool), v54 = .bool x54_18 ∧ Aside0 (j3 kq a0 x54_18 = some r) ∧ Aside0 (kq ≤ kj10) ∧ Drawn0 w wc)
 case first =>
  have H := HC19.out; clear HC19; by_cases c20 : a0 = 40
  ·rw [if_pos c20] at H; obtain ⟨c20b0, c20b1⟩ := eb c20; clear c20; (first | rw [c20b0] | (simp only [i64_w, i32_w]; rw [c20b0]) | skip); have H' := am_ H; clear H; go_wp2; go_meet
   case rel => exact ⟨_, (true), aa_0, H', ⟨by have := HJ1.out; have := HJ7.out; have := HJ10.out; first | omega | exact Nat.le_refl _⟩, dr_⟩
  rw [if_neg c20] at H; obtain ⟨c20b0, c20b1⟩ := nb c20; (first | rw [c20b0] | (simp only [i64_w, i32_w]; rw [c20b0]) | skip); by_cases c21 : a0 = 41
  ·rw [if_pos c21] at H; obtain ⟨c21b0, c21b1⟩ := eb c21; clear c21; have H' := am_ H; clear H; go_wp2; go_meet
   case rel => exact ⟨_, (true), aa_0, H', ⟨by have := HJ1.out; have := HJ7.out; have := HJ10.out; first | omega | exact Nat.le_refl _⟩, dr_⟩
  rw [if_neg c21] at H; obtain ⟨c21b0, c21b1⟩ := nb c21; by_cases c22 : a0 ≥ 44
  rotate_left
  ·rw [if_neg c22] at H; have c22b0 : decide (44 ≤ a0) = false := decide_eq_false c22; clear c22; by_cases c25 : a0 ≥ 58
   ·rw [if_pos c25] at H; exact absurd H (by simp)
   rw [if_neg c25] at H; have c25b0 : decide (58 ≤ a0) = false := decide_eq_false c25; clear c25; have H' := am_ H; clear H; go_wp2; go_meet
   case rel => exact ⟨_, (false), aa_0, H', ⟨by have := HJ1.out; have := HJ7.out; have := HJ10.out; first | omega | exact Nat.le_refl _⟩, dr_⟩
  rw [if_pos c22] at H; have c22b0 : decide (44 ≤ a0) = true := decide_eq_true c22; clear c22; by_cases c23 : a0 ≤ 55
  ·rw [if_pos c23] at H; have c23b0 : decide (a0 ≤ 55) = true := decide_eq_true c23; clear c23; have H' := am_ H; clear H; go_wp2; go_meet
   case rel => exact ⟨_, (true), aa_0, H', ⟨by have := HJ1.out; have := HJ7.out; have := HJ10.out; first | omega | exact Nat.le_refl _⟩, dr_⟩
  rw [if_neg c23] at H; have c23b0 : decide (a0 ≤ 55) = false := decide_eq_false c23; clear c23; by_cases c24 : a0 ≥ 58
  ·rw [if_pos c24] at H; have c24b0 : decide (58 ≤ a0) = true := decide_eq_true c24; clear c24; have H' := am_ H; clear H; go_wp2; go_meet
   case rel => exact ⟨_, (decide (a0 ≤ 62)), aa_0, H', ⟨by have := HJ1.out; have := HJ7.out; have := HJ10.out; first | omega | exact Nat.le_refl _⟩, dr_⟩
  rw [if_neg c24] at H; have c24b0 : decide (58 ≤ a0) = false := decide_eq_false c24; clear c24; have H' := am_ H; clear H; go_wp2; go_meet
  case rel => exact ⟨_, (false), aa_0, H', ⟨by have := HJ1.out; have := HJ7.out; have := HJ10.out; first | omega | exact Nat.le_refl _⟩, dr_⟩
 case rest =>
 clear HC19; (try clear c16); (try clear c17); (try clear c17b0); (try clear c17b1); (try clear c18); (try clear c18b0); (try clear c18b1); obtain ⟨kq, x54_18, rfl, HA, HJ18, ⟨mc18, rfl⟩⟩ := hcut
 cases kq with
 | zero => exact absurd HA.out (by simp [j3])
 | succ kj18 =>
 have H := HA.out; clear HA; simp only [j3] at H; by_cases c26 : x54_18 = true
 ·subst c26; have H1 : (some 6) = some r := by rw [if_pos rfl] at H; exact H
  clear H; have H := H1; clear H1; obtain rfl := Option.some.inj H; go_wp2; go_ret; exact ⟨es_, dr_⟩
 replace c26 := Bool.eq_false_iff.mpr c26; subst c26; have H1 : (if a0 = 63 then (j4 kj18 a0 true) else (j4 kj18 a0 (a0 == 64))) = some r := by rw [if_neg (show ¬ (false = true) by decide)] at H; exact H
 clear H; have H := H1; clear H1; have HC27 := am_ H; clear H
 go_upto_region 13 with (fail)
 go_cut [77] (fun v77 wc => ∃ (kq : Nat) (x77_26 : Bool), v77 = .bool x77_26 ∧ Aside0 (j4 kq a0 x77_26 = some r) ∧ Aside0 (kq ≤ kj18) ∧ Drawn0 w wc)
 case first =>
  have H := HC27.out; clear HC27; by_cases c28 : a0 = 63
  ·rw [if_pos c28] at H; obtain ⟨c28b0, c28b1⟩ := eb c28; clear c28; (first | rw [c28b0] | (simp only [i64_w, i32_w]; rw [c28b0]) | skip); have H' := am_ H; clear H; go_wp2; go_meet
   case rel => exact ⟨_, (true), aa_0, H', ⟨by have := HJ1.out; have := HJ7.out; have := HJ10.out; have := HJ18.out; first | omega | exact Nat.le_refl _⟩, dr_⟩
  rw [if_neg c28] at H; obtain ⟨c28b0, c28b1⟩ := nb c28; (first | rw [c28b0] | (simp only [i64_w, i32_w]; rw [c28b0]) | skip); have H' := am_ H; clear H; go_wp2; go_meet
  case rel => exact ⟨_, ((a0 == 64)), aa_0, H', ⟨by have := HJ1.out; have := HJ7.out; have := HJ10.out; have := HJ18.out; first | omega | exact Nat.le_refl _⟩, dr_⟩
 case rest =>
 clear HC27; (try clear c26); obtain ⟨kq, x77_26, rfl, HA, HJ26, ⟨mc26, rfl⟩⟩ := hcut
 cases kq with
 | zero => exact absurd HA.out (by simp [j4])
 | succ kj26 =>
 have H := HA.out; clear HA; simp only [j4] at H; by_cases c29 : x77_26 = true
 ·subst c29; have H1 : (some 7) = some r := by rw [if_pos rfl] at H; exact H
  clear H; have H := H1; clear H1; obtain rfl := Option.some.inj H; go_wp2; go_ret; exact ⟨es_, dr_⟩
 replace c29 := Bool.eq_false_iff.mpr c29; subst c29; have H1 : (if a0 = 65 then (some 8) else (if a0 = 66 then (some 9) else (if a0 ≥ 69 then (if a0 ≤ 90 then (some 1) else (if a0 ≥ 103 then (if a0 ≤ 138 then (some 1) else (if a0 = 167 then (some 1) else (if a0 = 172 then (some 1) else (if a0 = 173 then (some 1) else (some 0))))) else (if a0 = 167 then (none) else (if a0 = 172 then (none) else (if a0 = 173 then (none) else (some 0)))))) else (if a0 ≥ 103 then (none) else (if a0 = 167 then (none) else (if a0 = 172 then (none) else (if a0 = 173 then (none) else (some 0)))))))) = some r := by rw [if_neg (show ¬ (false = true) by decide)] at H; exact H
 clear H; have H := H1; clear H1; by_cases c30 : a0 = 65
 ·rw [if_pos c30] at H; obtain ⟨c30b0, c30b1⟩ := eb c30; clear c30; obtain rfl := Option.some.inj H; go_wp2; go_ret; exact ⟨es_, dr_⟩
 rw [if_neg c30] at H; obtain ⟨c30b0, c30b1⟩ := nb c30; by_cases c31 : a0 = 66
 ·rw [if_pos c31] at H; obtain ⟨c31b0, c31b1⟩ := eb c31; clear c31; obtain rfl := Option.some.inj H; go_wp2; go_ret; exact ⟨es_, dr_⟩
 rw [if_neg c31] at H; obtain ⟨c31b0, c31b1⟩ := nb c31; by_cases c32 : a0 ≥ 69
 rotate_left
 ·rw [if_neg c32] at H; have c32b0 : decide (69 ≤ a0) = false := decide_eq_false c32; clear c32; by_cases c42 : a0 ≥ 103
  ·rw [if_pos c42] at H; exact absurd H (by simp)
  rw [if_neg c42] at H; have c42b0 : decide (103 ≤ a0) = false := decide_eq_false c42; clear c42; by_cases c43 : a0 = 167
  ·rw [if_pos c43] at H; exact absurd H (by simp)
  rw [if_neg c43] at H; obtain ⟨c43b0, c43b1⟩ := nb c43; by_cases c44 : a0 = 172
  ·rw [if_pos c44] at H; exact absurd H (by simp)
  rw [if_neg c44] at H; obtain ⟨c44b0, c44b1⟩ := nb c44; by_cases c45 : a0 = 173
  ·rw [if_pos c45] at H; exact absurd H (by simp)
  rw [if_neg c45] at H; obtain ⟨c45b0, c45b1⟩ := nb c45; obtain rfl := Option.some.inj H; go_wp2; go_ret; exact ⟨es_, dr_⟩
 rw [if_pos c32] at H; have c32b0 : decide (69 ≤ a0) = true := decide_eq_true c32; clear c32; by_cases c33 : a0 ≤ 90
 ·rw [if_pos c33] at H; have c33b0 : decide (a0 ≤ 90) = true := decide_eq_true c33; clear c33; obtain rfl := Option.some.inj H; go_wp2; go_ret; exact ⟨es_, dr_⟩
 rw [if_neg c33] at H; have c33b0 : decide (a0 ≤ 90) = false := decide_eq_false c33; clear c33; by_cases c34 : a0 ≥ 103
 rotate_left
 ·rw [if_neg c34] at H; have c34b0 : decide (103 ≤ a0) = false := decide_eq_false c34; clear c34; by_cases c39 : a0 = 167
  ·rw [if_pos c39] at H; exact absurd H (by simp)
  rw [if_neg c39] at H; obtain ⟨c39b0, c39b1⟩ := nb c39; by_cases c40 : a0 = 172
  ·rw [if_pos c40] at H; exact absurd H (by simp)
  rw [if_neg c40] at H; obtain ⟨c40b0, c40b1⟩ := nb c40; by_cases c41 : a0 = 173
  ·rw [if_pos c41] at H; exact absurd H (by simp)
  rw [if_neg c41] at H; obtain ⟨c41b0, c41b1⟩ := nb c41; obtain rfl := Option.some.inj H; go_wp2; go_ret; exact ⟨es_, dr_⟩
 rw [if_pos c34] at H; have c34b0 : decide (103 ≤ a0) = true := decide_eq_true c34; clear c34; by_cases c35 : a0 ≤ 138
 ·rw [if_pos c35] at H; have c35b0 : decide (a0 ≤ 138) = true := decide_eq_true c35; clear c35; obtain rfl := Option.some.inj H; go_wp2; go_ret; exact ⟨es_, dr_⟩
 rw [if_neg c35] at H; have c35b0 : decide (a0 ≤ 138) = false := decide_eq_false c35; clear c35; by_cases c36 : a0 = 167
 ·rw [if_pos c36] at H; obtain ⟨c36b0, c36b1⟩ := eb c36; clear c36; obtain rfl := Option.some.inj H; go_wp2; go_ret; exact ⟨es_, dr_⟩
 rw [if_neg c36] at H; obtain ⟨c36b0, c36b1⟩ := nb c36; by_cases c37 : a0 = 172
 ·rw [if_pos c37] at H; obtain ⟨c37b0, c37b1⟩ := eb c37; clear c37; obtain rfl := Option.some.inj H; go_wp2; go_ret; exact ⟨es_, dr_⟩
 rw [if_neg c37] at H; obtain ⟨c37b0, c37b1⟩ := nb c37; by_cases c38 : a0 = 173
 ·rw [if_pos c38] at H; obtain ⟨c38b0, c38b1⟩ := eb c38; clear c38; obtain rfl := Option.some.inj H; go_wp2; go_ret; exact ⟨es_, dr_⟩
 rw [if_neg c38] at H; obtain ⟨c38b0, c38b1⟩ := nb c38; obtain rfl := Option.some.inj H; go_wp2; go_ret; exact ⟨es_, dr_⟩
end Go.Proofs.Ytlahigmoljflkaa.PAll
