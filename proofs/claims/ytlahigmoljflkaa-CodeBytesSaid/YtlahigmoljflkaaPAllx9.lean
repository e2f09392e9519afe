/- Printed by a copy of the printer that was turned for this claim: functions as plain Lean functions, with proofs that their calls come to these; or words that such proofs use. -/
import Derived.Test.YtlahigmoljflkaaPAllx0
import Derived.Test.YtlahigmoljflkaaPAllx8
namespace Go.Proofs.Ytlahigmoljflkaa.PAll
open Go.RowKit Go.Proofs.YtlahigmoljflkaaW.PrintWords Go.Proofs.YtlahigmoljflkaaW.PrintLast Go.Proofs.YtlahigmoljflkaaW.PrintMore
attribute [local go_sem] max2_int min2_int max_two min_two max_three min_three max_four min_four   -- for this text's walks alone
set_option linter.unusedVariables false
set_option linter.unusedSimpArgs false

mutual
def gangwayref1_size.l0 : Nat → List Int → Int → Int → Option (Int)
  | 0, _, _, _ => none
  | k + 1, x0, x1, x5 => if x5 < (x0.length : Int) then ((gangwayref1_most.f x1).bind fun t240 => (gangwayref1_size.j1 k x0 x1 x5 (decide (x5 < t240)))) else (gangwayref1_size.j1 k x0 x1 x5 false)
def gangwayref1_size.j1 : Nat → List Int → Int → Int → Bool → Option (Int)
  | 0, _, _, _, _ => none
  | k + 1, x0, x1, x5, x15 => if x15 = true then (if 0 ≤ x5 then (if x5 < (x0.length : Int) then (if (rd x0 x5) < 128 then (some (wrap64 (x5 + 1))) else (gangwayref1_size.l0 k x0 x1 (wrap64 (x5 + 1)))) else (none)) else (none)) else (some 0)
end
def gangwayref1_size.f (k : Nat) (l0 : List Int) (a1 : Int) : Option (Int) := gangwayref1_size.l0 k l0 a1 0
theorem gangwayref1_size.mono_l : ∀ k, (∀ y0 y1 y2, LeO (gangwayref1_size.l0 k y0 y1 y2) (gangwayref1_size.l0 (k + 1) y0 y1 y2)) ∧ (∀ y0 y1 y2 y3, LeO (gangwayref1_size.j1 k y0 y1 y2 y3) (gangwayref1_size.j1 (k + 1) y0 y1 y2 y3))
  | 0 => ⟨fun _ _ _ r h => by simp [gangwayref1_size.l0] at h, fun _ _ _ _ r h => by simp [gangwayref1_size.j1] at h⟩
  | k + 1 => by
    obtain ⟨ih0, ih1⟩ := gangwayref1_size.mono_l k
    refine ⟨?_, ?_⟩
    · intro y0 y1 y2
      unfold gangwayref1_size.l0
      repeat' first
      | (with_reducible exact ih0 _ _ _)
      | (with_reducible exact ih1 _ _ _ _)
      | (with_reducible exact LeO.refl _)
      | (with_reducible exact LeO.none _)
      | (with_reducible refine LeO.ite ?_ ?_)
      | (with_reducible refine LeO.bind ?_ (fun _ => ?_))
      | exact ih0 _ _ _
      | exact ih1 _ _ _ _
      | exact LeO.none _
      | refine LeO.ite ?_ ?_
      | refine LeO.bind ?_ (fun _ => ?_)
    · intro y0 y1 y2 y3
      unfold gangwayref1_size.j1
      repeat' first
      | (with_reducible exact ih0 _ _ _)
      | (with_reducible exact ih1 _ _ _ _)
      | (with_reducible exact LeO.refl _)
      | (with_reducible exact LeO.none _)
      | (with_reducible refine LeO.ite ?_ ?_)
      | (with_reducible refine LeO.bind ?_ (fun _ => ?_))
      | exact ih0 _ _ _
      | exact ih1 _ _ _ _
      | exact LeO.none _
      | refine LeO.ite ?_ ?_
      | refine LeO.bind ?_ (fun _ => ?_)
theorem gangwayref1_size.mono : ∀ a0 a1 k, LeO (gangwayref1_size.f k a0 a1) (gangwayref1_size.f (k + 1) a0 a1) := by
  intro a0 a1 k
  obtain ⟨ih0, ih1⟩ := gangwayref1_size.mono_l k
  unfold gangwayref1_size.f
  repeat' first
      | (with_reducible exact ih0 _ _ _)
      | (with_reducible exact ih1 _ _ _ _)
      | (with_reducible exact LeO.refl _)
      | (with_reducible exact LeO.none _)
      | (with_reducible refine LeO.ite ?_ ?_)
      | (with_reducible refine LeO.bind ?_ (fun _ => ?_))
      | exact ih0 _ _ _
      | exact ih1 _ _ _ _
      | exact LeO.none _
      | refine LeO.ite ?_ ?_
      | refine LeO.bind ?_ (fun _ => ?_)
set_option maxHeartbeats 8000000 in
set_option maxRecDepth 100000 in
theorem gangwayref1_size.calls (k : Nat) (A0 : Option Addr) (c0 : Nat) (l0 : List Int) (a1 : Int) (r : Int) (w : World) (hr0 : Kd.C (Kd.int .u8) w A0 l0.length l0) (hc0 : l0.length ≤ c0) (h : gangwayref1_size.f k l0 a1 = some r) :
    Calls Try.prog 73 #[.slice A0 l0.length c0, .int .i64 a1] w fun e w' => e = .returned (.int .i64 r) ∧ Drawn0 w w' := by
  have HR0 := Aside0.mk hr0
  have HC0 := Aside0.mk hc0
  clear hr0 hc0
  have H : (gangwayref1_size.l0 k l0 a1 0) = some r := h
  clear h
  have H' := Aside0.mk H
  clear H
  go_enter Try.func73, Try.ntmps73
  go_wp2
  go_loopg [5] k (fun kq v5 w' => ∃ (x5_1 : Int), v5 = .int .i64 x5_1 ∧ Aside0 (gangwayref1_size.l0 kq l0 a1 x5_1 = some r) ∧ Aside0 (kq ≤ k) ∧ Drawn0 w w')
  case atStart => exact ⟨(0), (by first | rfl | (simp; done) | (simp [*]; done)), H', ⟨Nat.le_refl _⟩, by repeat (first | exact Drawn0.refl _ | apply Drawn0.step)⟩
  case round =>
    clear H'
    try clear p2
    obtain ⟨x5_1, rfl, HA, HK1, ⟨m1, rfl⟩⟩ := hrel
    cases gk with
    | zero => exact absurd HA.out (by simp [gangwayref1_size.l0])
    | succ k1 =>
      have H := HA.out
      clear HA
      simp only [gangwayref1_size.l0] at H
      have HC3 := Aside0.mk H
      clear H
      go_upto_region 2 with (fail)
      go_cut [15] (fun v15 wc => ∃ (kq : Nat) (x15_2 : Bool), v15 = .bool x15_2 ∧ Aside0 (gangwayref1_size.j1 kq l0 a1 x5_1 x15_2 = some r) ∧ Aside0 (kq ≤ k1) ∧ Drawn0 w wc)
      case first =>
        have H := HC3.out
        clear HC3
        by_cases c4 : x5_1 < (l0.length : Int)
        · rw [if_pos c4] at H
          have c4b0 : decide (x5_1 < (l0.length : Int)) = true := decide_eq_true c4
          clear c4
          (first | rw [c4b0] | (simp only [i64_w, i32_w]; rw [c4b0]) | skip)
          replace H := Option.bind_eq_some_iff.mp H
          obtain ⟨t240, A50, H⟩ := H
          replace H : (gangwayref1_size.j1 k1 l0 a1 x5_1 (decide (x5_1 < t240))) = some r := H
          have A5 := Aside0.mk A50
          clear A50
          have H' := Aside0.mk H
          clear H
          go_wp2_with (first | (go_at_call 76; (with_reducible refine (gangwayref1_most.calls a1 t240 _ A5.out).mono ?_); rintro e w' ⟨rfl, ⟨nd, rfl⟩⟩))
          go_meet
          case rel => exact ⟨_, (decide (x5_1 < t240)), (by first | rfl | (simp; done) | (simp [*]; done)), H', ⟨by have := HK1.out; first | omega | exact Nat.le_refl _⟩, by repeat (first | exact Drawn0.refl _ | apply Drawn0.step)⟩
        · rw [if_neg c4] at H
          have c4b0 : decide (x5_1 < (l0.length : Int)) = false := decide_eq_false c4
          clear c4
          (first | rw [c4b0] | (simp only [i64_w, i32_w]; rw [c4b0]) | skip)
          have H' := Aside0.mk H
          clear H
          go_wp2
          go_meet
          case rel => exact ⟨_, (false), (by first | rfl | (simp; done) | (simp [*]; done)), H', ⟨by have := HK1.out; first | omega | exact Nat.le_refl _⟩, by repeat (first | exact Drawn0.refl _ | apply Drawn0.step)⟩
      case rest =>
        clear HC3
        try clear p2
        try clear c4
        try clear c4b0
        try clear p2
        obtain ⟨kq, x15_2, rfl, HA, HJ2, ⟨mc2, rfl⟩⟩ := hcut
        cases kq with
        | zero => exact absurd HA.out (by simp [gangwayref1_size.j1])
        | succ kj2 =>
          have H := HA.out
          clear HA
          simp only [gangwayref1_size.j1] at H
          by_cases c6 : x15_2 = true
          · subst c6
            have H1 : (if 0 ≤ x5_1 then (if x5_1 < (l0.length : Int) then (if (rd l0 x5_1) < 128 then (some (wrap64 (x5_1 + 1))) else (gangwayref1_size.l0 kj2 l0 a1 (wrap64 (x5_1 + 1)))) else (none)) else (none)) = some r := by rw [if_pos rfl] at H; exact H
            clear H
            have H := H1
            clear H1
            by_cases c7 : 0 ≤ x5_1
            · rw [if_pos c7] at H
              have c7b0 : decide (0 ≤ x5_1) = true := decide_eq_true c7
              clear c7
              by_cases c8 : x5_1 < (l0.length : Int)
              · rw [if_pos c8] at H
                have c8b0 : decide (x5_1 < (l0.length : Int)) = true := decide_eq_true c8
                clear c8
                by_cases c9 : (rd l0 x5_1) < 128
                · rw [if_pos c9] at H
                  have c9b0 : decide ((rd l0 x5_1) < 128) = true := decide_eq_true c9
                  clear c9
                  obtain rfl := Option.some.inj H
                  have p241 : 0 ≤ (x5_1 : Int) := of_decide_eq_true (by first | (with_reducible assumption) | assumption)
                  have q241 : x5_1 < (l0.length : Int) := of_decide_eq_true (by first | (with_reducible assumption) | assumption)
                  obtain ⟨ad241, e241, hx241_0⟩ := Kd.at_int HR0.out x5_1 p241 q241
                  cases e241
                  replace p241 := eq_true p241
                  replace q241 := eq_true q241
                  go_wp2
                  go_ret
                  exact ⟨by first | rfl | (simp; done) | (simp [*]; done), by repeat (first | exact Drawn0.refl _ | apply Drawn0.step)⟩
                · rw [if_neg c9] at H
                  have c9b0 : decide ((rd l0 x5_1) < 128) = false := decide_eq_false c9
                  clear c9
                  have H' := Aside0.mk H
                  clear H
                  have p241 : 0 ≤ (x5_1 : Int) := of_decide_eq_true (by first | (with_reducible assumption) | assumption)
                  have q241 : x5_1 < (l0.length : Int) := of_decide_eq_true (by first | (with_reducible assumption) | assumption)
                  obtain ⟨ad241, e241, hx241_0⟩ := Kd.at_int HR0.out x5_1 p241 q241
                  cases e241
                  replace p241 := eq_true p241
                  replace q241 := eq_true q241
                  go_wp2
                  go_roundg kj2
                  case measure => have := HK1.out; have := HJ2.out; omega
                  case rel => exact ⟨(wrap64 (x5_1 + 1)), (by first | rfl | (simp; done) | (simp [*]; done)), H', ⟨by have := HK1.out; have := HJ2.out; omega⟩, by repeat (first | exact Drawn0.refl _ | apply Drawn0.step)⟩
              · rw [if_neg c8] at H
                exact absurd H (by simp)
            · rw [if_neg c7] at H
              exact absurd H (by simp)
          · replace c6 := Bool.eq_false_iff.mpr c6
            subst c6
            have H1 : (some 0) = some r := by rw [if_neg (show ¬ (false = true) by decide)] at H; exact H
            clear H
            have H := H1
            clear H1
            obtain rfl := Option.some.inj H
            go_wp2
            go_ret
            exact ⟨by first | rfl | (simp; done) | (simp [*]; done), by repeat (first | exact Drawn0.refl _ | apply Drawn0.step)⟩

theorem gangwayref1_Uint.eb {α : Type} [BEq α] [LawfulBEq α] {a b : α} (h : a = b) : (a == b) = true ∧ (a != b) = false := ⟨beq_iff_eq.mpr h, bne_eq_false_iff_eq.mpr h⟩
theorem gangwayref1_Uint.nb {α : Type} [BEq α] [LawfulBEq α] {a b : α} (h : ¬ a = b) : (a == b) = false ∧ (a != b) = true := ⟨beq_eq_false_iff_ne.mpr h, bne_iff_ne.mpr h⟩
def gangwayref1_Uint.l0 : Nat → List Int → Int → Int → Int → Int → Option (Int × Int)
 | 0, _, _, _, _, _ => none
 | k + 1, x0, x1, x6, x7, x8 => if x8 < x6 then (if 0 ≤ x8 then (if x8 < (x0.length : Int) then (if (wrap64 (7 * x8)) < 64 then (if (wrap64 (7 * x8)) > 57 then (if 0 ≤ (wrap64 (64 - (wrap64 (7 * x8)))) then (if (shr .u64 (IntKind.u64.wrap (Int.tmod (rd x0 x8) 128)) (wrap64 (64 - (wrap64 (7 * x8))))) = 0 then (if 0 ≤ (wrap64 (7 * x8)) then (gangwayref1_Uint.l0 k x0 x1 x6 (Go.bits .or .u64 x7 (shl .u64 (IntKind.u64.wrap (Int.tmod (rd x0 x8) 128)) (wrap64 (7 * x8)))) (wrap64 (x8 + 1))) else (none)) else (some (0, 0))) else (none)) else (if 0 ≤ (wrap64 (7 * x8)) then (gangwayref1_Uint.l0 k x0 x1 x6 (Go.bits .or .u64 x7 (shl .u64 (IntKind.u64.wrap (Int.tmod (rd x0 x8) 128)) (wrap64 (7 * x8)))) (wrap64 (x8 + 1))) else (none))) else (gangwayref1_Uint.l0 k x0 x1 x6 x7 (wrap64 (x8 + 1)))) else (none)) else (none)) else (if x6 = 0 then (some (0, 0)) else (if x1 < 64 then (if 0 ≤ x1 then (if (shr .u64 x7 x1) = 0 then (some (x7, x6)) else (some (0, 0))) else (none)) else (some (x7, x6))))
def gangwayref1_Uint.f (k : Nat) (l0 : List Int) (a1 : Int) : Option (Int × Int) := (gangwayref1_size.f k l0 a1).bind fun t242 => (gangwayref1_Uint.l0 k l0 a1 t242 0 0)
theorem gangwayref1_Uint.mono_l : ∀ k, (∀ y0 y1 y2 y3 y4, LeO (gangwayref1_Uint.l0 k y0 y1 y2 y3 y4) (gangwayref1_Uint.l0 (k + 1) y0 y1 y2 y3 y4))
 | 0 => fun _ _ _ _ _ r h => by simp [gangwayref1_Uint.l0] at h
 | k + 1 => by
  have ih0 := gangwayref1_Uint.mono_l k
  ·intro y0 y1 y2 y3 y4
   unfold gangwayref1_Uint.l0
   repeat' first
   | (with_reducible apply ih0)
   | (with_reducible exact gangwayref1_size.mono _ _ _)
   | (with_reducible exact LeO.refl _)
   | (with_reducible exact LeO.none _)
   | (with_reducible refine LeO.ite ?_ ?_)
   | (with_reducible refine LeO.bind ?_ (fun _ => ?_))
   | apply ih0
   | exact gangwayref1_size.mono _ _ _
   | exact LeO.none _
   | refine LeO.ite ?_ ?_
   | refine LeO.bind ?_ (fun _ => ?_)
theorem gangwayref1_Uint.mono : ∀ a0 a1 k, LeO (gangwayref1_Uint.f k a0 a1) (gangwayref1_Uint.f (k + 1) a0 a1) := by
 intro a0 a1 k; have ih0 := gangwayref1_Uint.mono_l k
 unfold gangwayref1_Uint.f
 repeat' first
   | (with_reducible apply ih0)
   | (with_reducible exact gangwayref1_size.mono _ _ _)
   | (with_reducible exact LeO.refl _)
   | (with_reducible exact LeO.none _)
   | (with_reducible refine LeO.ite ?_ ?_)
   | (with_reducible refine LeO.bind ?_ (fun _ => ?_))
   | apply ih0
   | exact gangwayref1_size.mono _ _ _
   | exact LeO.none _
   | refine LeO.ite ?_ ?_
   | refine LeO.bind ?_ (fun _ => ?_)
theorem gangwayref1_Uint.am_ {p : Prop} (h : p) : Aside0 p := Aside0.mk h
theorem gangwayref1_Uint.bm_ {α β : Type _} {o : Option α} {f : α → Option β} {b : β} (h : o.bind f = some b) : ∃ a, o = some a ∧ f a = some b := Option.bind_eq_some_iff.mp h
set_option maxHeartbeats 8000000 in
set_option maxRecDepth 100000 in
theorem gangwayref1_Uint.calls (k : Nat) (A0 : Option Addr) (c0 : Nat) (l0 : List Int) (a1 : Int) (r1 : Int) (r2 : Int) (w : World) (hr0 : Kd.C (Kd.int .u8) w A0 l0.length l0) (hc0 : l0.length ≤ c0) (h : gangwayref1_Uint.f k l0 a1 = some (r1, r2)) :
  Calls Try.prog 66 #[.slice A0 l0.length c0, .int .i64 a1] w fun e w' => e = .returned (.tuple #[.int .u64 r1, .int .i64 r2]) ∧ Drawn0 w w' := by
 have HR0 := am_ hr0; have HC0 := am_ hc0; clear hr0 hc0; have H : ((gangwayref1_size.f k l0 a1).bind fun t242 => (gangwayref1_Uint.l0 k l0 a1 t242 0 0)) = some (r1, r2) := h; clear h; replace H := bm_ H; obtain ⟨t242, A30, H⟩ := H; replace H : (gangwayref1_Uint.l0 k l0 a1 t242 0 0) = some (r1, r2) := H; have A3 := am_ A30; clear A30; have H' := am_ H; clear H; go_enter Try.func66, Try.ntmps66
 go_wp2_with (first | ((with_reducible refine gate_callee (f := 73) rfl ?_); refine goesL_ (some 12) rfl rfl Try.func73 (by kernel_rfl) rfl #[.slice A0 l0.length c0, .int .i64 a1] rfl (by (try simp only [List.map_toArray, List.map_cons, List.map_nil]); first | done | rfl | (simp only [List.length_drop, List.length_take]; rfl)) ?_; (with_reducible refine (gangwayref1_size.calls k _ _ l0 a1 t242 _ ?side1 ?side2 A3.out).mono ?_); (case side1 => repeat (first | exact HR0.out | (with_reducible refine Kd.C_alloc ?_ _) | (with_reducible refine Kd.C_drewN ?_ _) | (with_reducible refine Kd.C_drew ?_))); (case side2 => exact HC0.out); rintro e w' ⟨rfl, ⟨nd, rfl⟩⟩; refine ⟨_, rfl, ?_⟩))
 go_loopg [7, 8] k (fun kq v7 v8 w' => ∃ (x7_1 : Int) (x8_1 : Int), v7 = .int .u64 x7_1 ∧ v8 = .int .i64 x8_1 ∧ Aside0 (gangwayref1_Uint.l0 kq l0 a1 t242 x7_1 x8_1 = some (r1, r2)) ∧ Aside0 (kq ≤ k) ∧ Drawn0 w w')
 case atStart => exact ⟨(0), (0), (es_), (es_), H', ⟨Nat.le_refl _⟩, dr_⟩
 case round =>
 clear H'; obtain ⟨x7_1, x8_1, rfl, rfl, HA, HK1, ⟨m1, rfl⟩⟩ := hrel
 cases gk with
 | zero => exact absurd HA.out (by simp [gangwayref1_Uint.l0])
 | succ k1 =>
 have H := HA.out; clear HA; simp only [gangwayref1_Uint.l0] at H; by_cases c4 : x8_1 < t242
 rotate_left
 ·rw [if_neg c4] at H; have c4b0 : decide (x8_1 < t242) = false := decide_eq_false c4; clear c4; by_cases c19 : t242 = 0
  ·rw [if_pos c19] at H; obtain ⟨c19b0, c19b1⟩ := eb c19; clear c19; simp only [Option.some.injEq, Prod.mk.injEq] at H; obtain ⟨rfl, rfl⟩ := H; go_wp2
   go_ret2
   exact ⟨es_, dr_⟩
  rw [if_neg c19] at H; obtain ⟨c19b0, c19b1⟩ := nb c19; by_cases c20 : a1 < 64
  rotate_left
  ·rw [if_neg c20] at H; have c20b0 : decide (a1 < 64) = false := decide_eq_false c20; clear c20; simp only [Option.some.injEq, Prod.mk.injEq] at H; obtain ⟨rfl, rfl⟩ := H; go_wp2
   go_ret2
   exact ⟨es_, dr_⟩
  rw [if_pos c20] at H; have c20b0 : decide (a1 < 64) = true := decide_eq_true c20; clear c20; by_cases c21 : 0 ≤ a1
  rotate_left
  ·rw [if_neg c21] at H; exact absurd H (by simp)
  rw [if_pos c21] at H; have c21b0 := eq_true c21; have c21b1 : decide (0 ≤ a1) = true := decide_eq_true c21; clear c21; obtain ⟨ji22, hji22⟩ : ∃ j_ : Int, (shr .u64 x7_1 a1) = j_ := ⟨_, rfl⟩
  replace H : (if (ji22) = 0 then (some (x7_1, t242)) else (some (0, 0))) = some (r1, r2) := by first | (rw [hji22] at H; exact H) | (simp only [hji22] at H ⊢; exact H)
  have hji22_ : (x7_1 / 2 ^ min a1.toNat 64) = ji22 := hji22; have hji22z : a1 ≤ 64 → (x7_1 / 2 ^ a1.toNat) = ji22 := shr_small hji22; by_cases c23 : (ji22) = 0
  ·rw [if_pos c23] at H; obtain ⟨c23b0, c23b1⟩ := eb c23; clear c23; simp only [Option.some.injEq, Prod.mk.injEq] at H; obtain ⟨rfl, rfl⟩ := H; go_wp2
   go_ret2
   exact ⟨by first | rfl | (simp; done) | (simp only [← hji22] <;> (first | rfl | simp)) | (simp [*]; done), dr_⟩
  rw [if_neg c23] at H; obtain ⟨c23b0, c23b1⟩ := nb c23; simp only [Option.some.injEq, Prod.mk.injEq] at H; obtain ⟨rfl, rfl⟩ := H; go_wp2
  go_ret2
  exact ⟨by first | rfl | (simp; done) | (simp only [← hji22] <;> (first | rfl | simp)) | (simp [*]; done), dr_⟩
 rw [if_pos c4] at H; have c4b0 : decide (x8_1 < t242) = true := decide_eq_true c4; clear c4; by_cases c5 : 0 ≤ x8_1
 rotate_left
 ·rw [if_neg c5] at H; exact absurd H (by simp)
 rw [if_pos c5] at H; have c5b0 : decide (0 ≤ x8_1) = true := decide_eq_true c5; clear c5; by_cases c6 : x8_1 < (l0.length : Int)
 rotate_left
 ·rw [if_neg c6] at H; exact absurd H (by simp)
 rw [if_pos c6] at H; have c6b0 : decide (x8_1 < (l0.length : Int)) = true := decide_eq_true c6; clear c6; by_cases c7 : (wrap64 (7 * x8_1)) < 64
 rotate_left
 ·rw [if_neg c7] at H; have c7b0 : decide ((wrap64 (7 * x8_1)) < 64) = false := decide_eq_false c7; clear c7; have H' := am_ H; clear H; have p243 : 0 ≤ (x8_1 : Int) := of_decide_eq_true (by first | (with_reducible assumption) | assumption); have q243 : x8_1 < (l0.length : Int) := of_decide_eq_true (by first | (with_reducible assumption) | assumption); obtain ⟨ad243, e243, hx243_0⟩ := Kd.at_int HR0.out x8_1 p243 q243
  cases e243
  replace p243 := eq_true p243; replace q243 := eq_true q243; go_wp2
  go_roundg k1
  case measure => have := HK1.out; omega
  case rel => exact ⟨(x7_1), (wrap64 (x8_1 + 1)), (es_), (es_), H', ⟨by have := HK1.out; omega⟩, dr_⟩
 rw [if_pos c7] at H; have c7b0 : decide ((wrap64 (7 * x8_1)) < 64) = true := decide_eq_true c7; clear c7; by_cases c8 : (wrap64 (7 * x8_1)) > 57
 rotate_left
 ·rw [if_neg c8] at H; have c8b0 : decide (57 < (wrap64 (7 * x8_1))) = false := decide_eq_false c8; clear c8; obtain ⟨ji16, hji16⟩ : ∃ j_ : Int, (wrap64 (7 * x8_1)) = j_ := ⟨_, rfl⟩
  replace H : (if 0 ≤ (ji16) then (gangwayref1_Uint.l0 k1 l0 a1 t242 (Go.bits .or .u64 x7_1 (shl .u64 (IntKind.u64.wrap (Int.tmod (rd l0 x8_1) 128)) (ji16))) (wrap64 (x8_1 + 1))) else (none)) = some (r1, r2) := by first | (rw [hji16] at H; exact H) | (simp only [hji16] at H ⊢; exact H)
  (try rw [hji16] at c7b0); (try rw [hji16] at c8b0); (try rw [hji16] at hji9); (try rw [hji16] at hji9w); (try rw [hji16] at hji9_); (try rw [hji16] at hji9z); (try rw [hji16] at hji13); (try rw [hji16] at hji13w); (try rw [hji16] at hji13_); (try rw [hji16] at hji13z); have hji16w : (IntKind.i64.wrap (7 * x8_1)) = ji16 := (i64_w _).trans hji16; by_cases c17 : 0 ≤ (ji16)
  rotate_left
  ·rw [if_neg c17] at H; exact absurd H (by simp)
  rw [if_pos c17] at H; have c17b0 := eq_true c17; have c17b1 : decide (0 ≤ (ji16)) = true := decide_eq_true c17; clear c17; obtain ⟨ji18, hji18⟩ : ∃ j_ : Int, (shl .u64 (IntKind.u64.wrap (Int.tmod (rd l0 x8_1) 128)) (ji16)) = j_ := ⟨_, rfl⟩
  replace H : (gangwayref1_Uint.l0 k1 l0 a1 t242 (Go.bits .or .u64 x7_1 (ji18)) (wrap64 (x8_1 + 1))) = some (r1, r2) := by first | (rw [hji18] at H; exact H) | (simp only [hji18] at H ⊢; exact H)
  have hji18_ : (IntKind.u64.wrap ((IntKind.u64.wrap (Int.tmod (rd l0 x8_1) 128)) * 2 ^ min (ji16).toNat 64)) = ji18 := hji18; have hji18z : (ji16) ≤ 64 → (IntKind.u64.wrap ((IntKind.u64.wrap (Int.tmod (rd l0 x8_1) 128)) * 2 ^ (ji16).toNat)) = ji18 := shl_small hji18; have H' := am_ H; clear H; have p243 : 0 ≤ (x8_1 : Int) := of_decide_eq_true (by first | (with_reducible assumption) | assumption); have q243 : x8_1 < (l0.length : Int) := of_decide_eq_true (by first | (with_reducible assumption) | assumption); obtain ⟨ad243, e243, hx243_0⟩ := Kd.at_int HR0.out x8_1 p243 q243
  cases e243
  replace p243 := eq_true p243; replace q243 := eq_true q243; go_wp2
  go_roundg k1
  case measure => have := HK1.out; omega
  case rel => exact ⟨(Go.bits .or .u64 x7_1 (ji18)), (wrap64 (x8_1 + 1)), (by first | rfl | (simp; done) | (simp only [← hji18] <;> (first | rfl | simp)) | (simp [*]; done)), (es_), H', ⟨by have := HK1.out; omega⟩, dr_⟩
 rw [if_pos c8] at H; have c8b0 : decide (57 < (wrap64 (7 * x8_1))) = true := decide_eq_true c8; clear c8; obtain ⟨ji9, hji9⟩ : ∃ j_ : Int, (wrap64 (64 - (wrap64 (7 * x8_1)))) = j_ := ⟨_, rfl⟩
 replace H : (if 0 ≤ (ji9) then (if (shr .u64 (IntKind.u64.wrap (Int.tmod (rd l0 x8_1) 128)) (ji9)) = 0 then (if 0 ≤ (wrap64 (7 * x8_1)) then (gangwayref1_Uint.l0 k1 l0 a1 t242 (Go.bits .or .u64 x7_1 (shl .u64 (IntKind.u64.wrap (Int.tmod (rd l0 x8_1) 128)) (wrap64 (7 * x8_1)))) (wrap64 (x8_1 + 1))) else (none)) else (some (0, 0))) else (none)) = some (r1, r2) := by first | (rw [hji9] at H; exact H) | (simp only [hji9] at H ⊢; exact H)
 have hji9w : (IntKind.i64.wrap (64 - (wrap64 (7 * x8_1)))) = ji9 := (i64_w _).trans hji9; by_cases c10 : 0 ≤ (ji9)
 rotate_left
 ·rw [if_neg c10] at H; exact absurd H (by simp)
 rw [if_pos c10] at H; have c10b0 := eq_true c10; have c10b1 : decide (0 ≤ (ji9)) = true := decide_eq_true c10; clear c10; obtain ⟨ji11, hji11⟩ : ∃ j_ : Int, (shr .u64 (IntKind.u64.wrap (Int.tmod (rd l0 x8_1) 128)) (ji9)) = j_ := ⟨_, rfl⟩
 replace H : (if (ji11) = 0 then (if 0 ≤ (wrap64 (7 * x8_1)) then (gangwayref1_Uint.l0 k1 l0 a1 t242 (Go.bits .or .u64 x7_1 (shl .u64 (IntKind.u64.wrap (Int.tmod (rd l0 x8_1) 128)) (wrap64 (7 * x8_1)))) (wrap64 (x8_1 + 1))) else (none)) else (some (0, 0))) = some (r1, r2) := by first | (rw [hji11] at H; exact H) | (simp only [hji11] at H ⊢; exact H)
 have hji11_ : ((IntKind.u64.wrap (Int.tmod (rd l0 x8_1) 128)) / 2 ^ min (ji9).toNat 64) = ji11 := hji11; have hji11z : (ji9) ≤ 64 → ((IntKind.u64.wrap (Int.tmod (rd l0 x8_1) 128)) / 2 ^ (ji9).toNat) = ji11 := shr_small hji11; by_cases c12 : (ji11) = 0
 rotate_left
 ·rw [if_neg c12] at H; obtain ⟨c12b0, c12b1⟩ := nb c12; simp only [Option.some.injEq, Prod.mk.injEq] at H; obtain ⟨rfl, rfl⟩ := H; have p243 : 0 ≤ (x8_1 : Int) := of_decide_eq_true (by first | (with_reducible assumption) | assumption); have q243 : x8_1 < (l0.length : Int) := of_decide_eq_true (by first | (with_reducible assumption) | assumption); obtain ⟨ad243, e243, hx243_0⟩ := Kd.at_int HR0.out x8_1 p243 q243
  cases e243
  replace p243 := eq_true p243; replace q243 := eq_true q243; go_wp2
  go_ret2
  exact ⟨by first | rfl | (simp; done) | (simp only [← hji9, ← hji11] <;> (first | rfl | simp)) | (simp [*]; done), dr_⟩
 rw [if_pos c12] at H; obtain ⟨c12b0, c12b1⟩ := eb c12; clear c12; obtain ⟨ji13, hji13⟩ : ∃ j_ : Int, (wrap64 (7 * x8_1)) = j_ := ⟨_, rfl⟩
 replace H : (if 0 ≤ (ji13) then (gangwayref1_Uint.l0 k1 l0 a1 t242 (Go.bits .or .u64 x7_1 (shl .u64 (IntKind.u64.wrap (Int.tmod (rd l0 x8_1) 128)) (ji13))) (wrap64 (x8_1 + 1))) else (none)) = some (r1, r2) := by first | (rw [hji13] at H; exact H) | (simp only [hji13] at H ⊢; exact H)
 (try rw [hji13] at c7b0); (try rw [hji13] at c8b0); (try rw [hji13] at hji9); (try rw [hji13] at hji9w); (try rw [hji13] at hji9_); (try rw [hji13] at hji9z); have hji13w : (IntKind.i64.wrap (7 * x8_1)) = ji13 := (i64_w _).trans hji13; by_cases c14 : 0 ≤ (ji13)
 rotate_left
 ·rw [if_neg c14] at H; exact absurd H (by simp)
 rw [if_pos c14] at H; have c14b0 := eq_true c14; have c14b1 : decide (0 ≤ (ji13)) = true := decide_eq_true c14; clear c14; obtain ⟨ji15, hji15⟩ : ∃ j_ : Int, (shl .u64 (IntKind.u64.wrap (Int.tmod (rd l0 x8_1) 128)) (ji13)) = j_ := ⟨_, rfl⟩
 replace H : (gangwayref1_Uint.l0 k1 l0 a1 t242 (Go.bits .or .u64 x7_1 (ji15)) (wrap64 (x8_1 + 1))) = some (r1, r2) := by first | (rw [hji15] at H; exact H) | (simp only [hji15] at H ⊢; exact H)
 have hji15_ : (IntKind.u64.wrap ((IntKind.u64.wrap (Int.tmod (rd l0 x8_1) 128)) * 2 ^ min (ji13).toNat 64)) = ji15 := hji15; have hji15z : (ji13) ≤ 64 → (IntKind.u64.wrap ((IntKind.u64.wrap (Int.tmod (rd l0 x8_1) 128)) * 2 ^ (ji13).toNat)) = ji15 := shl_small hji15; have H' := am_ H; clear H; have p243 : 0 ≤ (x8_1 : Int) := of_decide_eq_true (by first | (with_reducible assumption) | assumption); have q243 : x8_1 < (l0.length : Int) := of_decide_eq_true (by first | (with_reducible assumption) | assumption); obtain ⟨ad243, e243, hx243_0⟩ := Kd.at_int HR0.out x8_1 p243 q243
 cases e243
 replace p243 := eq_true p243; replace q243 := eq_true q243; go_wp2
 go_roundg k1
 case measure => have := HK1.out; omega
 case rel => exact ⟨(Go.bits .or .u64 x7_1 (ji15)), (wrap64 (x8_1 + 1)), (by first | rfl | (simp; done) | (simp only [← hji15] <;> (first | rfl | simp)) | (simp [*]; done)), (es_), H', ⟨by have := HK1.out; omega⟩, dr_⟩
end Go.Proofs.Ytlahigmoljflkaa.PAll
