/- Printed by a copy of the printer that was turned for this claim: functions as plain Lean functions, with proofs that their calls come to these; or words that such proofs use. -/
import Derived.Test.YtlahigmoljflkaaPAllx0
import Derived.Test.YtlahigmoljflkaaPAllx3
import Derived.Test.YtlahigmoljflkaaPAllx7
namespace Go.Proofs.Ytlahigmoljflkaa.PAll
open Go.RowKit Go.Proofs.YtlahigmoljflkaaW.PrintWords Go.Proofs.YtlahigmoljflkaaW.PrintLast Go.Proofs.YtlahigmoljflkaaW.PrintMore
attribute [local go_sem] max2_int min2_int max_two min_two max_three min_three max_four min_four   -- for this text's walks alone
set_option linter.unusedVariables false
set_option linter.unusedSimpArgs false

def code_good_1_slices_IndexFunc.l0 : Nat → List Int → Int → Int → Option (Int)
  | 0, _, _, _ => none
  | k + 1, x0, x7, x8 => if x8 < x7 then (if 0 ≤ x8 then (if x8 < (x0.length : Int) then ((code_good_1.f (rd x0 x8)).bind fun t260 => (if t260 = true then (some x8) else (code_good_1_slices_IndexFunc.l0 k x0 x7 (wrap64 (x8 + 1))))) else (none)) else (none)) else (some (-1))
def code_good_1_slices_IndexFunc.f (k : Nat) (l0 : List Int)  : Option (Int) := code_good_1_slices_IndexFunc.l0 k l0 (l0.length : Int) 0
theorem code_good_1_slices_IndexFunc.mono_l : ∀ k, (∀ y0 y1 y2, LeO (code_good_1_slices_IndexFunc.l0 k y0 y1 y2) (code_good_1_slices_IndexFunc.l0 (k + 1) y0 y1 y2))
  | 0 => fun _ _ _ r h => by simp [code_good_1_slices_IndexFunc.l0] at h
  | k + 1 => by
    have ih0 := code_good_1_slices_IndexFunc.mono_l k
    · intro y0 y1 y2
      unfold code_good_1_slices_IndexFunc.l0
      repeat' first
      | (with_reducible exact ih0 _ _ _)
      | (with_reducible exact LeO.refl _)
      | (with_reducible exact LeO.none _)
      | (with_reducible refine LeO.ite ?_ ?_)
      | (with_reducible refine LeO.bind ?_ (fun _ => ?_))
      | exact ih0 _ _ _
      | exact LeO.none _
      | refine LeO.ite ?_ ?_
      | refine LeO.bind ?_ (fun _ => ?_)
theorem code_good_1_slices_IndexFunc.mono : ∀ a0 k, LeO (code_good_1_slices_IndexFunc.f k a0) (code_good_1_slices_IndexFunc.f (k + 1) a0) := by
  intro a0 k
  have ih0 := code_good_1_slices_IndexFunc.mono_l k
  unfold code_good_1_slices_IndexFunc.f
  repeat' first
      | (with_reducible exact ih0 _ _ _)
      | (with_reducible exact LeO.refl _)
      | (with_reducible exact LeO.none _)
      | (with_reducible refine LeO.ite ?_ ?_)
      | (with_reducible refine LeO.bind ?_ (fun _ => ?_))
      | exact ih0 _ _ _
      | exact LeO.none _
      | refine LeO.ite ?_ ?_
      | refine LeO.bind ?_ (fun _ => ?_)
set_option maxHeartbeats 8000000 in
set_option maxRecDepth 100000 in
theorem code_good_1_slices_IndexFunc.calls (k : Nat) (A0 : Option Addr) (c0 : Nat) (l0 : List Int)  (r : Int) (w : World) (hr0 : Kd.C (Kd.int .i64) w A0 l0.length l0) (hc0 : l0.length ≤ c0) (h : code_good_1_slices_IndexFunc.f k l0 = some r) :
    Calls Try.prog 68 #[.slice A0 l0.length c0, .func (.func 59) #[] #[]] w fun e w' => e = .returned (.int .i64 r) ∧ Drawn0 w w' := by
  have HR0 := Aside0.mk hr0
  have HC0 := Aside0.mk hc0
  clear hr0 hc0
  have H : (code_good_1_slices_IndexFunc.l0 k l0 (l0.length : Int) 0) = some r := h
  clear h
  have H' := Aside0.mk H
  clear H
  go_enter Try.func68, Try.ntmps68
  go_wp2
  go_loopg [8] k (fun kq v8 w' => ∃ (x8_1 : Int), v8 = .int .i64 x8_1 ∧ Aside0 (code_good_1_slices_IndexFunc.l0 kq l0 (l0.length : Int) x8_1 = some r) ∧ Aside0 (kq ≤ k) ∧ Drawn0 w w')
  case atStart => exact ⟨(0), (by first | rfl | (simp; done) | (simp [*]; done)), H', ⟨Nat.le_refl _⟩, by repeat (first | exact Drawn0.refl _ | apply Drawn0.step)⟩
  case round =>
    clear H'
    try clear p2
    obtain ⟨x8_1, rfl, HA, HK1, ⟨m1, rfl⟩⟩ := hrel
    cases gk with
    | zero => exact absurd HA.out (by simp [code_good_1_slices_IndexFunc.l0])
    | succ k1 =>
      have H := HA.out
      clear HA
      simp only [code_good_1_slices_IndexFunc.l0] at H
      by_cases c3 : x8_1 < (l0.length : Int)
      · rw [if_pos c3] at H
        have c3b0 : decide (x8_1 < (l0.length : Int)) = true := decide_eq_true c3
        clear c3
        by_cases c4 : 0 ≤ x8_1
        · rw [if_pos c4] at H
          have c4b0 : decide (0 ≤ x8_1) = true := decide_eq_true c4
          clear c4
          by_cases c5 : x8_1 < (l0.length : Int)
          · rw [if_pos c5] at H
            have c5b0 : decide (x8_1 < (l0.length : Int)) = true := decide_eq_true c5
            clear c5
            replace H := Option.bind_eq_some_iff.mp H
            obtain ⟨t260, A60, H⟩ := H
            replace H : (if t260 = true then (some x8_1) else (code_good_1_slices_IndexFunc.l0 k1 l0 (l0.length : Int) (wrap64 (x8_1 + 1)))) = some r := H
            have A6 := Aside0.mk A60
            clear A60
            by_cases c7 : t260 = true
            · subst c7
              have H1 : (some x8_1) = some r := by rw [if_pos rfl] at H; exact H
              clear H
              have H := H1
              clear H1
              obtain rfl := Option.some.inj H
              have p259 : 0 ≤ (x8_1 : Int) := of_decide_eq_true (by first | (with_reducible assumption) | assumption)
              have q259 : x8_1 < (l0.length : Int) := of_decide_eq_true (by first | (with_reducible assumption) | assumption)
              obtain ⟨ad259, e259, hx259_0⟩ := Kd.at_int HR0.out x8_1 p259 q259
              cases e259
              replace p259 := eq_true p259
              replace q259 := eq_true q259
              go_wp2_with (first | ((with_reducible refine Go.Proofs.YtlahigmoljflkaaO.gate_value (F := .tmp 11) rfl ?_); refine Go.Proofs.YtlahigmoljflkaaO.goesM_ (some 16) rfl rfl Try.func59 (by kernel_rfl) rfl #[.int .i64 (rd l0 x8_1)] rfl rfl (by (try simp only [List.map_toArray, List.map_cons, List.map_nil]); first | done | rfl | (simp; done) | rfl | (simp only [List.length_drop, List.length_take]; rfl)) ?_; (with_reducible refine (code_good_1.calls (rd l0 x8_1) true _ A6.out).mono ?_); rintro e w' ⟨rfl, ⟨nd, rfl⟩⟩; refine ⟨_, rfl, ?_⟩))
              go_ret
              exact ⟨by first | rfl | (simp; done) | (simp [*]; done), by repeat (first | exact Drawn0.refl _ | apply Drawn0.step)⟩
            · replace c7 := Bool.eq_false_iff.mpr c7
              subst c7
              have H1 : (code_good_1_slices_IndexFunc.l0 k1 l0 (l0.length : Int) (wrap64 (x8_1 + 1))) = some r := by rw [if_neg (show ¬ (false = true) by decide)] at H; exact H
              clear H
              have H := H1
              clear H1
              have H' := Aside0.mk H
              clear H
              have p259 : 0 ≤ (x8_1 : Int) := of_decide_eq_true (by first | (with_reducible assumption) | assumption)
              have q259 : x8_1 < (l0.length : Int) := of_decide_eq_true (by first | (with_reducible assumption) | assumption)
              obtain ⟨ad259, e259, hx259_0⟩ := Kd.at_int HR0.out x8_1 p259 q259
              cases e259
              replace p259 := eq_true p259
              replace q259 := eq_true q259
              go_wp2_with (first | ((with_reducible refine Go.Proofs.YtlahigmoljflkaaO.gate_value (F := .tmp 11) rfl ?_); refine Go.Proofs.YtlahigmoljflkaaO.goesM_ (some 16) rfl rfl Try.func59 (by kernel_rfl) rfl #[.int .i64 (rd l0 x8_1)] rfl rfl (by (try simp only [List.map_toArray, List.map_cons, List.map_nil]); first | done | rfl | (simp; done) | rfl | (simp only [List.length_drop, List.length_take]; rfl)) ?_; (with_reducible refine (code_good_1.calls (rd l0 x8_1) false _ A6.out).mono ?_); rintro e w' ⟨rfl, ⟨nd, rfl⟩⟩; refine ⟨_, rfl, ?_⟩))
              go_roundg k1
              case measure => have := HK1.out; omega
              case rel => exact ⟨(wrap64 (x8_1 + 1)), (by first | rfl | (simp; done) | (simp [*]; done)), H', ⟨by have := HK1.out; omega⟩, by repeat (first | exact Drawn0.refl _ | apply Drawn0.step)⟩
          · rw [if_neg c5] at H
            exact absurd H (by simp)
        · rw [if_neg c4] at H
          exact absurd H (by simp)
      · rw [if_neg c3] at H
        have c3b0 : decide (x8_1 < (l0.length : Int)) = false := decide_eq_false c3
        clear c3
        obtain rfl := Option.some.inj H
        go_wp2
        go_ret
        exact ⟨by first | rfl | (simp; done) | (simp [*]; done), by repeat (first | exact Drawn0.refl _ | apply Drawn0.step)⟩

def code_good_1_slices_ContainsFunc.f (k : Nat) (l0 : List Int)  : Option (Bool) := (code_good_1_slices_IndexFunc.f k l0).bind fun t261 => (some (decide (t261 ≥ 0)))
theorem code_good_1_slices_ContainsFunc.mono : ∀ a0 k, LeO (code_good_1_slices_ContainsFunc.f k a0) (code_good_1_slices_ContainsFunc.f (k + 1) a0) := by
  intro a0 k
  unfold code_good_1_slices_ContainsFunc.f
  repeat' first
      | (with_reducible exact code_good_1_slices_IndexFunc.mono _ _)
      | (with_reducible exact LeO.refl _)
      | (with_reducible exact LeO.none _)
      | (with_reducible refine LeO.ite ?_ ?_)
      | (with_reducible refine LeO.bind ?_ (fun _ => ?_))
      | exact code_good_1_slices_IndexFunc.mono _ _
      | exact LeO.none _
      | refine LeO.ite ?_ ?_
      | refine LeO.bind ?_ (fun _ => ?_)
set_option maxHeartbeats 8000000 in
set_option maxRecDepth 100000 in
theorem code_good_1_slices_ContainsFunc.calls (k : Nat) (A0 : Option Addr) (c0 : Nat) (l0 : List Int)  (r : Bool) (w : World) (hr0 : Kd.C (Kd.int .i64) w A0 l0.length l0) (hc0 : l0.length ≤ c0) (h : code_good_1_slices_ContainsFunc.f k l0 = some r) :
    Calls Try.prog 58 #[.slice A0 l0.length c0, .func (.func 59) #[] #[]] w fun e w' => e = .returned (.bool r) ∧ Drawn0 w w' := by
  have HR0 := Aside0.mk hr0
  have HC0 := Aside0.mk hc0
  clear hr0 hc0
  have H : ((code_good_1_slices_IndexFunc.f k l0).bind fun t261 => (some (decide (t261 ≥ 0)))) = some r := h
  clear h
  replace H := Option.bind_eq_some_iff.mp H
  obtain ⟨t261, A30, H⟩ := H
  replace H : (some (decide (t261 ≥ 0))) = some r := H
  have A3 := Aside0.mk A30
  clear A30
  obtain rfl := Option.some.inj H
  go_enter Try.func58, Try.ntmps58
  go_wp2_with (first | ((with_reducible refine gate_callee (f := 68) rfl ?_); refine goesL_ (some 7) rfl rfl Try.func68 (by kernel_rfl) rfl #[.slice A0 l0.length c0, .func (.func 59) #[] #[]] rfl (by (try simp only [List.map_toArray, List.map_cons, List.map_nil]); first | done | rfl | (simp only [List.length_drop, List.length_take]; rfl)) ?_; (with_reducible refine (code_good_1_slices_IndexFunc.calls k _ _ l0  t261 _ ?side1 ?side2 A3.out).mono ?_); (case side1 => repeat (first | exact HR0.out | (with_reducible refine Kd.C_alloc ?_ _) | (with_reducible refine Kd.C_drewN ?_ _) | (with_reducible refine Kd.C_drew ?_))); (case side2 => exact HC0.out); rintro e w' ⟨rfl, ⟨nd, rfl⟩⟩; refine ⟨_, rfl, ?_⟩))
  go_ret
  exact ⟨by first | rfl | (simp; done) | (simp [*]; done), by repeat (first | exact Drawn0.refl _ | apply Drawn0.step)⟩

abbrev code_all.t : Bool := true
abbrev code_all.f_ : Bool := false
theorem code_all.bc {w : World} {g : Nat} {cs : Array Value} {t : TypeId} (h : Aside0 (w.heap[g]? = some (.cells cs t (0, 0)))) (i : Nat) {v : Value} (e : cs[i]? = some v := by rfl) : w.cell? ⟨g, i, none⟩ = some v := (blk_cell h.out i).trans e
theorem code_all.bbelow {W0 w w1 : World} {g : Nat} {o : Obj} (_b : Aside0 (W0.heap[g]? = some o)) (h : w.heap[g]? = some o) (hb : Below w.heap.size w w1) : w1.heap[g]? = some o := blk_below h hb
theorem code_all.e1 {α : Type _} (xs : List α) (i : Nat) (a : α) : xs.toArray.setIfInBounds i a = (xs.set i a).toArray := by simp
theorem code_all.e2 {α : Type _} (x a : α) (xs : List α) : (x :: xs).set 0 a = a :: xs := rfl
theorem code_all.e3 {α : Type _} (x a : α) (xs : List α) (n : Nat) : (x :: xs).set (n + 1) a = x :: xs.set n a := rfl
mutual
def code_all.q.j4 : Nat → Bool → Int → Int → Int → Int → Int → Int → List Int → List (S45) → List (S45) → Int → Int → Int → Int → Int → Int → List Int → List (S45) → List (S45) → Option (Bool)
 | 0, _, _, _, _, _, _, _, _, _, _, _, _, _, _, _, _, _, _, _ => none
 | k + 1, x6, x0z, x1z, x2z, x3z, x4z, x5z, x6z, x7z, x8z, x9z, x10z, x11z, x12z, x13z, x14z, x15z, x16z, x17z => if x6 = true then ((code_word.f x2z).bind fun t269 => (if t269 = true then ((code_word.f x3z).bind fun t270 => (if t270 = true then ((code_word.f x4z).bind fun t271 => (if t271 = true then (if x10z = x1z then (if x11z = x2z then (if x12z = x3z then (if x13z = x4z then (if x14z = x5z then (if (x15z.length : Int) = (x6z.length : Int) then (if (x16z.length : Int) = (x7z.length : Int) then (some ((x17z.length : Int) == (x8z.length : Int))) else (some false)) else (some false)) else (some false)) else (some false)) else (some false)) else (some false)) else (some false)) else (some false))) else (some false))) else (some false))) else (some false)
def code_all.q.j0 : Nat → Int → Bool → Int → Bool → Int → Int → Int → Int → Int → Int → List Int → List (S45) → List (S45) → Int → Int → Int → Int → Int → Int → Option (Bool)
 | 0, _, _, _, _, _, _, _, _, _, _, _, _, _, _, _, _, _, _, _ => none
 | k + 1, x1, x6, x12, x13, x0z, x1z, x2z, x3z, x4z, x5z, x6z, x7z, x8z, x9z, x10z, x11z, x12z, x13z, x14z => if x13 = true then (code_all.q.j4 k x6 x0z x1z x2z x3z x4z x5z x6z x7z x8z x9z x10z x11z x12z x13z x14z ([] : List Int) ([] : List (S45)) ([] : List (S45))) else (if x12 = 2 then (code_all.q.j1 k x1 x6 x12 (x12 == 2) x0z x1z x2z x3z x4z x5z x6z x7z x8z x9z x10z x11z x12z x13z x14z) else (code_all.q.j1 k x1 x6 x12 (x12 == 3) x0z x1z x2z x3z x4z x5z x6z x7z x8z x9z x10z x11z x12z x13z x14z))
def code_all.q.j1 : Nat → Int → Bool → Int → Bool → Int → Int → Int → Int → Int → Int → List Int → List (S45) → List (S45) → Int → Int → Int → Int → Int → Int → Option (Bool)
 | 0, _, _, _, _, _, _, _, _, _, _, _, _, _, _, _, _, _, _, _ => none
 | k + 1, x1, x6, x12, x16, x0z, x1z, x2z, x3z, x4z, x5z, x6z, x7z, x8z, x9z, x10z, x11z, x12z, x13z, x14z => if x16 = true then ((code_typ.f x1z).bind fun t265 => (if t265 = true then (if x1 < 40 then ((code_all.f k x7z (wrap64 (x1 + 1))).bind fun t266 => (code_all.q.j2 k x1 t266 x0z x1z x2z x3z x4z x5z x6z x7z x8z x9z x1z x11z x12z x13z x14z x7z)) else (code_all.q.j2 k x1 false x0z x1z x2z x3z x4z x5z x6z x7z x8z x9z x1z x11z x12z x13z x14z x7z)) else (code_all.q.j2 k x1 false x0z x1z x2z x3z x4z x5z x6z x7z x8z x9z x1z x11z x12z x13z x14z x7z))) else (if x12 = 4 then (code_all.q.j3 k x6 x12 (x12 == 4) x0z x1z x2z x3z x4z x5z x6z x7z x8z x9z x10z x11z x12z x13z x14z) else (code_all.q.j3 k x6 x12 (x12 == 6) x0z x1z x2z x3z x4z x5z x6z x7z x8z x9z x10z x11z x12z x13z x14z))
def code_all.q.j2 : Nat → Int → Bool → Int → Int → Int → Int → Int → Int → List Int → List (S45) → List (S45) → Int → Int → Int → Int → Int → Int → List (S45) → Option (Bool)
 | 0, _, _, _, _, _, _, _, _, _, _, _, _, _, _, _, _, _, _ => none
 | k + 1, x1, x6, x0z, x1z, x2z, x3z, x4z, x5z, x6z, x7z, x8z, x9z, x10z, x11z, x12z, x13z, x14z, x16z => if x0z = 4 then (if x6 = true then ((code_all.f k x8z (wrap64 (x1 + 1))).bind fun t267 => (code_all.q.j4 k t267 x0z x1z x2z x3z x4z x5z x6z x7z x8z x9z x10z x11z x12z x13z x14z ([] : List Int) x16z x8z)) else (code_all.q.j4 k false x0z x1z x2z x3z x4z x5z x6z x7z x8z x9z x10z x11z x12z x13z x14z ([] : List Int) x16z x8z)) else (code_all.q.j4 k x6 x0z x1z x2z x3z x4z x5z x6z x7z x8z x9z x10z x11z x12z x13z x14z ([] : List Int) x16z ([] : List (S45)))
def code_all.q.j3 : Nat → Bool → Int → Bool → Int → Int → Int → Int → Int → Int → List Int → List (S45) → List (S45) → Int → Int → Int → Int → Int → Int → Option (Bool)
 | 0, _, _, _, _, _, _, _, _, _, _, _, _, _, _, _, _, _, _ => none
 | k + 1, x6, x12, x53, x0z, x1z, x2z, x3z, x4z, x5z, x6z, x7z, x8z, x9z, x10z, x11z, x12z, x13z, x14z => if x53 = true then (code_all.q.j4 k x6 x0z x1z x2z x3z x4z x5z x6z x7z x8z x9z x10z x2z x12z x13z x14z ([] : List Int) ([] : List (S45)) ([] : List (S45))) else (if x12 = 5 then ((code_good_1_slices_ContainsFunc.f k x6z).bind fun t268 => (code_all.q.j4 k (!t268) x0z x1z x2z x3z x4z x5z x6z x7z x8z x9z x10z x2z x12z x13z x14z x6z ([] : List (S45)) ([] : List (S45)))) else (if x12 = 7 then (code_all.q.j4 k x6 x0z x1z x2z x3z x4z x5z x6z x7z x8z x9z x10z x11z x3z x4z x14z ([] : List Int) ([] : List (S45)) ([] : List (S45))) else (if x12 = 9 then (code_all.q.j4 k (x5z == (wrap64 (wrap32 (x5z)))) x0z x1z x2z x3z x4z x5z x6z x7z x8z x9z x10z x11z x12z x13z x5z ([] : List Int) ([] : List (S45)) ([] : List (S45))) else (if x12 = 10 then (code_all.q.j4 k x6 x0z x1z x2z x3z x4z x5z x6z x7z x8z x9z x10z x11z x12z x13z x5z ([] : List Int) ([] : List (S45)) ([] : List (S45))) else (some false)))))
def code_all.q.f : Nat → Int → Int → Int → Int → Int → Int → List Int → List (S45) → List (S45) → Int → Option (Bool)
 | 0, _, _, _, _, _, _, _, _, _, _ => none
 | k + 1, a0_0, a0_1, a0_2, a0_3, a0_4, a0_5, l0_6, l0_7, l0_8, a1 => (code_shape.f k a0_0).bind fun t264 => (if t264 = 1 then (code_all.q.j0 k a1 true t264 (t264 == 1) a0_0 a0_1 a0_2 a0_3 a0_4 a0_5 l0_6 l0_7 l0_8 a0_0 0 0 0 0 0) else (code_all.q.j0 k a1 true t264 (t264 == 8) a0_0 a0_1 a0_2 a0_3 a0_4 a0_5 l0_6 l0_7 l0_8 a0_0 0 0 0 0 0))
def code_all.q1.f : Nat → Int → Int → Int → Int → Int → Int → List Int → List (S45) → List (S45) → Int → Option (Bool)
 | 0, _, _, _, _, _, _, _, _, _, _ => none
 | k + 1, a0_0, a0_1, a0_2, a0_3, a0_4, a0_5, l0_6, l0_7, l0_8, a1_0 => (code_all.q.f k a0_0 a0_1 a0_2 a0_3 a0_4 a0_5 l0_6 l0_7 l0_8 a1_0).bind fun t273 => (some (!t273))
def code_all.q2.l0 : Nat → List (S45) → Int → Int → Int → Option (Int)
 | 0, _, _, _, _ => none
 | k + 1, x0, x7, x8, x56000 => if x8 < x7 then (if 0 ≤ x8 then (if x8 < (x0.length : Int) then ((code_all.q1.f k ((rd_T45 x0 x8).f0) ((rd_T45 x0 x8).f1) ((rd_T45 x0 x8).f2) ((rd_T45 x0 x8).f3) ((rd_T45 x0 x8).f4) ((rd_T45 x0 x8).f5) ((rd_T45 x0 x8).f6) ((rd_T45 x0 x8).f7) ((rd_T45 x0 x8).f8) x56000).bind fun t275 => (if t275 = true then (some x8) else (code_all.q2.l0 k x0 x7 (wrap64 (x8 + 1)) x56000))) else (none)) else (none)) else (some (-1))
def code_all.q2.f : Nat → List (S45) → Int → Option (Int)
 | 0, _, _ => none
 | k + 1, l0, a1_0 => code_all.q2.l0 k l0 (l0.length : Int) 0 a1_0
def code_all.q3.f : Nat → List (S45) → Int → Option (Bool)
 | 0, _, _ => none
 | k + 1, l0, a1_0 => (code_all.q2.f k l0 a1_0).bind fun t276 => (some (decide (t276 ≥ 0)))
def code_all.f : Nat → List (S45) → Int → Option (Bool)
 | 0, _, _ => none
 | k + 1, l0, a1 => (code_all.q3.f k l0 a1).bind fun t278 => (some (!t278))
end
theorem code_all.mono_l : ∀ k, (∀ y0 y1, LeO (code_all.f k y0 y1) (code_all.f (k + 1) y0 y1)) ∧ (∀ y0 y1 y2 y3 y4 y5 y6 y7 y8 y9, LeO (code_all.q.f k y0 y1 y2 y3 y4 y5 y6 y7 y8 y9) (code_all.q.f (k + 1) y0 y1 y2 y3 y4 y5 y6 y7 y8 y9)) ∧ (∀ y0 y1 y2 y3 y4 y5 y6 y7 y8 y9 y10 y11 y12 y13 y14 y15 y16 y17 y18, LeO (code_all.q.j4 k y0 y1 y2 y3 y4 y5 y6 y7 y8 y9 y10 y11 y12 y13 y14 y15 y16 y17 y18) (code_all.q.j4 (k + 1) y0 y1 y2 y3 y4 y5 y6 y7 y8 y9 y10 y11 y12 y13 y14 y15 y16 y17 y18)) ∧ (∀ y0 y1 y2 y3 y4 y5 y6 y7 y8 y9 y10 y11 y12 y13 y14 y15 y16 y17 y18, LeO (code_all.q.j0 k y0 y1 y2 y3 y4 y5 y6 y7 y8 y9 y10 y11 y12 y13 y14 y15 y16 y17 y18) (code_all.q.j0 (k + 1) y0 y1 y2 y3 y4 y5 y6 y7 y8 y9 y10 y11 y12 y13 y14 y15 y16 y17 y18)) ∧ (∀ y0 y1 y2 y3 y4 y5 y6 y7 y8 y9 y10 y11 y12 y13 y14 y15 y16 y17 y18, LeO (code_all.q.j1 k y0 y1 y2 y3 y4 y5 y6 y7 y8 y9 y10 y11 y12 y13 y14 y15 y16 y17 y18) (code_all.q.j1 (k + 1) y0 y1 y2 y3 y4 y5 y6 y7 y8 y9 y10 y11 y12 y13 y14 y15 y16 y17 y18)) ∧ (∀ y0 y1 y2 y3 y4 y5 y6 y7 y8 y9 y10 y11 y12 y13 y14 y15 y16 y17, LeO (code_all.q.j2 k y0 y1 y2 y3 y4 y5 y6 y7 y8 y9 y10 y11 y12 y13 y14 y15 y16 y17) (code_all.q.j2 (k + 1) y0 y1 y2 y3 y4 y5 y6 y7 y8 y9 y10 y11 y12 y13 y14 y15 y16 y17)) ∧ (∀ y0 y1 y2 y3 y4 y5 y6 y7 y8 y9 y10 y11 y12 y13 y14 y15 y16 y17, LeO (code_all.q.j3 k y0 y1 y2 y3 y4 y5 y6 y7 y8 y9 y10 y11 y12 y13 y14 y15 y16 y17) (code_all.q.j3 (k + 1) y0 y1 y2 y3 y4 y5 y6 y7 y8 y9 y10 y11 y12 y13 y14 y15 y16 y17)) ∧ (∀ y0 y1 y2 y3 y4 y5 y6 y7 y8 y9, LeO (code_all.q1.f k y0 y1 y2 y3 y4 y5 y6 y7 y8 y9) (code_all.q1.f (k + 1) y0 y1 y2 y3 y4 y5 y6 y7 y8 y9)) ∧ (∀ y0 y1, LeO (code_all.q2.f k y0 y1) (code_all.q2.f (k + 1) y0 y1)) ∧ (∀ y0 y1 y2 y3, LeO (code_all.q2.l0 k y0 y1 y2 y3) (code_all.q2.l0 (k + 1) y0 y1 y2 y3)) ∧ (∀ y0 y1, LeO (code_all.q3.f k y0 y1) (code_all.q3.f (k + 1) y0 y1))
 | 0 => ⟨fun _ _ r h => by simp [code_all.f] at h, fun _ _ _ _ _ _ _ _ _ _ r h => by simp [code_all.q.f] at h, fun _ _ _ _ _ _ _ _ _ _ _ _ _ _ _ _ _ _ _ r h => by simp [code_all.q.j4] at h, fun _ _ _ _ _ _ _ _ _ _ _ _ _ _ _ _ _ _ _ r h => by simp [code_all.q.j0] at h, fun _ _ _ _ _ _ _ _ _ _ _ _ _ _ _ _ _ _ _ r h => by simp [code_all.q.j1] at h, fun _ _ _ _ _ _ _ _ _ _ _ _ _ _ _ _ _ _ r h => by simp [code_all.q.j2] at h, fun _ _ _ _ _ _ _ _ _ _ _ _ _ _ _ _ _ _ r h => by simp [code_all.q.j3] at h, fun _ _ _ _ _ _ _ _ _ _ r h => by simp [code_all.q1.f] at h, fun _ _ r h => by simp [code_all.q2.f] at h, fun _ _ _ _ r h => by simp [code_all.q2.l0] at h, fun _ _ r h => by simp [code_all.q3.f] at h⟩
 | k + 1 => by
  obtain ⟨ih0, ih1, ih2, ih3, ih4, ih5, ih6, ih7, ih8, ih9, ih10⟩ := code_all.mono_l k
  refine ⟨?_, ?_, ?_, ?_, ?_, ?_, ?_, ?_, ?_, ?_, ?_⟩
  ·intro y0 y1
   unfold code_all.f
   repeat' first
   | (with_reducible apply ih0)
   | (with_reducible apply ih1)
   | (with_reducible apply ih2)
   | (with_reducible apply ih3)
   | (with_reducible apply ih4)
   | (with_reducible apply ih5)
   | (with_reducible apply ih6)
   | (with_reducible apply ih7)
   | (with_reducible apply ih8)
   | (with_reducible apply ih9)
   | (with_reducible apply ih10)
   | (with_reducible exact code_good_1_slices_ContainsFunc.mono _ _)
   | (with_reducible exact code_shape.mono _ _)
   | (with_reducible exact LeO.refl _)
   | (with_reducible exact LeO.none _)
   | (with_reducible refine LeO.ite ?_ ?_)
   | (with_reducible refine LeO.bind ?_ (fun _ => ?_))
   | apply ih0
   | apply ih1
   | apply ih2
   | apply ih3
   | apply ih4
   | apply ih5
   | apply ih6
   | apply ih7
   | apply ih8
   | apply ih9
   | apply ih10
   | exact code_good_1_slices_ContainsFunc.mono _ _
   | exact code_shape.mono _ _
   | exact LeO.none _
   | refine LeO.ite ?_ ?_
   | refine LeO.bind ?_ (fun _ => ?_)
  ·intro y0 y1 y2 y3 y4 y5 y6 y7 y8 y9
   unfold code_all.q.f
   repeat' first
   | (with_reducible apply ih0)
   | (with_reducible apply ih1)
   | (with_reducible apply ih2)
   | (with_reducible apply ih3)
   | (with_reducible apply ih4)
   | (with_reducible apply ih5)
   | (with_reducible apply ih6)
   | (with_reducible apply ih7)
   | (with_reducible apply ih8)
   | (with_reducible apply ih9)
   | (with_reducible apply ih10)
   | (with_reducible exact code_good_1_slices_ContainsFunc.mono _ _)
   | (with_reducible exact code_shape.mono _ _)
   | (with_reducible exact LeO.refl _)
   | (with_reducible exact LeO.none _)
   | (with_reducible refine LeO.ite ?_ ?_)
   | (with_reducible refine LeO.bind ?_ (fun _ => ?_))
   | apply ih0
   | apply ih1
   | apply ih2
   | apply ih3
   | apply ih4
   | apply ih5
   | apply ih6
   | apply ih7
   | apply ih8
   | apply ih9
   | apply ih10
   | exact code_good_1_slices_ContainsFunc.mono _ _
   | exact code_shape.mono _ _
   | exact LeO.none _
   | refine LeO.ite ?_ ?_
   | refine LeO.bind ?_ (fun _ => ?_)
  ·intro y0 y1 y2 y3 y4 y5 y6 y7 y8 y9 y10 y11 y12 y13 y14 y15 y16 y17 y18
   unfold code_all.q.j4
   repeat' first
   | (with_reducible apply ih0)
   | (with_reducible apply ih1)
   | (with_reducible apply ih2)
   | (with_reducible apply ih3)
   | (with_reducible apply ih4)
   | (with_reducible apply ih5)
   | (with_reducible apply ih6)
   | (with_reducible apply ih7)
   | (with_reducible apply ih8)
   | (with_reducible apply ih9)
   | (with_reducible apply ih10)
   | (with_reducible exact code_good_1_slices_ContainsFunc.mono _ _)
   | (with_reducible exact code_shape.mono _ _)
   | (with_reducible exact LeO.refl _)
   | (with_reducible exact LeO.none _)
   | (with_reducible refine LeO.ite ?_ ?_)
   | (with_reducible refine LeO.bind ?_ (fun _ => ?_))
   | apply ih0
   | apply ih1
   | apply ih2
   | apply ih3
   | apply ih4
   | apply ih5
   | apply ih6
   | apply ih7
   | apply ih8
   | apply ih9
   | apply ih10
   | exact code_good_1_slices_ContainsFunc.mono _ _
   | exact code_shape.mono _ _
   | exact LeO.none _
   | refine LeO.ite ?_ ?_
   | refine LeO.bind ?_ (fun _ => ?_)
  ·intro y0 y1 y2 y3 y4 y5 y6 y7 y8 y9 y10 y11 y12 y13 y14 y15 y16 y17 y18
   unfold code_all.q.j0
   repeat' first
   | (with_reducible apply ih0)
   | (with_reducible apply ih1)
   | (with_reducible apply ih2)
   | (with_reducible apply ih3)
   | (with_reducible apply ih4)
   | (with_reducible apply ih5)
   | (with_reducible apply ih6)
   | (with_reducible apply ih7)
   | (with_reducible apply ih8)
   | (with_reducible apply ih9)
   | (with_reducible apply ih10)
   | (with_reducible exact code_good_1_slices_ContainsFunc.mono _ _)
   | (with_reducible exact code_shape.mono _ _)
   | (with_reducible exact LeO.refl _)
   | (with_reducible exact LeO.none _)
   | (with_reducible refine LeO.ite ?_ ?_)
   | (with_reducible refine LeO.bind ?_ (fun _ => ?_))
   | apply ih0
   | apply ih1
   | apply ih2
   | apply ih3
   | apply ih4
   | apply ih5
   | apply ih6
   | apply ih7
   | apply ih8
   | apply ih9
   | apply ih10
   | exact code_good_1_slices_ContainsFunc.mono _ _
   | exact code_shape.mono _ _
   | exact LeO.none _
   | refine LeO.ite ?_ ?_
   | refine LeO.bind ?_ (fun _ => ?_)
  ·intro y0 y1 y2 y3 y4 y5 y6 y7 y8 y9 y10 y11 y12 y13 y14 y15 y16 y17 y18
   unfold code_all.q.j1
   repeat' first
   | (with_reducible apply ih0)
   | (with_reducible apply ih1)
   | (with_reducible apply ih2)
   | (with_reducible apply ih3)
   | (with_reducible apply ih4)
   | (with_reducible apply ih5)
   | (with_reducible apply ih6)
   | (with_reducible apply ih7)
   | (with_reducible apply ih8)
   | (with_reducible apply ih9)
   | (with_reducible apply ih10)
   | (with_reducible exact code_good_1_slices_ContainsFunc.mono _ _)
   | (with_reducible exact code_shape.mono _ _)
   | (with_reducible exact LeO.refl _)
   | (with_reducible exact LeO.none _)
   | (with_reducible refine LeO.ite ?_ ?_)
   | (with_reducible refine LeO.bind ?_ (fun _ => ?_))
   | apply ih0
   | apply ih1
   | apply ih2
   | apply ih3
   | apply ih4
   | apply ih5
   | apply ih6
   | apply ih7
   | apply ih8
   | apply ih9
   | apply ih10
   | exact code_good_1_slices_ContainsFunc.mono _ _
   | exact code_shape.mono _ _
   | exact LeO.none _
   | refine LeO.ite ?_ ?_
   | refine LeO.bind ?_ (fun _ => ?_)
  ·intro y0 y1 y2 y3 y4 y5 y6 y7 y8 y9 y10 y11 y12 y13 y14 y15 y16 y17
   unfold code_all.q.j2
   repeat' first
   | (with_reducible apply ih0)
   | (with_reducible apply ih1)
   | (with_reducible apply ih2)
   | (with_reducible apply ih3)
   | (with_reducible apply ih4)
   | (with_reducible apply ih5)
   | (with_reducible apply ih6)
   | (with_reducible apply ih7)
   | (with_reducible apply ih8)
   | (with_reducible apply ih9)
   | (with_reducible apply ih10)
   | (with_reducible exact code_good_1_slices_ContainsFunc.mono _ _)
   | (with_reducible exact code_shape.mono _ _)
   | (with_reducible exact LeO.refl _)
   | (with_reducible exact LeO.none _)
   | (with_reducible refine LeO.ite ?_ ?_)
   | (with_reducible refine LeO.bind ?_ (fun _ => ?_))
   | apply ih0
   | apply ih1
   | apply ih2
   | apply ih3
   | apply ih4
   | apply ih5
   | apply ih6
   | apply ih7
   | apply ih8
   | apply ih9
   | apply ih10
   | exact code_good_1_slices_ContainsFunc.mono _ _
   | exact code_shape.mono _ _
   | exact LeO.none _
   | refine LeO.ite ?_ ?_
   | refine LeO.bind ?_ (fun _ => ?_)
  ·intro y0 y1 y2 y3 y4 y5 y6 y7 y8 y9 y10 y11 y12 y13 y14 y15 y16 y17
   unfold code_all.q.j3
   repeat' first
   | (with_reducible apply ih0)
   | (with_reducible apply ih1)
   | (with_reducible apply ih2)
   | (with_reducible apply ih3)
   | (with_reducible apply ih4)
   | (with_reducible apply ih5)
   | (with_reducible apply ih6)
   | (with_reducible apply ih7)
   | (with_reducible apply ih8)
   | (with_reducible apply ih9)
   | (with_reducible apply ih10)
   | (with_reducible exact code_good_1_slices_ContainsFunc.mono _ _)
   | (with_reducible exact code_shape.mono _ _)
   | (with_reducible exact LeO.refl _)
   | (with_reducible exact LeO.none _)
   | (with_reducible refine LeO.ite ?_ ?_)
   | (with_reducible refine LeO.bind ?_ (fun _ => ?_))
   | apply ih0
   | apply ih1
   | apply ih2
   | apply ih3
   | apply ih4
   | apply ih5
   | apply ih6
   | apply ih7
   | apply ih8
   | apply ih9
   | apply ih10
   | exact code_good_1_slices_ContainsFunc.mono _ _
   | exact code_shape.mono _ _
   | exact LeO.none _
   | refine LeO.ite ?_ ?_
   | refine LeO.bind ?_ (fun _ => ?_)
  ·intro y0 y1 y2 y3 y4 y5 y6 y7 y8 y9
   unfold code_all.q1.f
   repeat' first
   | (with_reducible apply ih0)
   | (with_reducible apply ih1)
   | (with_reducible apply ih2)
   | (with_reducible apply ih3)
   | (with_reducible apply ih4)
   | (with_reducible apply ih5)
   | (with_reducible apply ih6)
   | (with_reducible apply ih7)
   | (with_reducible apply ih8)
   | (with_reducible apply ih9)
   | (with_reducible apply ih10)
   | (with_reducible exact code_good_1_slices_ContainsFunc.mono _ _)
   | (with_reducible exact code_shape.mono _ _)
   | (with_reducible exact LeO.refl _)
   | (with_reducible exact LeO.none _)
   | (with_reducible refine LeO.ite ?_ ?_)
   | (with_reducible refine LeO.bind ?_ (fun _ => ?_))
   | apply ih0
   | apply ih1
   | apply ih2
   | apply ih3
   | apply ih4
   | apply ih5
   | apply ih6
   | apply ih7
   | apply ih8
   | apply ih9
   | apply ih10
   | exact code_good_1_slices_ContainsFunc.mono _ _
   | exact code_shape.mono _ _
   | exact LeO.none _
   | refine LeO.ite ?_ ?_
   | refine LeO.bind ?_ (fun _ => ?_)
  ·intro y0 y1
   unfold code_all.q2.f
   repeat' first
   | (with_reducible apply ih0)
   | (with_reducible apply ih1)
   | (with_reducible apply ih2)
   | (with_reducible apply ih3)
   | (with_reducible apply ih4)
   | (with_reducible apply ih5)
   | (with_reducible apply ih6)
   | (with_reducible apply ih7)
   | (with_reducible apply ih8)
   | (with_reducible apply ih9)
   | (with_reducible apply ih10)
   | (with_reducible exact code_good_1_slices_ContainsFunc.mono _ _)
   | (with_reducible exact code_shape.mono _ _)
   | (with_reducible exact LeO.refl _)
   | (with_reducible exact LeO.none _)
   | (with_reducible refine LeO.ite ?_ ?_)
   | (with_reducible refine LeO.bind ?_ (fun _ => ?_))
   | apply ih0
   | apply ih1
   | apply ih2
   | apply ih3
   | apply ih4
   | apply ih5
   | apply ih6
   | apply ih7
   | apply ih8
   | apply ih9
   | apply ih10
   | exact code_good_1_slices_ContainsFunc.mono _ _
   | exact code_shape.mono _ _
   | exact LeO.none _
   | refine LeO.ite ?_ ?_
   | refine LeO.bind ?_ (fun _ => ?_)
  ·intro y0 y1 y2 y3
   unfold code_all.q2.l0
   repeat' first
   | (with_reducible apply ih0)
   | (with_reducible apply ih1)
   | (with_reducible apply ih2)
   | (with_reducible apply ih3)
   | (with_reducible apply ih4)
   | (with_reducible apply ih5)
   | (with_reducible apply ih6)
   | (with_reducible apply ih7)
   | (with_reducible apply ih8)
   | (with_reducible apply ih9)
   | (with_reducible apply ih10)
   | (with_reducible exact code_good_1_slices_ContainsFunc.mono _ _)
   | (with_reducible exact code_shape.mono _ _)
   | (with_reducible exact LeO.refl _)
   | (with_reducible exact LeO.none _)
   | (with_reducible refine LeO.ite ?_ ?_)
   | (with_reducible refine LeO.bind ?_ (fun _ => ?_))
   | apply ih0
   | apply ih1
   | apply ih2
   | apply ih3
   | apply ih4
   | apply ih5
   | apply ih6
   | apply ih7
   | apply ih8
   | apply ih9
   | apply ih10
   | exact code_good_1_slices_ContainsFunc.mono _ _
   | exact code_shape.mono _ _
   | exact LeO.none _
   | refine LeO.ite ?_ ?_
   | refine LeO.bind ?_ (fun _ => ?_)
  ·intro y0 y1
   unfold code_all.q3.f
   repeat' first
   | (with_reducible apply ih0)
   | (with_reducible apply ih1)
   | (with_reducible apply ih2)
   | (with_reducible apply ih3)
   | (with_reducible apply ih4)
   | (with_reducible apply ih5)
   | (with_reducible apply ih6)
   | (with_reducible apply ih7)
   | (with_reducible apply ih8)
   | (with_reducible apply ih9)
   | (with_reducible apply ih10)
   | (with_reducible exact code_good_1_slices_ContainsFunc.mono _ _)
   | (with_reducible exact code_shape.mono _ _)
   | (with_reducible exact LeO.refl _)
   | (with_reducible exact LeO.none _)
   | (with_reducible refine LeO.ite ?_ ?_)
   | (with_reducible refine LeO.bind ?_ (fun _ => ?_))
   | apply ih0
   | apply ih1
   | apply ih2
   | apply ih3
   | apply ih4
   | apply ih5
   | apply ih6
   | apply ih7
   | apply ih8
   | apply ih9
   | apply ih10
   | exact code_good_1_slices_ContainsFunc.mono _ _
   | exact code_shape.mono _ _
   | exact LeO.none _
   | refine LeO.ite ?_ ?_
   | refine LeO.bind ?_ (fun _ => ?_)
theorem code_all.mono : ∀ a0 a1 k, LeO (code_all.f k a0 a1) (code_all.f (k + 1) a0 a1) := by
 intro a0 a1 k
 obtain ⟨ih0, ih1, ih2, ih3, ih4, ih5, ih6, ih7, ih8, ih9, ih10⟩ := code_all.mono_l k
 exact ih0 a0 a1
theorem code_all.q.mono : ∀ a0 a1 a2 a3 a4 a5 a6 a7 a8 a9 k, LeO (code_all.q.f k a0 a1 a2 a3 a4 a5 a6 a7 a8 a9) (code_all.q.f (k + 1) a0 a1 a2 a3 a4 a5 a6 a7 a8 a9) := by
  intro a0 a1 a2 a3 a4 a5 a6 a7 a8 a9 k
  obtain ⟨ih0, ih1, ih2, ih3, ih4, ih5, ih6, ih7, ih8, ih9, ih10⟩ := code_all.mono_l k
  exact ih1 a0 a1 a2 a3 a4 a5 a6 a7 a8 a9
theorem code_all.q1.mono : ∀ a0 a1 a2 a3 a4 a5 a6 a7 a8 a9 k, LeO (code_all.q1.f k a0 a1 a2 a3 a4 a5 a6 a7 a8 a9) (code_all.q1.f (k + 1) a0 a1 a2 a3 a4 a5 a6 a7 a8 a9) := by
  intro a0 a1 a2 a3 a4 a5 a6 a7 a8 a9 k
  obtain ⟨ih0, ih1, ih2, ih3, ih4, ih5, ih6, ih7, ih8, ih9, ih10⟩ := code_all.mono_l k
  exact ih7 a0 a1 a2 a3 a4 a5 a6 a7 a8 a9
theorem code_all.q2.mono : ∀ a0 a1 k, LeO (code_all.q2.f k a0 a1) (code_all.q2.f (k + 1) a0 a1) := by
  intro a0 a1 k
  obtain ⟨ih0, ih1, ih2, ih3, ih4, ih5, ih6, ih7, ih8, ih9, ih10⟩ := code_all.mono_l k
  exact ih8 a0 a1
theorem code_all.q3.mono : ∀ a0 a1 k, LeO (code_all.q3.f k a0 a1) (code_all.q3.f (k + 1) a0 a1) := by
  intro a0 a1 k
  obtain ⟨ih0, ih1, ih2, ih3, ih4, ih5, ih6, ih7, ih8, ih9, ih10⟩ := code_all.mono_l k
  exact ih10 a0 a1

end Go.Proofs.Ytlahigmoljflkaa.PAll
