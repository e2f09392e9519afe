import Derived.Test.YtlahigmoljflkaaPAllx0
import Derived.Test.YtlahigmoljflkaaPAllx3
import Derived.Test.YtlahigmoljflkaaPAllx4
import Derived.Test.YtlahigmoljflkaaPAllx15
namespace Go.Proofs.Ytlahigmoljflkaa.PAll
open Go.RowKit Go.Proofs.YtlahigmoljflkaaW.PrintWords Go.Proofs.YtlahigmoljflkaaW.PrintLast Go.Proofs.YtlahigmoljflkaaW.PrintMore
attribute [local go_sem] max2_int min2_int max_two min_two max_three min_three max_four min_four   -- for this text's walks alone
set_option linter.unusedVariables false
set_option linter.unusedSimpArgs false

theorem code_all.m_ {p q : Prop} (h : p) (k : q) : Aside0 p ∧ q := ⟨Aside0.mk h, k⟩
abbrev code_all.t : Bool := true
abbrev code_all.f_ : Bool := false
theorem code_all.bc {w : World} {g : Nat} {cs : Array Value} {t : TypeId} (h : Aside0 (w.heap[g]? = some (.cells cs t (0, 0)))) (i : Nat) {v : Value} (e : cs[i]? = some v := by rfl) : w.cell? ⟨g, i, none⟩ = some v := (blk_cell h.out i).trans e
theorem code_all.bbelow {W0 w w1 : World} {g : Nat} {o : Obj} (_b : Aside0 (W0.heap[g]? = some o)) (h : w.heap[g]? = some o) (hb : Below w.heap.size w w1) : w1.heap[g]? = some o := blk_below h hb
theorem code_all.e1 {α : Type _} (xs : List α) (i : Nat) (a : α) : xs.toArray.setIfInBounds i a = (xs.set i a).toArray := by simp
theorem code_all.e2 {α : Type _} (x a : α) (xs : List α) : (x :: xs).set 0 a = a :: xs := rfl
theorem code_all.e3 {α : Type _} (x a : α) (xs : List α) (n : Nat) : (x :: xs).set (n + 1) a = x :: xs.set n a := rfl
mutual
def code_all.q.j4 : Nat → Bool → Int → Int → Int → Int → Int → Int → List Int → List (S45) → List (S45) → Int → Int → Int → Int → Int → Int → List Int → List (S45) → List (S45) → Option (Bool)
 | 0, _, _, _, _, _, _, _, _, _, _, _, _, _, _, _, _, _, _, _ => none
 | k + 1, x6, x0z, x1z, x2z, x3z, x4z, x5z, x6z, x7z, x8z, x9z, x10z, x11z, x12z, x13z, x14z, x15z, x16z, x17z => if x6 = true then ((code_word.f x2z).bind fun t427 => (if t427 = true then ((code_word.f x3z).bind fun t428 => (if t428 = true then ((code_word.f x4z).bind fun t429 => (if t429 = true then (if x10z = x1z then (if x11z = x2z then (if x12z = x3z then (if x13z = x4z then (if x14z = x5z then (if (x15z.length : Int) = (x6z.length : Int) then (if (x16z.length : Int) = (x7z.length : Int) then (some ((x17z.length : Int) == (x8z.length : Int))) else (some false)) else (some false)) else (some false)) else (some false)) else (some false)) else (some false)) else (some false)) else (some false))) else (some false))) else (some false))) else (some false)
def code_all.q.j0 : Nat → Int → Bool → Int → Bool → Int → Int → Int → Int → Int → Int → List Int → List (S45) → List (S45) → Int → Int → Int → Int → Int → Int → Option (Bool)
 | 0, _, _, _, _, _, _, _, _, _, _, _, _, _, _, _, _, _, _, _ => none
 | k + 1, x1, x6, x12, x13, x0z, x1z, x2z, x3z, x4z, x5z, x6z, x7z, x8z, x9z, x10z, x11z, x12z, x13z, x14z => if x13 = true then (code_all.q.j4 k x6 x0z x1z x2z x3z x4z x5z x6z x7z x8z x9z x10z x11z x12z x13z x14z ([] : List Int) ([] : List (S45)) ([] : List (S45))) else (if x12 = 2 then (code_all.q.j1 k x1 x6 x12 (x12 == 2) x0z x1z x2z x3z x4z x5z x6z x7z x8z x9z x10z x11z x12z x13z x14z) else (code_all.q.j1 k x1 x6 x12 (x12 == 3) x0z x1z x2z x3z x4z x5z x6z x7z x8z x9z x10z x11z x12z x13z x14z))
def code_all.q.j1 : Nat → Int → Bool → Int → Bool → Int → Int → Int → Int → Int → Int → List Int → List (S45) → List (S45) → Int → Int → Int → Int → Int → Int → Option (Bool)
 | 0, _, _, _, _, _, _, _, _, _, _, _, _, _, _, _, _, _, _, _ => none
 | k + 1, x1, x6, x12, x16, x0z, x1z, x2z, x3z, x4z, x5z, x6z, x7z, x8z, x9z, x10z, x11z, x12z, x13z, x14z => if x16 = true then ((code_typ.f x1z).bind fun t423 => (if t423 = true then (if x1 < 40 then ((code_all.f k x7z (wrap64 (x1 + 1))).bind fun t424 => (code_all.q.j2 k x1 t424 x0z x1z x2z x3z x4z x5z x6z x7z x8z x9z x1z x11z x12z x13z x14z x7z)) else (code_all.q.j2 k x1 false x0z x1z x2z x3z x4z x5z x6z x7z x8z x9z x1z x11z x12z x13z x14z x7z)) else (code_all.q.j2 k x1 false x0z x1z x2z x3z x4z x5z x6z x7z x8z x9z x1z x11z x12z x13z x14z x7z))) else (if x12 = 4 then (code_all.q.j3 k x6 x12 (x12 == 4) x0z x1z x2z x3z x4z x5z x6z x7z x8z x9z x10z x11z x12z x13z x14z) else (code_all.q.j3 k x6 x12 (x12 == 6) x0z x1z x2z x3z x4z x5z x6z x7z x8z x9z x10z x11z x12z x13z x14z))
def code_all.q.j2 : Nat → Int → Bool → Int → Int → Int → Int → Int → Int → List Int → List (S45) → List (S45) → Int → Int → Int → Int → Int → Int → List (S45) → Option (Bool)
 | 0, _, _, _, _, _, _, _, _, _, _, _, _, _, _, _, _, _, _ => none
 | k + 1, x1, x6, x0z, x1z, x2z, x3z, x4z, x5z, x6z, x7z, x8z, x9z, x10z, x11z, x12z, x13z, x14z, x16z => if x0z = 4 then (if x6 = true then ((code_all.f k x8z (wrap64 (x1 + 1))).bind fun t425 => (code_all.q.j4 k t425 x0z x1z x2z x3z x4z x5z x6z x7z x8z x9z x10z x11z x12z x13z x14z ([] : List Int) x16z x8z)) else (code_all.q.j4 k false x0z x1z x2z x3z x4z x5z x6z x7z x8z x9z x10z x11z x12z x13z x14z ([] : List Int) x16z x8z)) else (code_all.q.j4 k x6 x0z x1z x2z x3z x4z x5z x6z x7z x8z x9z x10z x11z x12z x13z x14z ([] : List Int) x16z ([] : List (S45)))
def code_all.q.j3 : Nat → Bool → Int → Bool → Int → Int → Int → Int → Int → Int → List Int → List (S45) → List (S45) → Int → Int → Int → Int → Int → Int → Option (Bool)
 | 0, _, _, _, _, _, _, _, _, _, _, _, _, _, _, _, _, _, _ => none
 | k + 1, x6, x12, x53, x0z, x1z, x2z, x3z, x4z, x5z, x6z, x7z, x8z, x9z, x10z, x11z, x12z, x13z, x14z => if x53 = true then (code_all.q.j4 k x6 x0z x1z x2z x3z x4z x5z x6z x7z x8z x9z x10z x2z x12z x13z x14z ([] : List Int) ([] : List (S45)) ([] : List (S45))) else (if x12 = 5 then ((code_good_1_slices_ContainsFunc.f k x6z).bind fun t426 => (code_all.q.j4 k (!t426) x0z x1z x2z x3z x4z x5z x6z x7z x8z x9z x10z x2z x12z x13z x14z x6z ([] : List (S45)) ([] : List (S45)))) else (if x12 = 7 then (code_all.q.j4 k x6 x0z x1z x2z x3z x4z x5z x6z x7z x8z x9z x10z x11z x3z x4z x14z ([] : List Int) ([] : List (S45)) ([] : List (S45))) else (if x12 = 9 then (code_all.q.j4 k (x5z == (wrap64 (wrap32 (x5z)))) x0z x1z x2z x3z x4z x5z x6z x7z x8z x9z x10z x11z x12z x13z x5z ([] : List Int) ([] : List (S45)) ([] : List (S45))) else (if x12 = 10 then (code_all.q.j4 k x6 x0z x1z x2z x3z x4z x5z x6z x7z x8z x9z x10z x11z x12z x13z x5z ([] : List Int) ([] : List (S45)) ([] : List (S45))) else (some false)))))
def code_all.q.f : Nat → Int → Int → Int → Int → Int → Int → List Int → List (S45) → List (S45) → Int → Option (Bool)
 | 0, _, _, _, _, _, _, _, _, _, _ => none
 | k + 1, a0_0, a0_1, a0_2, a0_3, a0_4, a0_5, l0_6, l0_7, l0_8, a1 => (code_shape.f k a0_0).bind fun t422 => (if t422 = 1 then (code_all.q.j0 k a1 true t422 (t422 == 1) a0_0 a0_1 a0_2 a0_3 a0_4 a0_5 l0_6 l0_7 l0_8 a0_0 0 0 0 0 0) else (code_all.q.j0 k a1 true t422 (t422 == 8) a0_0 a0_1 a0_2 a0_3 a0_4 a0_5 l0_6 l0_7 l0_8 a0_0 0 0 0 0 0))
def code_all.q1.f : Nat → Int → Int → Int → Int → Int → Int → List Int → List (S45) → List (S45) → Int → Option (Bool)
 | 0, _, _, _, _, _, _, _, _, _, _ => none
 | k + 1, a0_0, a0_1, a0_2, a0_3, a0_4, a0_5, l0_6, l0_7, l0_8, a1_0 => (code_all.q.f k a0_0 a0_1 a0_2 a0_3 a0_4 a0_5 l0_6 l0_7 l0_8 a1_0).bind fun t431 => (some (!t431))
def code_all.q2.l0 : Nat → List (S45) → Int → Int → Int → Option (Int)
 | 0, _, _, _, _ => none
 | k + 1, x0, x7, x8, x56000 => if x8 < x7 then (if 0 ≤ x8 then (if x8 < (x0.length : Int) then ((code_all.q1.f k ((rd_T45 x0 x8).f0) ((rd_T45 x0 x8).f1) ((rd_T45 x0 x8).f2) ((rd_T45 x0 x8).f3) ((rd_T45 x0 x8).f4) ((rd_T45 x0 x8).f5) ((rd_T45 x0 x8).f6) ((rd_T45 x0 x8).f7) ((rd_T45 x0 x8).f8) x56000).bind fun t433 => (if t433 = true then (some x8) else (code_all.q2.l0 k x0 x7 (wrap64 (x8 + 1)) x56000))) else (none)) else (none)) else (some (-1))
def code_all.q2.f : Nat → List (S45) → Int → Option (Int)
 | 0, _, _ => none
 | k + 1, l0, a1_0 => code_all.q2.l0 k l0 (l0.length : Int) 0 a1_0
def code_all.q3.f : Nat → List (S45) → Int → Option (Bool)
 | 0, _, _ => none
 | k + 1, l0, a1_0 => (code_all.q2.f k l0 a1_0).bind fun t434 => (some (decide (t434 ≥ 0)))
def code_all.f : Nat → List (S45) → Int → Option (Bool)
 | 0, _, _ => none
 | k + 1, l0, a1 => (code_all.q3.f k l0 a1).bind fun t436 => (some (!t436))
end
theorem code_all.mono_l : ∀ k, (∀ y0 y1, LeO (code_all.f k y0 y1) (code_all.f (k + 1) y0 y1)) ∧ (∀ y0 y1 y2 y3 y4 y5 y6 y7 y8 y9, LeO (code_all.q.f k y0 y1 y2 y3 y4 y5 y6 y7 y8 y9) (code_all.q.f (k + 1) y0 y1 y2 y3 y4 y5 y6 y7 y8 y9)) ∧ (∀ y0 y1 y2 y3 y4 y5 y6 y7 y8 y9 y10 y11 y12 y13 y14 y15 y16 y17 y18, LeO (code_all.q.j4 k y0 y1 y2 y3 y4 y5 y6 y7 y8 y9 y10 y11 y12 y13 y14 y15 y16 y17 y18) (code_all.q.j4 (k + 1) y0 y1 y2 y3 y4 y5 y6 y7 y8 y9 y10 y11 y12 y13 y14 y15 y16 y17 y18)) ∧ (∀ y0 y1 y2 y3 y4 y5 y6 y7 y8 y9 y10 y11 y12 y13 y14 y15 y16 y17 y18, LeO (code_all.q.j0 k y0 y1 y2 y3 y4 y5 y6 y7 y8 y9 y10 y11 y12 y13 y14 y15 y16 y17 y18) (code_all.q.j0 (k + 1) y0 y1 y2 y3 y4 y5 y6 y7 y8 y9 y10 y11 y12 y13 y14 y15 y16 y17 y18)) ∧ (∀ y0 y1 y2 y3 y4 y5 y6 y7 y8 y9 y10 y11 y12 y13 y14 y15 y16 y17 y18, LeO (code_all.q.j1 k y0 y1 y2 y3 y4 y5 y6 y7 y8 y9 y10 y11 y12 y13 y14 y15 y16 y17 y18) (code_all.q.j1 (k + 1) y0 y1 y2 y3 y4 y5 y6 y7 y8 y9 y10 y11 y12 y13 y14 y15 y16 y17 y18)) ∧ (∀ y0 y1 y2 y3 y4 y5 y6 y7 y8 y9 y10 y11 y12 y13 y14 y15 y16 y17, LeO (code_all.q.j2 k y0 y1 y2 y3 y4 y5 y6 y7 y8 y9 y10 y11 y12 y13 y14 y15 y16 y17) (code_all.q.j2 (k + 1) y0 y1 y2 y3 y4 y5 y6 y7 y8 y9 y10 y11 y12 y13 y14 y15 y16 y17)) ∧ (∀ y0 y1 y2 y3 y4 y5 y6 y7 y8 y9 y10 y11 y12 y13 y14 y15 y16 y17, LeO (code_all.q.j3 k y0 y1 y2 y3 y4 y5 y6 y7 y8 y9 y10 y11 y12 y13 y14 y15 y16 y17) (code_all.q.j3 (k + 1) y0 y1 y2 y3 y4 y5 y6 y7 y8 y9 y10 y11 y12 y13 y14 y15 y16 y17)) ∧ (∀ y0 y1 y2 y3 y4 y5 y6 y7 y8 y9, LeO (code_all.q1.f k y0 y1 y2 y3 y4 y5 y6 y7 y8 y9) (code_all.q1.f (k + 1) y0 y1 y2 y3 y4 y5 y6 y7 y8 y9)) ∧ (∀ y0 y1, LeO (code_all.q2.f k y0 y1) (code_all.q2.f (k + 1) y0 y1)) ∧ (∀ y0 y1 y2 y3, LeO (code_all.q2.l0 k y0 y1 y2 y3) (code_all.q2.l0 (k + 1) y0 y1 y2 y3)) ∧ (∀ y0 y1, LeO (code_all.q3.f k y0 y1) (code_all.q3.f (k + 1) y0 y1))
 | 0 => ⟨fun _ _ r h => by simp [code_all.f] at h, fun _ _ _ _ _ _ _ _ _ _ r h => by simp [code_all.q.f] at h, fun _ _ _ _ _ _ _ _ _ _ _ _ _ _ _ _ _ _ _ r h => by simp [code_all.q.j4] at h, fun _ _ _ _ _ _ _ _ _ _ _ _ _ _ _ _ _ _ _ r h => by simp [code_all.q.j0] at h, fun _ _ _ _ _ _ _ _ _ _ _ _ _ _ _ _ _ _ _ r h => by simp [code_all.q.j1] at h, fun _ _ _ _ _ _ _ _ _ _ _ _ _ _ _ _ _ _ r h => by simp [code_all.q.j2] at h, fun _ _ _ _ _ _ _ _ _ _ _ _ _ _ _ _ _ _ r h => by simp [code_all.q.j3] at h, fun _ _ _ _ _ _ _ _ _ _ r h => by simp [code_all.q1.f] at h, fun _ _ r h => by simp [code_all.q2.f] at h, fun _ _ _ _ r h => by simp [code_all.q2.l0] at h, fun _ _ r h => by simp [code_all.q3.f] at h⟩
 | k + 1 => by
  obtain ⟨ih0, ih1, ih2, ih3, ih4, ih5, ih6, ih7, ih8, ih9, ih10⟩ := code_all.mono_l k; refine ⟨?_, ?_, ?_, ?_, ?_, ?_, ?_, ?_, ?_, ?_, ?_⟩ <;> (intros; (first | unfold code_all.f | unfold code_all.q.f | unfold code_all.q.j4 | unfold code_all.q.j0 | unfold code_all.q.j1 | unfold code_all.q.j2 | unfold code_all.q.j3 | unfold code_all.q1.f | unfold code_all.q2.f | unfold code_all.q2.l0 | unfold code_all.q3.f); repeat' first | (with_reducible apply ih0) | (with_reducible apply ih1) | (with_reducible apply ih2) | (with_reducible apply ih3) | (with_reducible apply ih4) | (with_reducible apply ih5) | (with_reducible apply ih6) | (with_reducible apply ih7) | (with_reducible apply ih8) | (with_reducible apply ih9) | (with_reducible apply ih10) | (with_reducible exact code_good_1_slices_ContainsFunc.mono _ _) | (with_reducible exact code_shape.mono _ _) | (with_reducible exact LeO.refl _) | (with_reducible exact LeO.none _) | (with_reducible refine LeO.ite ?_ ?_) | (with_reducible refine LeO.bind ?_ (fun _ => ?_)) | apply ih0 | apply ih1 | apply ih2 | apply ih3 | apply ih4 | apply ih5 | apply ih6 | apply ih7 | apply ih8 | apply ih9 | apply ih10 | exact code_good_1_slices_ContainsFunc.mono _ _ | exact code_shape.mono _ _ | exact LeO.none _ | refine LeO.ite ?_ ?_ | refine LeO.bind ?_ (fun _ => ?_))
theorem code_all.mono : ∀ a0 a1 k, LeO (code_all.f k a0 a1) (code_all.f (k + 1) a0 a1) := by
 intro a0 a1 k; obtain ⟨ih0, ih1, ih2, ih3, ih4, ih5, ih6, ih7, ih8, ih9, ih10⟩ := code_all.mono_l k; exact ih0 a0 a1
theorem code_all.q.mono : ∀ a0 a1 a2 a3 a4 a5 a6 a7 a8 a9 k, LeO (code_all.q.f k a0 a1 a2 a3 a4 a5 a6 a7 a8 a9) (code_all.q.f (k + 1) a0 a1 a2 a3 a4 a5 a6 a7 a8 a9) := by
  intro a0 a1 a2 a3 a4 a5 a6 a7 a8 a9 k
  obtain ⟨ih0, ih1, ih2, ih3, ih4, ih5, ih6, ih7, ih8, ih9, ih10⟩ := code_all.mono_l k
  exact ih1 a0 a1 a2 a3 a4 a5 a6 a7 a8 a9
theorem code_all.q1.mono : ∀ a0 a1 a2 a3 a4 a5 a6 a7 a8 a9 k, LeO (code_all.q1.f k a0 a1 a2 a3 a4 a5 a6 a7 a8 a9) (code_all.q1.f (k + 1) a0 a1 a2 a3 a4 a5 a6 a7 a8 a9) := by
  intro a0 a1 a2 a3 a4 a5 a6 a7 a8 a9 k
  obtain ⟨ih0, ih1, ih2, ih3, ih4, ih5, ih6, ih7, ih8, ih9, ih10⟩ := code_all.mono_l k
  exact ih7 a0 a1 a2 a3 a4 a5 a6 a7 a8 a9
theorem code_all.q2.mono : ∀ a0 a1 k, LeO (code_all.q2.f k a0 a1) (code_all.q2.f (k + 1) a0 a1) := by
  intro a0 a1 k
  obtain ⟨ih0, ih1, ih2, ih3, ih4, ih5, ih6, ih7, ih8, ih9, ih10⟩ := code_all.mono_l k
  exact ih8 a0 a1
theorem code_all.q3.mono : ∀ a0 a1 k, LeO (code_all.q3.f k a0 a1) (code_all.q3.f (k + 1) a0 a1) := by
  intro a0 a1 k
  obtain ⟨ih0, ih1, ih2, ih3, ih4, ih5, ih6, ih7, ih8, ih9, ih10⟩ := code_all.mono_l k
  exact ih10 a0 a1

end Go.Proofs.Ytlahigmoljflkaa.PAll
