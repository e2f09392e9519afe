/- Printed by a copy of the printer that was turned for this claim: functions as plain Lean functions, with proofs that their calls come to these; or words that such proofs use. -/
import Derived.Test.YtlahigmoljflkaaPAllx0
import Derived.Test.YtlahigmoljflkaaPAllx11
namespace Go.Proofs.Ytlahigmoljflkaa.PAll
open Go.RowKit Go.Proofs.YtlahigmoljflkaaW.PrintWords Go.Proofs.YtlahigmoljflkaaW.PrintLast Go.Proofs.YtlahigmoljflkaaW.PrintMore
attribute [local go_sem] max2_int min2_int max_two min_two max_three min_three max_four min_four   -- for this text's walks alone
set_option linter.unusedVariables false
set_option linter.unusedSimpArgs false

abbrev gangwayref5_May.t : Bool := true
theorem gangwayref5_May.bc {w : World} {g : Nat} {cs : Array Value} {t : TypeId} (h : Aside0 (w.heap[g]? = some (.cells cs t (0, 0)))) (i : Nat) {v : Value} (e : cs[i]? = some v := by rfl) : w.cell? ⟨g, i, none⟩ = some v := (blk_cell h.out i).trans e
theorem gangwayref5_May.bbelow {W0 w w1 : World} {g : Nat} {o : Obj} (_b : Aside0 (W0.heap[g]? = some o)) (h : w.heap[g]? = some o) (hb : Below w.heap.size w w1) : w1.heap[g]? = some o := blk_below h hb
theorem gangwayref5_May.e1 {α : Type _} (xs : List α) (i : Nat) (a : α) : xs.toArray.setIfInBounds i a = (xs.set i a).toArray := by simp
theorem gangwayref5_May.e2 {α : Type _} (x a : α) (xs : List α) : (x :: xs).set 0 a = a :: xs := rfl
theorem gangwayref5_May.e3 {α : Type _} (x a : α) (xs : List α) (n : Nat) : (x :: xs).set (n + 1) a = x :: xs.set n a := rfl
theorem gangwayref5_May.up {w w' : World} {a : Addr} {v : Value} (hb : Aside0 (Below w.heap.size w w')) (h : w.cell? a = some v) : w'.cell? a = some v := (hb.out.cell (World.block_lt_of_cell? w _ h)).trans h
mutual
def gangwayref5_May.q.j10 : Nat → Bool → Int → Int → Int → Int → Int → Int → List Int → List (S45) → List (S45) → Int → Int → Int → Int → Int → Int → List Int → List (S45) → List (S45) → Option (Bool)
 | 0, _, _, _, _, _, _, _, _, _, _, _, _, _, _, _, _, _, _, _ => none
 | k + 1, x6, x0z, x1z, x2z, x3z, x4z, x5z, x6z, x7z, x8z, x9z, x10z, x11z, x12z, x13z, x14z, x15z, x16z, x17z => if x6 = true then (if x0z = x9z then (if x1z = x10z then (if x2z = x11z then (if x3z = x12z then (if x4z = x13z then (if x5z = x14z then (if (x6z.length : Int) = (x15z.length : Int) then (if (x7z.length : Int) = (x16z.length : Int) then (gangwayref5_May.q.j11 k ((x8z.length : Int) == (x17z.length : Int))) else (gangwayref5_May.q.j11 k false)) else (gangwayref5_May.q.j11 k false)) else (gangwayref5_May.q.j11 k false)) else (gangwayref5_May.q.j11 k false)) else (gangwayref5_May.q.j11 k false)) else (gangwayref5_May.q.j11 k false)) else (gangwayref5_May.q.j11 k false)) else (gangwayref5_May.q.j11 k false)) else (gangwayref5_May.q.j11 k false)
def gangwayref5_May.q.j11 : Nat → Bool → Option (Bool)
 | 0, _ => none
 | k + 1, x4 => some x4
def gangwayref5_May.q.j0 : Nat → Int → Bool → Int → Int → Int → Int → Int → Int → List Int → List (S45) → List (S45) → Int → Int → Int → Int → Int → Int → List (S45) → Option (Bool)
 | 0, _, _, _, _, _, _, _, _, _, _, _, _, _, _, _, _, _, _ => none
 | k + 1, x1, x6, x0z, x1z, x2z, x3z, x4z, x5z, x6z, x7z, x8z, x9z, x10z, x11z, x12z, x13z, x14z, x16z => if x0z = 4 then (if x6 = true then ((gangwayref5_May.f k x8z (wrap64 (x1 - 1))).bind fun t286 => (gangwayref5_May.q.j1 k t286 x0z x1z x2z x3z x4z x5z x6z x7z x8z x9z x10z x11z x12z x13z x14z x16z x8z)) else (gangwayref5_May.q.j1 k false x0z x1z x2z x3z x4z x5z x6z x7z x8z x9z x10z x11z x12z x13z x14z x16z x8z)) else (gangwayref5_May.q.j1 k x6 x0z x1z x2z x3z x4z x5z x6z x7z x8z x9z x10z x11z x12z x13z x14z x16z ([] : List (S45)))
def gangwayref5_May.q.j1 : Nat → Bool → Int → Int → Int → Int → Int → Int → List Int → List (S45) → List (S45) → Int → Int → Int → Int → Int → Int → List (S45) → List (S45) → Option (Bool)
 | 0, _, _, _, _, _, _, _, _, _, _, _, _, _, _, _, _, _, _ => none
 | k + 1, x6, x0z, x1z, x2z, x3z, x4z, x5z, x6z, x7z, x8z, x9z, x10z, x11z, x12z, x13z, x14z, x16z, x17z => gangwayref5_May.q.j10 k x6 x0z x1z x2z x3z x4z x5z x6z x7z x8z x9z x10z x11z x12z x13z x14z ([] : List Int) x16z x17z
def gangwayref5_May.q.j2 : Nat → Bool → Int → Bool → Int → Int → Int → Int → Int → Int → List Int → List (S45) → List (S45) → Int → Int → Int → Int → Int → Int → Option (Bool)
 | 0, _, _, _, _, _, _, _, _, _, _, _, _, _, _, _, _, _, _ => none
 | k + 1, x6, x13, x60, x0z, x1z, x2z, x3z, x4z, x5z, x6z, x7z, x8z, x9z, x10z, x11z, x12z, x13z, x14z => if x60 = true then ((gangwayref5_in.f x2z).bind fun t287 => (gangwayref5_May.q.j9 k t287 x0z x1z x2z x3z x4z x5z x6z x7z x8z x9z x10z x2z x12z x13z x14z ([] : List Int))) else (if x13 = 4 then ((gangwayref5_in.f x2z).bind fun t288 => (gangwayref5_May.q.l0 k t288 0 x0z x1z x2z x3z x4z x5z x6z x7z x8z x9z x10z x2z x12z x13z x14z x6z)) else (if x13 = 6 then ((gangwayref5_in.f x3z).bind fun t291 => (if t291 = true then ((gangwayref5_in.f x4z).bind fun t292 => (gangwayref5_May.q.j7 k t292 x0z x1z x2z x3z x4z x5z x6z x7z x8z x9z x10z x11z x3z x4z x14z)) else (gangwayref5_May.q.j7 k false x0z x1z x2z x3z x4z x5z x6z x7z x8z x9z x10z x11z x3z x4z x14z))) else (if x13 = 8 then (if x5z ≥ (-2147483648) then (gangwayref5_May.q.j6 k (decide (x5z < 2147483648)) x0z x1z x2z x3z x4z x5z x6z x7z x8z x9z x10z x11z x12z x13z x5z) else (gangwayref5_May.q.j6 k false x0z x1z x2z x3z x4z x5z x6z x7z x8z x9z x10z x11z x12z x13z x5z)) else (if x13 = 9 then (gangwayref5_May.q.j5 k x6 x0z x1z x2z x3z x4z x5z x6z x7z x8z x9z x10z x11z x12z x13z x5z) else (gangwayref5_May.q.j5 k x6 x0z x1z x2z x3z x4z x5z x6z x7z x8z x9z x10z x11z x12z x13z x14z)))))
def gangwayref5_May.q.j9 : Nat → Bool → Int → Int → Int → Int → Int → Int → List Int → List (S45) → List (S45) → Int → Int → Int → Int → Int → Int → List Int → Option (Bool)
 | 0, _, _, _, _, _, _, _, _, _, _, _, _, _, _, _, _, _ => none
 | k + 1, x6, x0z, x1z, x2z, x3z, x4z, x5z, x6z, x7z, x8z, x9z, x10z, x11z, x12z, x13z, x14z, x15z => gangwayref5_May.q.j10 k x6 x0z x1z x2z x3z x4z x5z x6z x7z x8z x9z x10z x11z x12z x13z x14z x15z ([] : List (S45)) ([] : List (S45))
def gangwayref5_May.q.j8 : Nat → Bool → Int → Int → Int → Int → Int → Int → List Int → List (S45) → List (S45) → Int → Int → Int → Int → Int → Int → List Int → Option (Bool)
 | 0, _, _, _, _, _, _, _, _, _, _, _, _, _, _, _, _, _ => none
 | k + 1, x6, x0z, x1z, x2z, x3z, x4z, x5z, x6z, x7z, x8z, x9z, x10z, x11z, x12z, x13z, x14z, x15z => gangwayref5_May.q.j9 k x6 x0z x1z x2z x3z x4z x5z x6z x7z x8z x9z x10z x11z x12z x13z x14z x15z
def gangwayref5_May.q.l0 : Nat → Bool → Int → Int → Int → Int → Int → Int → Int → List Int → List (S45) → List (S45) → Int → Int → Int → Int → Int → Int → List Int → Option (Bool)
 | 0, _, _, _, _, _, _, _, _, _, _, _, _, _, _, _, _, _, _ => none
 | k + 1, x6, x7, x0z, x1z, x2z, x3z, x4z, x5z, x6z, x7z, x8z, x9z, x10z, x11z, x12z, x13z, x14z, x15z => if x7 < (x6z.length : Int) then (if x6 = true then (if 0 ≤ x7 then ((gangwayref5_in.f (rd x6z x7)).bind fun t290 => (gangwayref5_May.q.j4 k t290 x7 x0z x1z x2z x3z x4z x5z x6z x7z x8z x9z x10z x11z x12z x13z x14z x15z)) else (none)) else (gangwayref5_May.q.j4 k false x7 x0z x1z x2z x3z x4z x5z x6z x7z x8z x9z x10z x11z x12z x13z x14z x15z)) else (gangwayref5_May.q.j8 k x6 x0z x1z x2z x3z x4z x5z x6z x7z x8z x9z x10z x11z x12z x13z x14z x15z)
def gangwayref5_May.q.j4 : Nat → Bool → Int → Int → Int → Int → Int → Int → Int → List Int → List (S45) → List (S45) → Int → Int → Int → Int → Int → Int → List Int → Option (Bool)
 | 0, _, _, _, _, _, _, _, _, _, _, _, _, _, _, _, _, _, _ => none
 | k + 1, x6, x7, x0z, x1z, x2z, x3z, x4z, x5z, x6z, x7z, x8z, x9z, x10z, x11z, x12z, x13z, x14z, x15z => gangwayref5_May.q.l0 k x6 (wrap64 (x7 + 1)) x0z x1z x2z x3z x4z x5z x6z x7z x8z x9z x10z x11z x12z x13z x14z x15z
def gangwayref5_May.q.j7 : Nat → Bool → Int → Int → Int → Int → Int → Int → List Int → List (S45) → List (S45) → Int → Int → Int → Int → Int → Int → Option (Bool)
 | 0, _, _, _, _, _, _, _, _, _, _, _, _, _, _, _, _ => none
 | k + 1, x6, x0z, x1z, x2z, x3z, x4z, x5z, x6z, x7z, x8z, x9z, x10z, x11z, x12z, x13z, x14z => gangwayref5_May.q.j8 k x6 x0z x1z x2z x3z x4z x5z x6z x7z x8z x9z x10z x11z x12z x13z x14z ([] : List Int)
def gangwayref5_May.q.j6 : Nat → Bool → Int → Int → Int → Int → Int → Int → List Int → List (S45) → List (S45) → Int → Int → Int → Int → Int → Int → Option (Bool)
 | 0, _, _, _, _, _, _, _, _, _, _, _, _, _, _, _, _ => none
 | k + 1, x6, x0z, x1z, x2z, x3z, x4z, x5z, x6z, x7z, x8z, x9z, x10z, x11z, x12z, x13z, x14z => gangwayref5_May.q.j7 k x6 x0z x1z x2z x3z x4z x5z x6z x7z x8z x9z x10z x11z x12z x13z x14z
def gangwayref5_May.q.j5 : Nat → Bool → Int → Int → Int → Int → Int → Int → List Int → List (S45) → List (S45) → Int → Int → Int → Int → Int → Int → Option (Bool)
 | 0, _, _, _, _, _, _, _, _, _, _, _, _, _, _, _, _ => none
 | k + 1, x6, x0z, x1z, x2z, x3z, x4z, x5z, x6z, x7z, x8z, x9z, x10z, x11z, x12z, x13z, x14z => gangwayref5_May.q.j6 k x6 x0z x1z x2z x3z x4z x5z x6z x7z x8z x9z x10z x11z x12z x13z x14z
def gangwayref5_May.q.f : Nat → Int → Int → Int → Int → Int → Int → List Int → List (S45) → List (S45) → Int → Option (Bool)
 | 0, _, _, _, _, _, _, _, _, _, _ => none
 | k + 1, a0_0, a0_1, a0_2, a0_3, a0_4, a0_5, l0_6, l0_7, l0_8, a1 => (gangwayref5_shape.f k a0_0).bind fun t282 => (if t282 = 0 then (some false) else (if t282 = 2 then (if a1 = 0 then (some false) else (if a0_1 = 64 then ((gangwayref5_May.f k l0_7 (wrap64 (a1 - 1))).bind fun t283 => (gangwayref5_May.q.j0 k a1 t283 a0_0 a0_1 a0_2 a0_3 a0_4 a0_5 l0_6 l0_7 l0_8 a0_0 a0_1 0 0 0 0 l0_7)) else (if a0_1 = 127 then ((gangwayref5_May.f k l0_7 (wrap64 (a1 - 1))).bind fun t284 => (gangwayref5_May.q.j0 k a1 t284 a0_0 a0_1 a0_2 a0_3 a0_4 a0_5 l0_6 l0_7 l0_8 a0_0 a0_1 0 0 0 0 l0_7)) else (if a0_1 = 126 then ((gangwayref5_May.f k l0_7 (wrap64 (a1 - 1))).bind fun t285 => (gangwayref5_May.q.j0 k a1 t285 a0_0 a0_1 a0_2 a0_3 a0_4 a0_5 l0_6 l0_7 l0_8 a0_0 a0_1 0 0 0 0 l0_7)) else (gangwayref5_May.q.j0 k a1 false a0_0 a0_1 a0_2 a0_3 a0_4 a0_5 l0_6 l0_7 l0_8 a0_0 a0_1 0 0 0 0 l0_7))))) else (if t282 = 3 then (gangwayref5_May.q.j2 k true t282 (t282 == 3) a0_0 a0_1 a0_2 a0_3 a0_4 a0_5 l0_6 l0_7 l0_8 a0_0 0 0 0 0 0) else (gangwayref5_May.q.j2 k true t282 (t282 == 5) a0_0 a0_1 a0_2 a0_3 a0_4 a0_5 l0_6 l0_7 l0_8 a0_0 0 0 0 0 0))))
def gangwayref5_May.l0 : Nat → List (S45) → Int → Int → Option (Bool)
 | 0, _, _, _ => none
 | k + 1, x0, x1, x5 => if x5 < (x0.length : Int) then (if 0 ≤ x5 then ((gangwayref5_May.q.f k ((rd_T45 x0 x5).f0) ((rd_T45 x0 x5).f1) ((rd_T45 x0 x5).f2) ((rd_T45 x0 x5).f3) ((rd_T45 x0 x5).f4) ((rd_T45 x0 x5).f5) ((rd_T45 x0 x5).f6) ((rd_T45 x0 x5).f7) ((rd_T45 x0 x5).f8) x1).bind fun t294 => (if t294 = true then (gangwayref5_May.l0 k x0 x1 (wrap64 (x5 + 1))) else (some false))) else (none)) else (some true)
def gangwayref5_May.f : Nat → List (S45) → Int → Option (Bool)
 | 0, _, _ => none
 | k + 1, l0, a1 => gangwayref5_May.l0 k l0 a1 0
end
theorem gangwayref5_May.mono_l : ∀ k, (∀ y0 y1, LeO (gangwayref5_May.f k y0 y1) (gangwayref5_May.f (k + 1) y0 y1)) ∧ (∀ y0 y1 y2, LeO (gangwayref5_May.l0 k y0 y1 y2) (gangwayref5_May.l0 (k + 1) y0 y1 y2)) ∧ (∀ y0 y1 y2 y3 y4 y5 y6 y7 y8 y9, LeO (gangwayref5_May.q.f k y0 y1 y2 y3 y4 y5 y6 y7 y8 y9) (gangwayref5_May.q.f (k + 1) y0 y1 y2 y3 y4 y5 y6 y7 y8 y9)) ∧ (∀ y0 y1 y2 y3 y4 y5 y6 y7 y8 y9 y10 y11 y12 y13 y14 y15 y16 y17 y18, LeO (gangwayref5_May.q.j10 k y0 y1 y2 y3 y4 y5 y6 y7 y8 y9 y10 y11 y12 y13 y14 y15 y16 y17 y18) (gangwayref5_May.q.j10 (k + 1) y0 y1 y2 y3 y4 y5 y6 y7 y8 y9 y10 y11 y12 y13 y14 y15 y16 y17 y18)) ∧ (∀ y0, LeO (gangwayref5_May.q.j11 k y0) (gangwayref5_May.q.j11 (k + 1) y0)) ∧ (∀ y0 y1 y2 y3 y4 y5 y6 y7 y8 y9 y10 y11 y12 y13 y14 y15 y16 y17, LeO (gangwayref5_May.q.j0 k y0 y1 y2 y3 y4 y5 y6 y7 y8 y9 y10 y11 y12 y13 y14 y15 y16 y17) (gangwayref5_May.q.j0 (k + 1) y0 y1 y2 y3 y4 y5 y6 y7 y8 y9 y10 y11 y12 y13 y14 y15 y16 y17)) ∧ (∀ y0 y1 y2 y3 y4 y5 y6 y7 y8 y9 y10 y11 y12 y13 y14 y15 y16 y17, LeO (gangwayref5_May.q.j1 k y0 y1 y2 y3 y4 y5 y6 y7 y8 y9 y10 y11 y12 y13 y14 y15 y16 y17) (gangwayref5_May.q.j1 (k + 1) y0 y1 y2 y3 y4 y5 y6 y7 y8 y9 y10 y11 y12 y13 y14 y15 y16 y17)) ∧ (∀ y0 y1 y2 y3 y4 y5 y6 y7 y8 y9 y10 y11 y12 y13 y14 y15 y16 y17, LeO (gangwayref5_May.q.j2 k y0 y1 y2 y3 y4 y5 y6 y7 y8 y9 y10 y11 y12 y13 y14 y15 y16 y17) (gangwayref5_May.q.j2 (k + 1) y0 y1 y2 y3 y4 y5 y6 y7 y8 y9 y10 y11 y12 y13 y14 y15 y16 y17)) ∧ (∀ y0 y1 y2 y3 y4 y5 y6 y7 y8 y9 y10 y11 y12 y13 y14 y15 y16, LeO (gangwayref5_May.q.j9 k y0 y1 y2 y3 y4 y5 y6 y7 y8 y9 y10 y11 y12 y13 y14 y15 y16) (gangwayref5_May.q.j9 (k + 1) y0 y1 y2 y3 y4 y5 y6 y7 y8 y9 y10 y11 y12 y13 y14 y15 y16)) ∧ (∀ y0 y1 y2 y3 y4 y5 y6 y7 y8 y9 y10 y11 y12 y13 y14 y15 y16, LeO (gangwayref5_May.q.j8 k y0 y1 y2 y3 y4 y5 y6 y7 y8 y9 y10 y11 y12 y13 y14 y15 y16) (gangwayref5_May.q.j8 (k + 1) y0 y1 y2 y3 y4 y5 y6 y7 y8 y9 y10 y11 y12 y13 y14 y15 y16)) ∧ (∀ y0 y1 y2 y3 y4 y5 y6 y7 y8 y9 y10 y11 y12 y13 y14 y15 y16 y17, LeO (gangwayref5_May.q.l0 k y0 y1 y2 y3 y4 y5 y6 y7 y8 y9 y10 y11 y12 y13 y14 y15 y16 y17) (gangwayref5_May.q.l0 (k + 1) y0 y1 y2 y3 y4 y5 y6 y7 y8 y9 y10 y11 y12 y13 y14 y15 y16 y17)) ∧ (∀ y0 y1 y2 y3 y4 y5 y6 y7 y8 y9 y10 y11 y12 y13 y14 y15 y16 y17, LeO (gangwayref5_May.q.j4 k y0 y1 y2 y3 y4 y5 y6 y7 y8 y9 y10 y11 y12 y13 y14 y15 y16 y17) (gangwayref5_May.q.j4 (k + 1) y0 y1 y2 y3 y4 y5 y6 y7 y8 y9 y10 y11 y12 y13 y14 y15 y16 y17)) ∧ (∀ y0 y1 y2 y3 y4 y5 y6 y7 y8 y9 y10 y11 y12 y13 y14 y15, LeO (gangwayref5_May.q.j7 k y0 y1 y2 y3 y4 y5 y6 y7 y8 y9 y10 y11 y12 y13 y14 y15) (gangwayref5_May.q.j7 (k + 1) y0 y1 y2 y3 y4 y5 y6 y7 y8 y9 y10 y11 y12 y13 y14 y15)) ∧ (∀ y0 y1 y2 y3 y4 y5 y6 y7 y8 y9 y10 y11 y12 y13 y14 y15, LeO (gangwayref5_May.q.j6 k y0 y1 y2 y3 y4 y5 y6 y7 y8 y9 y10 y11 y12 y13 y14 y15) (gangwayref5_May.q.j6 (k + 1) y0 y1 y2 y3 y4 y5 y6 y7 y8 y9 y10 y11 y12 y13 y14 y15)) ∧ (∀ y0 y1 y2 y3 y4 y5 y6 y7 y8 y9 y10 y11 y12 y13 y14 y15, LeO (gangwayref5_May.q.j5 k y0 y1 y2 y3 y4 y5 y6 y7 y8 y9 y10 y11 y12 y13 y14 y15) (gangwayref5_May.q.j5 (k + 1) y0 y1 y2 y3 y4 y5 y6 y7 y8 y9 y10 y11 y12 y13 y14 y15))
 | 0 => ⟨fun _ _ r h => by simp [gangwayref5_May.f] at h, fun _ _ _ r h => by simp [gangwayref5_May.l0] at h, fun _ _ _ _ _ _ _ _ _ _ r h => by simp [gangwayref5_May.q.f] at h, fun _ _ _ _ _ _ _ _ _ _ _ _ _ _ _ _ _ _ _ r h => by simp [gangwayref5_May.q.j10] at h, fun _ r h => by simp [gangwayref5_May.q.j11] at h, fun _ _ _ _ _ _ _ _ _ _ _ _ _ _ _ _ _ _ r h => by simp [gangwayref5_May.q.j0] at h, fun _ _ _ _ _ _ _ _ _ _ _ _ _ _ _ _ _ _ r h => by simp [gangwayref5_May.q.j1] at h, fun _ _ _ _ _ _ _ _ _ _ _ _ _ _ _ _ _ _ r h => by simp [gangwayref5_May.q.j2] at h, fun _ _ _ _ _ _ _ _ _ _ _ _ _ _ _ _ _ r h => by simp [gangwayref5_May.q.j9] at h, fun _ _ _ _ _ _ _ _ _ _ _ _ _ _ _ _ _ r h => by simp [gangwayref5_May.q.j8] at h, fun _ _ _ _ _ _ _ _ _ _ _ _ _ _ _ _ _ _ r h => by simp [gangwayref5_May.q.l0] at h, fun _ _ _ _ _ _ _ _ _ _ _ _ _ _ _ _ _ _ r h => by simp [gangwayref5_May.q.j4] at h, fun _ _ _ _ _ _ _ _ _ _ _ _ _ _ _ _ r h => by simp [gangwayref5_May.q.j7] at h, fun _ _ _ _ _ _ _ _ _ _ _ _ _ _ _ _ r h => by simp [gangwayref5_May.q.j6] at h, fun _ _ _ _ _ _ _ _ _ _ _ _ _ _ _ _ r h => by simp [gangwayref5_May.q.j5] at h⟩
 | k + 1 => by
  obtain ⟨ih0, ih1, ih2, ih3, ih4, ih5, ih6, ih7, ih8, ih9, ih10, ih11, ih12, ih13, ih14⟩ := gangwayref5_May.mono_l k
  refine ⟨?_, ?_, ?_, ?_, ?_, ?_, ?_, ?_, ?_, ?_, ?_, ?_, ?_, ?_, ?_⟩
  ·intro y0 y1
   unfold gangwayref5_May.f
   repeat' first
   | (with_reducible apply ih0)
   | (with_reducible apply ih1)
   | (with_reducible apply ih2)
   | (with_reducible apply ih3)
   | (with_reducible apply ih4)
   | (with_reducible apply ih5)
   | (with_reducible apply ih6)
   | (with_reducible apply ih7)
   | (with_reducible apply ih8)
   | (with_reducible apply ih9)
   | (with_reducible apply ih10)
   | (with_reducible apply ih11)
   | (with_reducible apply ih12)
   | (with_reducible apply ih13)
   | (with_reducible apply ih14)
   | (with_reducible exact gangwayref5_shape.mono _ _)
   | (with_reducible exact LeO.refl _)
   | (with_reducible exact LeO.none _)
   | (with_reducible refine LeO.ite ?_ ?_)
   | (with_reducible refine LeO.bind ?_ (fun _ => ?_))
   | apply ih0
   | apply ih1
   | apply ih2
   | apply ih3
   | apply ih4
   | apply ih5
   | apply ih6
   | apply ih7
   | apply ih8
   | apply ih9
   | apply ih10
   | apply ih11
   | apply ih12
   | apply ih13
   | apply ih14
   | exact gangwayref5_shape.mono _ _
   | exact LeO.none _
   | refine LeO.ite ?_ ?_
   | refine LeO.bind ?_ (fun _ => ?_)
  ·intro y0 y1 y2
   unfold gangwayref5_May.l0
   repeat' first
   | (with_reducible apply ih0)
   | (with_reducible apply ih1)
   | (with_reducible apply ih2)
   | (with_reducible apply ih3)
   | (with_reducible apply ih4)
   | (with_reducible apply ih5)
   | (with_reducible apply ih6)
   | (with_reducible apply ih7)
   | (with_reducible apply ih8)
   | (with_reducible apply ih9)
   | (with_reducible apply ih10)
   | (with_reducible apply ih11)
   | (with_reducible apply ih12)
   | (with_reducible apply ih13)
   | (with_reducible apply ih14)
   | (with_reducible exact gangwayref5_shape.mono _ _)
   | (with_reducible exact LeO.refl _)
   | (with_reducible exact LeO.none _)
   | (with_reducible refine LeO.ite ?_ ?_)
   | (with_reducible refine LeO.bind ?_ (fun _ => ?_))
   | apply ih0
   | apply ih1
   | apply ih2
   | apply ih3
   | apply ih4
   | apply ih5
   | apply ih6
   | apply ih7
   | apply ih8
   | apply ih9
   | apply ih10
   | apply ih11
   | apply ih12
   | apply ih13
   | apply ih14
   | exact gangwayref5_shape.mono _ _
   | exact LeO.none _
   | refine LeO.ite ?_ ?_
   | refine LeO.bind ?_ (fun _ => ?_)
  ·intro y0 y1 y2 y3 y4 y5 y6 y7 y8 y9
   unfold gangwayref5_May.q.f
   repeat' first
   | (with_reducible apply ih0)
   | (with_reducible apply ih1)
   | (with_reducible apply ih2)
   | (with_reducible apply ih3)
   | (with_reducible apply ih4)
   | (with_reducible apply ih5)
   | (with_reducible apply ih6)
   | (with_reducible apply ih7)
   | (with_reducible apply ih8)
   | (with_reducible apply ih9)
   | (with_reducible apply ih10)
   | (with_reducible apply ih11)
   | (with_reducible apply ih12)
   | (with_reducible apply ih13)
   | (with_reducible apply ih14)
   | (with_reducible exact gangwayref5_shape.mono _ _)
   | (with_reducible exact LeO.refl _)
   | (with_reducible exact LeO.none _)
   | (with_reducible refine LeO.ite ?_ ?_)
   | (with_reducible refine LeO.bind ?_ (fun _ => ?_))
   | apply ih0
   | apply ih1
   | apply ih2
   | apply ih3
   | apply ih4
   | apply ih5
   | apply ih6
   | apply ih7
   | apply ih8
   | apply ih9
   | apply ih10
   | apply ih11
   | apply ih12
   | apply ih13
   | apply ih14
   | exact gangwayref5_shape.mono _ _
   | exact LeO.none _
   | refine LeO.ite ?_ ?_
   | refine LeO.bind ?_ (fun _ => ?_)
  ·intro y0 y1 y2 y3 y4 y5 y6 y7 y8 y9 y10 y11 y12 y13 y14 y15 y16 y17 y18
   unfold gangwayref5_May.q.j10
   repeat' first
   | (with_reducible apply ih0)
   | (with_reducible apply ih1)
   | (with_reducible apply ih2)
   | (with_reducible apply ih3)
   | (with_reducible apply ih4)
   | (with_reducible apply ih5)
   | (with_reducible apply ih6)
   | (with_reducible apply ih7)
   | (with_reducible apply ih8)
   | (with_reducible apply ih9)
   | (with_reducible apply ih10)
   | (with_reducible apply ih11)
   | (with_reducible apply ih12)
   | (with_reducible apply ih13)
   | (with_reducible apply ih14)
   | (with_reducible exact gangwayref5_shape.mono _ _)
   | (with_reducible exact LeO.refl _)
   | (with_reducible exact LeO.none _)
   | (with_reducible refine LeO.ite ?_ ?_)
   | (with_reducible refine LeO.bind ?_ (fun _ => ?_))
   | apply ih0
   | apply ih1
   | apply ih2
   | apply ih3
   | apply ih4
   | apply ih5
   | apply ih6
   | apply ih7
   | apply ih8
   | apply ih9
   | apply ih10
   | apply ih11
   | apply ih12
   | apply ih13
   | apply ih14
   | exact gangwayref5_shape.mono _ _
   | exact LeO.none _
   | refine LeO.ite ?_ ?_
   | refine LeO.bind ?_ (fun _ => ?_)
  ·intro y0
   unfold gangwayref5_May.q.j11
   repeat' first
   | (with_reducible apply ih0)
   | (with_reducible apply ih1)
   | (with_reducible apply ih2)
   | (with_reducible apply ih3)
   | (with_reducible apply ih4)
   | (with_reducible apply ih5)
   | (with_reducible apply ih6)
   | (with_reducible apply ih7)
   | (with_reducible apply ih8)
   | (with_reducible apply ih9)
   | (with_reducible apply ih10)
   | (with_reducible apply ih11)
   | (with_reducible apply ih12)
   | (with_reducible apply ih13)
   | (with_reducible apply ih14)
   | (with_reducible exact gangwayref5_shape.mono _ _)
   | (with_reducible exact LeO.refl _)
   | (with_reducible exact LeO.none _)
   | (with_reducible refine LeO.ite ?_ ?_)
   | (with_reducible refine LeO.bind ?_ (fun _ => ?_))
   | apply ih0
   | apply ih1
   | apply ih2
   | apply ih3
   | apply ih4
   | apply ih5
   | apply ih6
   | apply ih7
   | apply ih8
   | apply ih9
   | apply ih10
   | apply ih11
   | apply ih12
   | apply ih13
   | apply ih14
   | exact gangwayref5_shape.mono _ _
   | exact LeO.none _
   | refine LeO.ite ?_ ?_
   | refine LeO.bind ?_ (fun _ => ?_)
  ·intro y0 y1 y2 y3 y4 y5 y6 y7 y8 y9 y10 y11 y12 y13 y14 y15 y16 y17
   unfold gangwayref5_May.q.j0
   repeat' first
   | (with_reducible apply ih0)
   | (with_reducible apply ih1)
   | (with_reducible apply ih2)
   | (with_reducible apply ih3)
   | (with_reducible apply ih4)
   | (with_reducible apply ih5)
   | (with_reducible apply ih6)
   | (with_reducible apply ih7)
   | (with_reducible apply ih8)
   | (with_reducible apply ih9)
   | (with_reducible apply ih10)
   | (with_reducible apply ih11)
   | (with_reducible apply ih12)
   | (with_reducible apply ih13)
   | (with_reducible apply ih14)
   | (with_reducible exact gangwayref5_shape.mono _ _)
   | (with_reducible exact LeO.refl _)
   | (with_reducible exact LeO.none _)
   | (with_reducible refine LeO.ite ?_ ?_)
   | (with_reducible refine LeO.bind ?_ (fun _ => ?_))
   | apply ih0
   | apply ih1
   | apply ih2
   | apply ih3
   | apply ih4
   | apply ih5
   | apply ih6
   | apply ih7
   | apply ih8
   | apply ih9
   | apply ih10
   | apply ih11
   | apply ih12
   | apply ih13
   | apply ih14
   | exact gangwayref5_shape.mono _ _
   | exact LeO.none _
   | refine LeO.ite ?_ ?_
   | refine LeO.bind ?_ (fun _ => ?_)
  ·intro y0 y1 y2 y3 y4 y5 y6 y7 y8 y9 y10 y11 y12 y13 y14 y15 y16 y17
   unfold gangwayref5_May.q.j1
   repeat' first
   | (with_reducible apply ih0)
   | (with_reducible apply ih1)
   | (with_reducible apply ih2)
   | (with_reducible apply ih3)
   | (with_reducible apply ih4)
   | (with_reducible apply ih5)
   | (with_reducible apply ih6)
   | (with_reducible apply ih7)
   | (with_reducible apply ih8)
   | (with_reducible apply ih9)
   | (with_reducible apply ih10)
   | (with_reducible apply ih11)
   | (with_reducible apply ih12)
   | (with_reducible apply ih13)
   | (with_reducible apply ih14)
   | (with_reducible exact gangwayref5_shape.mono _ _)
   | (with_reducible exact LeO.refl _)
   | (with_reducible exact LeO.none _)
   | (with_reducible refine LeO.ite ?_ ?_)
   | (with_reducible refine LeO.bind ?_ (fun _ => ?_))
   | apply ih0
   | apply ih1
   | apply ih2
   | apply ih3
   | apply ih4
   | apply ih5
   | apply ih6
   | apply ih7
   | apply ih8
   | apply ih9
   | apply ih10
   | apply ih11
   | apply ih12
   | apply ih13
   | apply ih14
   | exact gangwayref5_shape.mono _ _
   | exact LeO.none _
   | refine LeO.ite ?_ ?_
   | refine LeO.bind ?_ (fun _ => ?_)
  ·intro y0 y1 y2 y3 y4 y5 y6 y7 y8 y9 y10 y11 y12 y13 y14 y15 y16 y17
   unfold gangwayref5_May.q.j2
   repeat' first
   | (with_reducible apply ih0)
   | (with_reducible apply ih1)
   | (with_reducible apply ih2)
   | (with_reducible apply ih3)
   | (with_reducible apply ih4)
   | (with_reducible apply ih5)
   | (with_reducible apply ih6)
   | (with_reducible apply ih7)
   | (with_reducible apply ih8)
   | (with_reducible apply ih9)
   | (with_reducible apply ih10)
   | (with_reducible apply ih11)
   | (with_reducible apply ih12)
   | (with_reducible apply ih13)
   | (with_reducible apply ih14)
   | (with_reducible exact gangwayref5_shape.mono _ _)
   | (with_reducible exact LeO.refl _)
   | (with_reducible exact LeO.none _)
   | (with_reducible refine LeO.ite ?_ ?_)
   | (with_reducible refine LeO.bind ?_ (fun _ => ?_))
   | apply ih0
   | apply ih1
   | apply ih2
   | apply ih3
   | apply ih4
   | apply ih5
   | apply ih6
   | apply ih7
   | apply ih8
   | apply ih9
   | apply ih10
   | apply ih11
   | apply ih12
   | apply ih13
   | apply ih14
   | exact gangwayref5_shape.mono _ _
   | exact LeO.none _
   | refine LeO.ite ?_ ?_
   | refine LeO.bind ?_ (fun _ => ?_)
  ·intro y0 y1 y2 y3 y4 y5 y6 y7 y8 y9 y10 y11 y12 y13 y14 y15 y16
   unfold gangwayref5_May.q.j9
   repeat' first
   | (with_reducible apply ih0)
   | (with_reducible apply ih1)
   | (with_reducible apply ih2)
   | (with_reducible apply ih3)
   | (with_reducible apply ih4)
   | (with_reducible apply ih5)
   | (with_reducible apply ih6)
   | (with_reducible apply ih7)
   | (with_reducible apply ih8)
   | (with_reducible apply ih9)
   | (with_reducible apply ih10)
   | (with_reducible apply ih11)
   | (with_reducible apply ih12)
   | (with_reducible apply ih13)
   | (with_reducible apply ih14)
   | (with_reducible exact gangwayref5_shape.mono _ _)
   | (with_reducible exact LeO.refl _)
   | (with_reducible exact LeO.none _)
   | (with_reducible refine LeO.ite ?_ ?_)
   | (with_reducible refine LeO.bind ?_ (fun _ => ?_))
   | apply ih0
   | apply ih1
   | apply ih2
   | apply ih3
   | apply ih4
   | apply ih5
   | apply ih6
   | apply ih7
   | apply ih8
   | apply ih9
   | apply ih10
   | apply ih11
   | apply ih12
   | apply ih13
   | apply ih14
   | exact gangwayref5_shape.mono _ _
   | exact LeO.none _
   | refine LeO.ite ?_ ?_
   | refine LeO.bind ?_ (fun _ => ?_)
  ·intro y0 y1 y2 y3 y4 y5 y6 y7 y8 y9 y10 y11 y12 y13 y14 y15 y16
   unfold gangwayref5_May.q.j8
   repeat' first
   | (with_reducible apply ih0)
   | (with_reducible apply ih1)
   | (with_reducible apply ih2)
   | (with_reducible apply ih3)
   | (with_reducible apply ih4)
   | (with_reducible apply ih5)
   | (with_reducible apply ih6)
   | (with_reducible apply ih7)
   | (with_reducible apply ih8)
   | (with_reducible apply ih9)
   | (with_reducible apply ih10)
   | (with_reducible apply ih11)
   | (with_reducible apply ih12)
   | (with_reducible apply ih13)
   | (with_reducible apply ih14)
   | (with_reducible exact gangwayref5_shape.mono _ _)
   | (with_reducible exact LeO.refl _)
   | (with_reducible exact LeO.none _)
   | (with_reducible refine LeO.ite ?_ ?_)
   | (with_reducible refine LeO.bind ?_ (fun _ => ?_))
   | apply ih0
   | apply ih1
   | apply ih2
   | apply ih3
   | apply ih4
   | apply ih5
   | apply ih6
   | apply ih7
   | apply ih8
   | apply ih9
   | apply ih10
   | apply ih11
   | apply ih12
   | apply ih13
   | apply ih14
   | exact gangwayref5_shape.mono _ _
   | exact LeO.none _
   | refine LeO.ite ?_ ?_
   | refine LeO.bind ?_ (fun _ => ?_)
  ·intro y0 y1 y2 y3 y4 y5 y6 y7 y8 y9 y10 y11 y12 y13 y14 y15 y16 y17
   unfold gangwayref5_May.q.l0
   repeat' first
   | (with_reducible apply ih0)
   | (with_reducible apply ih1)
   | (with_reducible apply ih2)
   | (with_reducible apply ih3)
   | (with_reducible apply ih4)
   | (with_reducible apply ih5)
   | (with_reducible apply ih6)
   | (with_reducible apply ih7)
   | (with_reducible apply ih8)
   | (with_reducible apply ih9)
   | (with_reducible apply ih10)
   | (with_reducible apply ih11)
   | (with_reducible apply ih12)
   | (with_reducible apply ih13)
   | (with_reducible apply ih14)
   | (with_reducible exact gangwayref5_shape.mono _ _)
   | (with_reducible exact LeO.refl _)
   | (with_reducible exact LeO.none _)
   | (with_reducible refine LeO.ite ?_ ?_)
   | (with_reducible refine LeO.bind ?_ (fun _ => ?_))
   | apply ih0
   | apply ih1
   | apply ih2
   | apply ih3
   | apply ih4
   | apply ih5
   | apply ih6
   | apply ih7
   | apply ih8
   | apply ih9
   | apply ih10
   | apply ih11
   | apply ih12
   | apply ih13
   | apply ih14
   | exact gangwayref5_shape.mono _ _
   | exact LeO.none _
   | refine LeO.ite ?_ ?_
   | refine LeO.bind ?_ (fun _ => ?_)
  ·intro y0 y1 y2 y3 y4 y5 y6 y7 y8 y9 y10 y11 y12 y13 y14 y15 y16 y17
   unfold gangwayref5_May.q.j4
   repeat' first
   | (with_reducible apply ih0)
   | (with_reducible apply ih1)
   | (with_reducible apply ih2)
   | (with_reducible apply ih3)
   | (with_reducible apply ih4)
   | (with_reducible apply ih5)
   | (with_reducible apply ih6)
   | (with_reducible apply ih7)
   | (with_reducible apply ih8)
   | (with_reducible apply ih9)
   | (with_reducible apply ih10)
   | (with_reducible apply ih11)
   | (with_reducible apply ih12)
   | (with_reducible apply ih13)
   | (with_reducible apply ih14)
   | (with_reducible exact gangwayref5_shape.mono _ _)
   | (with_reducible exact LeO.refl _)
   | (with_reducible exact LeO.none _)
   | (with_reducible refine LeO.ite ?_ ?_)
   | (with_reducible refine LeO.bind ?_ (fun _ => ?_))
   | apply ih0
   | apply ih1
   | apply ih2
   | apply ih3
   | apply ih4
   | apply ih5
   | apply ih6
   | apply ih7
   | apply ih8
   | apply ih9
   | apply ih10
   | apply ih11
   | apply ih12
   | apply ih13
   | apply ih14
   | exact gangwayref5_shape.mono _ _
   | exact LeO.none _
   | refine LeO.ite ?_ ?_
   | refine LeO.bind ?_ (fun _ => ?_)
  ·intro y0 y1 y2 y3 y4 y5 y6 y7 y8 y9 y10 y11 y12 y13 y14 y15
   unfold gangwayref5_May.q.j7
   repeat' first
   | (with_reducible apply ih0)
   | (with_reducible apply ih1)
   | (with_reducible apply ih2)
   | (with_reducible apply ih3)
   | (with_reducible apply ih4)
   | (with_reducible apply ih5)
   | (with_reducible apply ih6)
   | (with_reducible apply ih7)
   | (with_reducible apply ih8)
   | (with_reducible apply ih9)
   | (with_reducible apply ih10)
   | (with_reducible apply ih11)
   | (with_reducible apply ih12)
   | (with_reducible apply ih13)
   | (with_reducible apply ih14)
   | (with_reducible exact gangwayref5_shape.mono _ _)
   | (with_reducible exact LeO.refl _)
   | (with_reducible exact LeO.none _)
   | (with_reducible refine LeO.ite ?_ ?_)
   | (with_reducible refine LeO.bind ?_ (fun _ => ?_))
   | apply ih0
   | apply ih1
   | apply ih2
   | apply ih3
   | apply ih4
   | apply ih5
   | apply ih6
   | apply ih7
   | apply ih8
   | apply ih9
   | apply ih10
   | apply ih11
   | apply ih12
   | apply ih13
   | apply ih14
   | exact gangwayref5_shape.mono _ _
   | exact LeO.none _
   | refine LeO.ite ?_ ?_
   | refine LeO.bind ?_ (fun _ => ?_)
  ·intro y0 y1 y2 y3 y4 y5 y6 y7 y8 y9 y10 y11 y12 y13 y14 y15
   unfold gangwayref5_May.q.j6
   repeat' first
   | (with_reducible apply ih0)
   | (with_reducible apply ih1)
   | (with_reducible apply ih2)
   | (with_reducible apply ih3)
   | (with_reducible apply ih4)
   | (with_reducible apply ih5)
   | (with_reducible apply ih6)
   | (with_reducible apply ih7)
   | (with_reducible apply ih8)
   | (with_reducible apply ih9)
   | (with_reducible apply ih10)
   | (with_reducible apply ih11)
   | (with_reducible apply ih12)
   | (with_reducible apply ih13)
   | (with_reducible apply ih14)
   | (with_reducible exact gangwayref5_shape.mono _ _)
   | (with_reducible exact LeO.refl _)
   | (with_reducible exact LeO.none _)
   | (with_reducible refine LeO.ite ?_ ?_)
   | (with_reducible refine LeO.bind ?_ (fun _ => ?_))
   | apply ih0
   | apply ih1
   | apply ih2
   | apply ih3
   | apply ih4
   | apply ih5
   | apply ih6
   | apply ih7
   | apply ih8
   | apply ih9
   | apply ih10
   | apply ih11
   | apply ih12
   | apply ih13
   | apply ih14
   | exact gangwayref5_shape.mono _ _
   | exact LeO.none _
   | refine LeO.ite ?_ ?_
   | refine LeO.bind ?_ (fun _ => ?_)
  ·intro y0 y1 y2 y3 y4 y5 y6 y7 y8 y9 y10 y11 y12 y13 y14 y15
   unfold gangwayref5_May.q.j5
   repeat' first
   | (with_reducible apply ih0)
   | (with_reducible apply ih1)
   | (with_reducible apply ih2)
   | (with_reducible apply ih3)
   | (with_reducible apply ih4)
   | (with_reducible apply ih5)
   | (with_reducible apply ih6)
   | (with_reducible apply ih7)
   | (with_reducible apply ih8)
   | (with_reducible apply ih9)
   | (with_reducible apply ih10)
   | (with_reducible apply ih11)
   | (with_reducible apply ih12)
   | (with_reducible apply ih13)
   | (with_reducible apply ih14)
   | (with_reducible exact gangwayref5_shape.mono _ _)
   | (with_reducible exact LeO.refl _)
   | (with_reducible exact LeO.none _)
   | (with_reducible refine LeO.ite ?_ ?_)
   | (with_reducible refine LeO.bind ?_ (fun _ => ?_))
   | apply ih0
   | apply ih1
   | apply ih2
   | apply ih3
   | apply ih4
   | apply ih5
   | apply ih6
   | apply ih7
   | apply ih8
   | apply ih9
   | apply ih10
   | apply ih11
   | apply ih12
   | apply ih13
   | apply ih14
   | exact gangwayref5_shape.mono _ _
   | exact LeO.none _
   | refine LeO.ite ?_ ?_
   | refine LeO.bind ?_ (fun _ => ?_)
theorem gangwayref5_May.mono : ∀ a0 a1 k, LeO (gangwayref5_May.f k a0 a1) (gangwayref5_May.f (k + 1) a0 a1) := by
 intro a0 a1 k
 obtain ⟨ih0, ih1, ih2, ih3, ih4, ih5, ih6, ih7, ih8, ih9, ih10, ih11, ih12, ih13, ih14⟩ := gangwayref5_May.mono_l k
 exact ih0 a0 a1
theorem gangwayref5_May.q.mono : ∀ a0 a1 a2 a3 a4 a5 a6 a7 a8 a9 k, LeO (gangwayref5_May.q.f k a0 a1 a2 a3 a4 a5 a6 a7 a8 a9) (gangwayref5_May.q.f (k + 1) a0 a1 a2 a3 a4 a5 a6 a7 a8 a9) := by
  intro a0 a1 a2 a3 a4 a5 a6 a7 a8 a9 k
  obtain ⟨ih0, ih1, ih2, ih3, ih4, ih5, ih6, ih7, ih8, ih9, ih10, ih11, ih12, ih13, ih14⟩ := gangwayref5_May.mono_l k
  exact ih2 a0 a1 a2 a3 a4 a5 a6 a7 a8 a9

end Go.Proofs.Ytlahigmoljflkaa.PAll
