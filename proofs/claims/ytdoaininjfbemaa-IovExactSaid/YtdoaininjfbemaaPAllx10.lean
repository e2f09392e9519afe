/- Printed by a copy of the printer that was turned for this claim: functions as plain Lean functions, with proofs that their calls come to these; or words that such proofs use. -/
import Derived.Test.YtdoaininjfbemaaPAllx0
import Derived.Test.YtdoaininjfbemaaPAllx2
import Derived.Test.YtdoaininjfbemaaPAllx3
import Derived.Test.YtdoaininjfbemaaPAllx5
import Derived.Test.YtdoaininjfbemaaPAllx6
import Derived.Test.YtdoaininjfbemaaPAllx7
import Derived.Test.YtdoaininjfbemaaPAllx8
import Derived.Test.YtdoaininjfbemaaPAllx9
namespace Go.Proofs.Ytdoaininjfbemaa.PAll
open Go.RowKit Go.Proofs.YtdoaininjfbemaaW.PrintWords Go.Proofs.YtdoaininjfbemaaW.PrintLast Go.Proofs.YtdoaininjfbemaaW.PrintMore
attribute [local go_sem] max2_int min2_int max_two min_two max_three min_three max_four min_four   -- for this text's walks alone
set_option linter.unusedVariables false
set_option linter.unusedSimpArgs false

/-! ### gangwaylaw19_IovExact: function 3 -/
abbrev gangwaylaw19_IovExact.t : Bool := true
abbrev gangwaylaw19_IovExact.f_ : Bool := false
def gangwaylaw19_IovExact.bb0_ : Array Bool := #[t, t, t, t, t, t, t, t, t, t, t, t]
def gangwaylaw19_IovExact.bb1_ : Array Bool := #[t, t, t, t, t, t, t, t, t, t, t, f_]
def gangwaylaw19_IovExact.bb2_ : Array Bool := #[t, t, t, t, t, t, t, t, t, t, f_, f_]
def gangwaylaw19_IovExact.bb3_ : Array Bool := #[t, t, t, t, t, t, t, t, t, f_, f_, f_]
def gangwaylaw19_IovExact.bb4_ : Array Bool := #[t, t, t, t, t, t, t, t, f_, f_, f_, f_]
def gangwaylaw19_IovExact.bb5_ : Array Bool := #[t, t, t, t, t, t, t, f_, f_, f_, f_, f_]
def gangwaylaw19_IovExact.bb6_ : Array Bool := #[t, t, t, t, t, t, f_, f_, f_, f_, f_, f_]
def gangwaylaw19_IovExact.bb7_ : Array Bool := #[t, t, t, t, t, f_, f_, f_, f_, f_, f_, f_]
def gangwaylaw19_IovExact.bb8_ : Array Bool := #[t, t, t, t, f_, f_, f_, f_, f_, f_, f_, f_]
def gangwaylaw19_IovExact.bb9_ : Array Bool := #[t, t, f_, t, f_, f_, f_, f_, f_, f_, f_, f_]
def gangwaylaw19_IovExact.bb10_ : Array Bool := #[t, t, f_, f_, f_, f_, f_, f_, f_, f_, f_, f_]
def gangwaylaw19_IovExact.bb11_ : Array Bool := #[t, f_, f_, f_, f_, f_, f_, f_, f_, f_, f_, f_]
def gangwaylaw19_IovExact.bb12_ : Array Bool := #[f_, f_, f_, f_, f_, f_, f_, f_, f_, f_, f_, f_]
theorem gangwaylaw19_IovExact.bc {w : World} {g : Nat} {cs : Array Value} {t : TypeId} (h : Aside0 (w.heap[g]? = some (.cells cs t (0, 0)))) (i : Nat) {v : Value} (e : cs[i]? = some v := by rfl) : w.cell? ⟨g, i, none⟩ = some v := (blk_cell h.out i).trans e
theorem gangwaylaw19_IovExact.bkept {W0 W W2 : World} {g : Nat} {o : Obj} {S : Nat → Prop} (_b : Aside0 (W0.heap[g]? = some o)) (h : W.heap[g]? = some o) (hk : Kept W W2 S) (hn : ¬ S g) : W2.heap[g]? = some o := blk_kept h hk hn
theorem gangwaylaw19_IovExact.bbelow {W0 w w1 : World} {g : Nat} {o : Obj} (_b : Aside0 (W0.heap[g]? = some o)) (h : w.heap[g]? = some o) (hb : Below w.heap.size w w1) : w1.heap[g]? = some o := blk_below h hb
theorem gangwaylaw19_IovExact.e1 {α : Type _} (xs : List α) (i : Nat) (a : α) : xs.toArray.setIfInBounds i a = (xs.set i a).toArray := by simp
theorem gangwaylaw19_IovExact.e2 {α : Type _} (x a : α) (xs : List α) : (x :: xs).set 0 a = a :: xs := rfl
theorem gangwaylaw19_IovExact.e3 {α : Type _} (x a : α) (xs : List α) (n : Nat) : (x :: xs).set (n + 1) a = x :: xs.set n a := rfl
def gangwaylaw19_IovExact.putsW (g : Nat) : World → Nat → List Value → World
 | w, _, [] => w
 | w, i, u :: us => gangwaylaw19_IovExact.putsW g (w.setCell ⟨g, i, none⟩ u) (i + 1) us
theorem gangwaylaw19_IovExact.putsL {g : Nat} {t : TypeId} : ∀ (us pre post : List Value) (w : World), w.heap[g]? = some (.cells (pre ++ post).toArray t (0, 0)) → post.length = us.length → (gangwaylaw19_IovExact.putsW g w pre.length us).heap[g]? = some (.cells (pre ++ us).toArray t (0, 0))
 | [], pre, [], w, h, _ => h
 | u :: us, pre, [], w, h, e => by simp at e
 | [], pre, z :: post, w, h, e => by simp at e
 | u :: us, pre, z :: post, w, h, e => by
  have h1 := blk_put h pre.length u (cs' := ((pre ++ [u]) ++ post).toArray) (by simp)
  have h2 := gangwaylaw19_IovExact.putsL us (pre ++ [u]) post _ h1 (by simpa using e)
  simpa [gangwaylaw19_IovExact.putsW] using h2
theorem gangwaylaw19_IovExact.puts {w : World} {g : Nat} {t : TypeId} {cs : Array Value} (us : List Value) (h : w.heap[g]? = some (.cells cs t (0, 0))) (e : cs.toList.length = us.length) : (gangwaylaw19_IovExact.putsW g w 0 us).heap[g]? = some (.cells us.toArray t (0, 0)) := gangwaylaw19_IovExact.putsL us [] cs.toList w h e
theorem gangwaylaw19_IovExact.up {w w' : World} {a : Addr} {v : Value} (hb : Aside0 (Below w.heap.size w w')) (h : w.cell? a = some v) : w'.cell? a = some v := (hb.out.cell (World.block_lt_of_cell? w _ h)).trans h
mutual
def gangwaylaw19_IovExact.l0 : Nat → List (S26) → Int → Option (Bool)
 | 0, _, _ => none
 | k + 1, x0, x3 => if x3 < (x0.length : Int) then (gangwaylaw19_IovExact.j1 k x0 x3 (decide (x3 < 8))) else (gangwaylaw19_IovExact.j1 k x0 x3 false)
def gangwaylaw19_IovExact.j1 : Nat → List (S26) → Int → Bool → Option (Bool)
 | 0, _, _, _ => none
 | k + 1, x0, x3, x35 => if x35 = true then (if 0 ≤ x3 then (if x3 < (x0.length : Int) then ((gangwaylaw19_heavy.f k ((rd_T26 x0 x3).f0) ((rd_T26 x0 x3).f1) ((rd_T26 x0 x3).f2) ((rd_T26 x0 x3).f3) ((rd_T26 x0 x3).f4)).bind fun t327 => (if t327 = true then (some true) else ((gangwaylaw19_Both.f k ((rd_T26 x0 x3).f0)).bind fun bt328 => (if bt328.1 = true then (if bt328.2.2.2.1 = true then ((iov_Pieces.f k bt328.2.1 bt328.2.2.1 ((rd_T26 x0 x3).f1) ((rd_T26 x0 x3).f2)).bind fun bt340 => ((gangwayref20_Pieces.f k bt328.2.2.2.2.1 bt328.2.2.2.2.2 ((rd_T26 x0 x3).f1) ((rd_T26 x0 x3).f2)).bind fun bt348 => ((gangwaylaw19_num.f bt340.2.1).bind fun t356 => (if t356 = bt348.2.1 then ((gangwayref0_EqPieces.f k bt340.1 bt348.1).bind fun t357 => (if t357 = true then ((gangwayref20_Has.f k bt348.2.2.1 bt348.2.2.2 ((rd_T26 x0 x3).f3)).bind fun bt411 => ((iov_Gather.f k bt340.2.2.1 bt340.2.2.2 ((rd_T26 x0 x3).f3)).bind fun bt416 => ((gangwaylaw19_num.f bt416.2.1).bind fun t424 => (if (bt411.1 != (t424 == 0)) = true then (none) else (if bt411.1 = true then ((gangwayref20_Gather.f k bt411.2.1 bt411.2.2 ((rd_T26 x0 x3).f3)).bind fun bt425 => ((gangwayref0_EqBytes.f k bt416.1 bt425.1).bind fun t432 => (gangwaylaw19_IovExact.j2 k x0 x3 bt411.1 (!t432) ((rd_T26 x0 x3).f0) ((rd_T26 x0 x3).f1) ((rd_T26 x0 x3).f2) ((rd_T26 x0 x3).f3) ((rd_T26 x0 x3).f4) bt416.2.2.1 bt416.2.2.2 bt425.2.1 bt425.2.2))) else (if t424 = 21 then (if (bt416.1.length : Int) > 0 then (none) else (gangwaylaw19_IovExact.j2 k x0 x3 bt411.1 false ((rd_T26 x0 x3).f0) ((rd_T26 x0 x3).f1) ((rd_T26 x0 x3).f2) ((rd_T26 x0 x3).f3) ((rd_T26 x0 x3).f4) bt416.2.2.1 bt416.2.2.2 bt411.2.1 bt411.2.2)) else (none))))))) else (none))) else (none))))) else (none)) else (none))))) else (none)) else (none)) else ((iov_Pieces_nil.f).bind fun t464 => ((iov_Gather_nil.f).bind fun t465 => ((iov_Scatter_nil.f).bind fun bt466 => ((gangwaylaw19_num.f t464).bind fun t468 => (if t468 = 100 then ((gangwaylaw19_num.f t465).bind fun t469 => (if t469 = 100 then ((gangwaylaw19_num.f bt466.2).bind fun t470 => (if t470 = 100 then (if (wrap64 (bt466.1)) = 0 then ((gangwaylaw19_wakes.f k).bind fun t471 => (some t471)) else (none)) else (none))) else (none))) else (none))))))
def gangwaylaw19_IovExact.j2 : Nat → List (S26) → Int → Bool → Bool → List Int → Int → Int → List (S50) → List Int → List Int → Int → List Int → Int → Option (Bool)
 | 0, _, _, _, _, _, _, _, _, _, _, _, _, _ => none
 | k + 1, x0, x3, x11, x121, x0z, x1z, x2z, x3z, x4z, x5z, x6z, x7z, x8z => if x121 = true then (none) else ((gangwayref0_CopyBytes.f k x4z).bind fun t433 => ((iov_Scatter.f k x5z x6z x3z t433).bind fun bt436 => (if x11 = true then ((gangwayref20_Scatter.f k x7z x8z x3z x4z).bind fun bt442 => (gangwaylaw19_IovExact.j3 k x0 x3 x11 bt436.1 bt436.2.1 bt442.1 x0z x1z x2z x3z x4z bt436.2.2.1 bt436.2.2.2 bt442.2.1 bt442.2.2)) else (gangwaylaw19_IovExact.j3 k x0 x3 x11 bt436.1 bt436.2.1 0 x0z x1z x2z x3z x4z bt436.2.2.1 bt436.2.2.2 x7z x8z))))
def gangwaylaw19_IovExact.j3 : Nat → List (S26) → Int → Bool → Int → Int → Int → List Int → Int → Int → List (S50) → List Int → List Int → Int → List Int → Int → Option (Bool)
 | 0, _, _, _, _, _, _, _, _, _, _, _, _, _, _, _ => none
 | k + 1, x0, x3, x11, x14, x15, x16, x0z, x1z, x2z, x3z, x4z, x5z, x6z, x7z, x8z => (gangwaylaw19_num.f x15).bind fun t447 => (if (x11 != (t447 == 0)) = true then (none) else (if x11 = true then (if x14 = x16 then ((gangwaylaw19_Same.f k x5z x6z x7z x8z).bind fun bt448 => (gangwaylaw19_IovExact.j4 k x0 x3 (!bt448.1) x0z x1z x2z x3z x4z)) else (none)) else (if t447 = 21 then (if x14 = x16 then ((gangwaylaw19_Same.f k x5z x6z x7z x8z).bind fun bt453 => (gangwaylaw19_IovExact.j4 k x0 x3 (!bt453.1) x0z x1z x2z x3z x4z)) else (none)) else (none))))
def gangwaylaw19_IovExact.j4 : Nat → List (S26) → Int → Bool → List Int → Int → Int → List (S50) → List Int → Option (Bool)
 | 0, _, _, _, _, _, _, _, _ => none
 | k + 1, x0, x3, x163, x0z, x1z, x2z, x3z, x4z => if x163 = true then (none) else (gangwaylaw19_IovExact.l1 k x0 x3 false 0 0 x0z x1z x2z x3z x4z)
def gangwaylaw19_IovExact.l1 : Nat → List (S26) → Int → Bool → Int → Int → List Int → Int → Int → List (S50) → List Int → Option (Bool)
 | 0, _, _, _, _, _, _, _, _, _, _ => none
 | k + 1, x0, x3, x17, x18, x19, x0z, x1z, x2z, x3z, x4z => if x19 < (x3z.length : Int) then (if x17 = true then (gangwaylaw19_IovExact.l1 k x0 x3 true x18 (wrap64 (x19 + 1)) x0z x1z x2z x3z x4z) else (if 0 ≤ x19 then (if ((rd_T50 x3z x19).f1) < 0 then (gangwaylaw19_IovExact.l1 k x0 x3 true x18 (wrap64 (x19 + 1)) x0z x1z x2z x3z x4z) else (if ((rd_T50 x3z x19).f1) > 1099511627776 then (gangwaylaw19_IovExact.l1 k x0 x3 true x18 (wrap64 (x19 + 1)) x0z x1z x2z x3z x4z) else (if x18 > 1099511627776 then (gangwaylaw19_IovExact.l1 k x0 x3 (decide (x18 > 1099511627776)) x18 (wrap64 (x19 + 1)) x0z x1z x2z x3z x4z) else (gangwaylaw19_IovExact.l1 k x0 x3 (decide (x18 > 1099511627776)) (wrap64 (x18 + ((rd_T50 x3z x19).f1))) (wrap64 (x19 + 1)) x0z x1z x2z x3z x4z)))) else (none))) else (if x17 = true then (gangwaylaw19_IovExact.j6 k x0 x3 true x18 x0z x1z x2z x3z x4z) else (gangwaylaw19_IovExact.j6 k x0 x3 (decide (x18 > 1099511627776)) x18 x0z x1z x2z x3z x4z))
def gangwaylaw19_IovExact.j6 : Nat → List (S26) → Int → Bool → Int → List Int → Int → Int → List (S50) → List Int → Option (Bool)
 | 0, _, _, _, _, _, _, _, _, _ => none
 | k + 1, x0, x3, x17, x18, x0z, x1z, x2z, x3z, x4z => (iov_Total.f k x3z).bind fun bt461 => ((gangwaylaw19_num.f bt461.2).bind fun t463 => (if (x17 != (t463 == 100)) = true then (none) else (if x17 = true then (if bt461.1 = 0 then (gangwaylaw19_IovExact.l0 k x0 (wrap64 (x3 + 1))) else (none)) else (if t463 = 0 then (if bt461.1 = x18 then (gangwaylaw19_IovExact.l0 k x0 (wrap64 (x3 + 1))) else (none)) else (none)))))
end
def gangwaylaw19_IovExact.f (k : Nat) (l0 : List (S26)) : Option (Bool) := gangwaylaw19_IovExact.l0 k l0 0
theorem gangwaylaw19_IovExact.mono_l : ∀ k, (∀ y0 y1, LeO (gangwaylaw19_IovExact.l0 k y0 y1) (gangwaylaw19_IovExact.l0 (k + 1) y0 y1)) ∧ (∀ y0 y1 y2, LeO (gangwaylaw19_IovExact.j1 k y0 y1 y2) (gangwaylaw19_IovExact.j1 (k + 1) y0 y1 y2)) ∧ (∀ y0 y1 y2 y3 y4 y5 y6 y7 y8 y9 y10 y11 y12, LeO (gangwaylaw19_IovExact.j2 k y0 y1 y2 y3 y4 y5 y6 y7 y8 y9 y10 y11 y12) (gangwaylaw19_IovExact.j2 (k + 1) y0 y1 y2 y3 y4 y5 y6 y7 y8 y9 y10 y11 y12)) ∧ (∀ y0 y1 y2 y3 y4 y5 y6 y7 y8 y9 y10 y11 y12 y13 y14, LeO (gangwaylaw19_IovExact.j3 k y0 y1 y2 y3 y4 y5 y6 y7 y8 y9 y10 y11 y12 y13 y14) (gangwaylaw19_IovExact.j3 (k + 1) y0 y1 y2 y3 y4 y5 y6 y7 y8 y9 y10 y11 y12 y13 y14)) ∧ (∀ y0 y1 y2 y3 y4 y5 y6 y7, LeO (gangwaylaw19_IovExact.j4 k y0 y1 y2 y3 y4 y5 y6 y7) (gangwaylaw19_IovExact.j4 (k + 1) y0 y1 y2 y3 y4 y5 y6 y7)) ∧ (∀ y0 y1 y2 y3 y4 y5 y6 y7 y8 y9, LeO (gangwaylaw19_IovExact.l1 k y0 y1 y2 y3 y4 y5 y6 y7 y8 y9) (gangwaylaw19_IovExact.l1 (k + 1) y0 y1 y2 y3 y4 y5 y6 y7 y8 y9)) ∧ (∀ y0 y1 y2 y3 y4 y5 y6 y7 y8, LeO (gangwaylaw19_IovExact.j6 k y0 y1 y2 y3 y4 y5 y6 y7 y8) (gangwaylaw19_IovExact.j6 (k + 1) y0 y1 y2 y3 y4 y5 y6 y7 y8))
 | 0 => ⟨fun _ _ r h => by simp [gangwaylaw19_IovExact.l0] at h, fun _ _ _ r h => by simp [gangwaylaw19_IovExact.j1] at h, fun _ _ _ _ _ _ _ _ _ _ _ _ _ r h => by simp [gangwaylaw19_IovExact.j2] at h, fun _ _ _ _ _ _ _ _ _ _ _ _ _ _ _ r h => by simp [gangwaylaw19_IovExact.j3] at h, fun _ _ _ _ _ _ _ _ r h => by simp [gangwaylaw19_IovExact.j4] at h, fun _ _ _ _ _ _ _ _ _ _ r h => by simp [gangwaylaw19_IovExact.l1] at h, fun _ _ _ _ _ _ _ _ _ r h => by simp [gangwaylaw19_IovExact.j6] at h⟩
 | k + 1 => by
  obtain ⟨ih0, ih1, ih2, ih3, ih4, ih5, ih6⟩ := gangwaylaw19_IovExact.mono_l k
  refine ⟨?_, ?_, ?_, ?_, ?_, ?_, ?_⟩
  ·intro y0 y1
   unfold gangwaylaw19_IovExact.l0
   repeat' first
   | (with_reducible apply ih0)
   | (with_reducible apply ih1)
   | (with_reducible apply ih2)
   | (with_reducible apply ih3)
   | (with_reducible apply ih4)
   | (with_reducible apply ih5)
   | (with_reducible apply ih6)
   | (with_reducible exact gangwaylaw19_Both.mono _ _)
   | (with_reducible exact gangwaylaw19_Same.mono _ _ _ _ _)
   | (with_reducible exact gangwaylaw19_heavy.mono _ _ _ _ _ _)
   | (with_reducible exact gangwaylaw19_wakes.mono _)
   | (with_reducible exact gangwayref0_CopyBytes.mono _ _)
   | (with_reducible exact gangwayref0_EqBytes.mono _ _ _)
   | (with_reducible exact gangwayref0_EqPieces.mono _ _ _)
   | (with_reducible exact gangwayref20_Gather.mono _ _ _ _)
   | (with_reducible exact gangwayref20_Has.mono _ _ _ _)
   | (with_reducible exact gangwayref20_Pieces.mono _ _ _ _ _)
   | (with_reducible exact gangwayref20_Scatter.mono _ _ _ _ _)
   | (with_reducible exact iov_Gather.mono _ _ _ _)
   | (with_reducible exact iov_Pieces.mono _ _ _ _ _)
   | (with_reducible exact iov_Scatter.mono _ _ _ _ _)
   | (with_reducible exact iov_Total.mono _ _)
   | (with_reducible exact LeO.refl _)
   | (with_reducible exact LeO.none _)
   | (with_reducible refine LeO.ite ?_ ?_)
   | (with_reducible refine LeO.bind ?_ (fun _ => ?_))
   | apply ih0
   | apply ih1
   | apply ih2
   | apply ih3
   | apply ih4
   | apply ih5
   | apply ih6
   | exact gangwaylaw19_Both.mono _ _
   | exact gangwaylaw19_Same.mono _ _ _ _ _
   | exact gangwaylaw19_heavy.mono _ _ _ _ _ _
   | exact gangwaylaw19_wakes.mono _
   | exact gangwayref0_CopyBytes.mono _ _
   | exact gangwayref0_EqBytes.mono _ _ _
   | exact gangwayref0_EqPieces.mono _ _ _
   | exact gangwayref20_Gather.mono _ _ _ _
   | exact gangwayref20_Has.mono _ _ _ _
   | exact gangwayref20_Pieces.mono _ _ _ _ _
   | exact gangwayref20_Scatter.mono _ _ _ _ _
   | exact iov_Gather.mono _ _ _ _
   | exact iov_Pieces.mono _ _ _ _ _
   | exact iov_Scatter.mono _ _ _ _ _
   | exact iov_Total.mono _ _
   | exact LeO.none _
   | refine LeO.ite ?_ ?_
   | refine LeO.bind ?_ (fun _ => ?_)
  ·intro y0 y1 y2
   unfold gangwaylaw19_IovExact.j1
   repeat' first
   | (with_reducible apply ih0)
   | (with_reducible apply ih1)
   | (with_reducible apply ih2)
   | (with_reducible apply ih3)
   | (with_reducible apply ih4)
   | (with_reducible apply ih5)
   | (with_reducible apply ih6)
   | (with_reducible exact gangwaylaw19_Both.mono _ _)
   | (with_reducible exact gangwaylaw19_Same.mono _ _ _ _ _)
   | (with_reducible exact gangwaylaw19_heavy.mono _ _ _ _ _ _)
   | (with_reducible exact gangwaylaw19_wakes.mono _)
   | (with_reducible exact gangwayref0_CopyBytes.mono _ _)
   | (with_reducible exact gangwayref0_EqBytes.mono _ _ _)
   | (with_reducible exact gangwayref0_EqPieces.mono _ _ _)
   | (with_reducible exact gangwayref20_Gather.mono _ _ _ _)
   | (with_reducible exact gangwayref20_Has.mono _ _ _ _)
   | (with_reducible exact gangwayref20_Pieces.mono _ _ _ _ _)
   | (with_reducible exact gangwayref20_Scatter.mono _ _ _ _ _)
   | (with_reducible exact iov_Gather.mono _ _ _ _)
   | (with_reducible exact iov_Pieces.mono _ _ _ _ _)
   | (with_reducible exact iov_Scatter.mono _ _ _ _ _)
   | (with_reducible exact iov_Total.mono _ _)
   | (with_reducible exact LeO.refl _)
   | (with_reducible exact LeO.none _)
   | (with_reducible refine LeO.ite ?_ ?_)
   | (with_reducible refine LeO.bind ?_ (fun _ => ?_))
   | apply ih0
   | apply ih1
   | apply ih2
   | apply ih3
   | apply ih4
   | apply ih5
   | apply ih6
   | exact gangwaylaw19_Both.mono _ _
   | exact gangwaylaw19_Same.mono _ _ _ _ _
   | exact gangwaylaw19_heavy.mono _ _ _ _ _ _
   | exact gangwaylaw19_wakes.mono _
   | exact gangwayref0_CopyBytes.mono _ _
   | exact gangwayref0_EqBytes.mono _ _ _
   | exact gangwayref0_EqPieces.mono _ _ _
   | exact gangwayref20_Gather.mono _ _ _ _
   | exact gangwayref20_Has.mono _ _ _ _
   | exact gangwayref20_Pieces.mono _ _ _ _ _
   | exact gangwayref20_Scatter.mono _ _ _ _ _
   | exact iov_Gather.mono _ _ _ _
   | exact iov_Pieces.mono _ _ _ _ _
   | exact iov_Scatter.mono _ _ _ _ _
   | exact iov_Total.mono _ _
   | exact LeO.none _
   | refine LeO.ite ?_ ?_
   | refine LeO.bind ?_ (fun _ => ?_)
  ·intro y0 y1 y2 y3 y4 y5 y6 y7 y8 y9 y10 y11 y12
   unfold gangwaylaw19_IovExact.j2
   repeat' first
   | (with_reducible apply ih0)
   | (with_reducible apply ih1)
   | (with_reducible apply ih2)
   | (with_reducible apply ih3)
   | (with_reducible apply ih4)
   | (with_reducible apply ih5)
   | (with_reducible apply ih6)
   | (with_reducible exact gangwaylaw19_Both.mono _ _)
   | (with_reducible exact gangwaylaw19_Same.mono _ _ _ _ _)
   | (with_reducible exact gangwaylaw19_heavy.mono _ _ _ _ _ _)
   | (with_reducible exact gangwaylaw19_wakes.mono _)
   | (with_reducible exact gangwayref0_CopyBytes.mono _ _)
   | (with_reducible exact gangwayref0_EqBytes.mono _ _ _)
   | (with_reducible exact gangwayref0_EqPieces.mono _ _ _)
   | (with_reducible exact gangwayref20_Gather.mono _ _ _ _)
   | (with_reducible exact gangwayref20_Has.mono _ _ _ _)
   | (with_reducible exact gangwayref20_Pieces.mono _ _ _ _ _)
   | (with_reducible exact gangwayref20_Scatter.mono _ _ _ _ _)
   | (with_reducible exact iov_Gather.mono _ _ _ _)
   | (with_reducible exact iov_Pieces.mono _ _ _ _ _)
   | (with_reducible exact iov_Scatter.mono _ _ _ _ _)
   | (with_reducible exact iov_Total.mono _ _)
   | (with_reducible exact LeO.refl _)
   | (with_reducible exact LeO.none _)
   | (with_reducible refine LeO.ite ?_ ?_)
   | (with_reducible refine LeO.bind ?_ (fun _ => ?_))
   | apply ih0
   | apply ih1
   | apply ih2
   | apply ih3
   | apply ih4
   | apply ih5
   | apply ih6
   | exact gangwaylaw19_Both.mono _ _
   | exact gangwaylaw19_Same.mono _ _ _ _ _
   | exact gangwaylaw19_heavy.mono _ _ _ _ _ _
   | exact gangwaylaw19_wakes.mono _
   | exact gangwayref0_CopyBytes.mono _ _
   | exact gangwayref0_EqBytes.mono _ _ _
   | exact gangwayref0_EqPieces.mono _ _ _
   | exact gangwayref20_Gather.mono _ _ _ _
   | exact gangwayref20_Has.mono _ _ _ _
   | exact gangwayref20_Pieces.mono _ _ _ _ _
   | exact gangwayref20_Scatter.mono _ _ _ _ _
   | exact iov_Gather.mono _ _ _ _
   | exact iov_Pieces.mono _ _ _ _ _
   | exact iov_Scatter.mono _ _ _ _ _
   | exact iov_Total.mono _ _
   | exact LeO.none _
   | refine LeO.ite ?_ ?_
   | refine LeO.bind ?_ (fun _ => ?_)
  ·intro y0 y1 y2 y3 y4 y5 y6 y7 y8 y9 y10 y11 y12 y13 y14
   unfold gangwaylaw19_IovExact.j3
   repeat' first
   | (with_reducible apply ih0)
   | (with_reducible apply ih1)
   | (with_reducible apply ih2)
   | (with_reducible apply ih3)
   | (with_reducible apply ih4)
   | (with_reducible apply ih5)
   | (with_reducible apply ih6)
   | (with_reducible exact gangwaylaw19_Both.mono _ _)
   | (with_reducible exact gangwaylaw19_Same.mono _ _ _ _ _)
   | (with_reducible exact gangwaylaw19_heavy.mono _ _ _ _ _ _)
   | (with_reducible exact gangwaylaw19_wakes.mono _)
   | (with_reducible exact gangwayref0_CopyBytes.mono _ _)
   | (with_reducible exact gangwayref0_EqBytes.mono _ _ _)
   | (with_reducible exact gangwayref0_EqPieces.mono _ _ _)
   | (with_reducible exact gangwayref20_Gather.mono _ _ _ _)
   | (with_reducible exact gangwayref20_Has.mono _ _ _ _)
   | (with_reducible exact gangwayref20_Pieces.mono _ _ _ _ _)
   | (with_reducible exact gangwayref20_Scatter.mono _ _ _ _ _)
   | (with_reducible exact iov_Gather.mono _ _ _ _)
   | (with_reducible exact iov_Pieces.mono _ _ _ _ _)
   | (with_reducible exact iov_Scatter.mono _ _ _ _ _)
   | (with_reducible exact iov_Total.mono _ _)
   | (with_reducible exact LeO.refl _)
   | (with_reducible exact LeO.none _)
   | (with_reducible refine LeO.ite ?_ ?_)
   | (with_reducible refine LeO.bind ?_ (fun _ => ?_))
   | apply ih0
   | apply ih1
   | apply ih2
   | apply ih3
   | apply ih4
   | apply ih5
   | apply ih6
   | exact gangwaylaw19_Both.mono _ _
   | exact gangwaylaw19_Same.mono _ _ _ _ _
   | exact gangwaylaw19_heavy.mono _ _ _ _ _ _
   | exact gangwaylaw19_wakes.mono _
   | exact gangwayref0_CopyBytes.mono _ _
   | exact gangwayref0_EqBytes.mono _ _ _
   | exact gangwayref0_EqPieces.mono _ _ _
   | exact gangwayref20_Gather.mono _ _ _ _
   | exact gangwayref20_Has.mono _ _ _ _
   | exact gangwayref20_Pieces.mono _ _ _ _ _
   | exact gangwayref20_Scatter.mono _ _ _ _ _
   | exact iov_Gather.mono _ _ _ _
   | exact iov_Pieces.mono _ _ _ _ _
   | exact iov_Scatter.mono _ _ _ _ _
   | exact iov_Total.mono _ _
   | exact LeO.none _
   | refine LeO.ite ?_ ?_
   | refine LeO.bind ?_ (fun _ => ?_)
  ·intro y0 y1 y2 y3 y4 y5 y6 y7
   unfold gangwaylaw19_IovExact.j4
   repeat' first
   | (with_reducible apply ih0)
   | (with_reducible apply ih1)
   | (with_reducible apply ih2)
   | (with_reducible apply ih3)
   | (with_reducible apply ih4)
   | (with_reducible apply ih5)
   | (with_reducible apply ih6)
   | (with_reducible exact gangwaylaw19_Both.mono _ _)
   | (with_reducible exact gangwaylaw19_Same.mono _ _ _ _ _)
   | (with_reducible exact gangwaylaw19_heavy.mono _ _ _ _ _ _)
   | (with_reducible exact gangwaylaw19_wakes.mono _)
   | (with_reducible exact gangwayref0_CopyBytes.mono _ _)
   | (with_reducible exact gangwayref0_EqBytes.mono _ _ _)
   | (with_reducible exact gangwayref0_EqPieces.mono _ _ _)
   | (with_reducible exact gangwayref20_Gather.mono _ _ _ _)
   | (with_reducible exact gangwayref20_Has.mono _ _ _ _)
   | (with_reducible exact gangwayref20_Pieces.mono _ _ _ _ _)
   | (with_reducible exact gangwayref20_Scatter.mono _ _ _ _ _)
   | (with_reducible exact iov_Gather.mono _ _ _ _)
   | (with_reducible exact iov_Pieces.mono _ _ _ _ _)
   | (with_reducible exact iov_Scatter.mono _ _ _ _ _)
   | (with_reducible exact iov_Total.mono _ _)
   | (with_reducible exact LeO.refl _)
   | (with_reducible exact LeO.none _)
   | (with_reducible refine LeO.ite ?_ ?_)
   | (with_reducible refine LeO.bind ?_ (fun _ => ?_))
   | apply ih0
   | apply ih1
   | apply ih2
   | apply ih3
   | apply ih4
   | apply ih5
   | apply ih6
   | exact gangwaylaw19_Both.mono _ _
   | exact gangwaylaw19_Same.mono _ _ _ _ _
   | exact gangwaylaw19_heavy.mono _ _ _ _ _ _
   | exact gangwaylaw19_wakes.mono _
   | exact gangwayref0_CopyBytes.mono _ _
   | exact gangwayref0_EqBytes.mono _ _ _
   | exact gangwayref0_EqPieces.mono _ _ _
   | exact gangwayref20_Gather.mono _ _ _ _
   | exact gangwayref20_Has.mono _ _ _ _
   | exact gangwayref20_Pieces.mono _ _ _ _ _
   | exact gangwayref20_Scatter.mono _ _ _ _ _
   | exact iov_Gather.mono _ _ _ _
   | exact iov_Pieces.mono _ _ _ _ _
   | exact iov_Scatter.mono _ _ _ _ _
   | exact iov_Total.mono _ _
   | exact LeO.none _
   | refine LeO.ite ?_ ?_
   | refine LeO.bind ?_ (fun _ => ?_)
  ·intro y0 y1 y2 y3 y4 y5 y6 y7 y8 y9
   unfold gangwaylaw19_IovExact.l1
   repeat' first
   | (with_reducible apply ih0)
   | (with_reducible apply ih1)
   | (with_reducible apply ih2)
   | (with_reducible apply ih3)
   | (with_reducible apply ih4)
   | (with_reducible apply ih5)
   | (with_reducible apply ih6)
   | (with_reducible exact gangwaylaw19_Both.mono _ _)
   | (with_reducible exact gangwaylaw19_Same.mono _ _ _ _ _)
   | (with_reducible exact gangwaylaw19_heavy.mono _ _ _ _ _ _)
   | (with_reducible exact gangwaylaw19_wakes.mono _)
   | (with_reducible exact gangwayref0_CopyBytes.mono _ _)
   | (with_reducible exact gangwayref0_EqBytes.mono _ _ _)
   | (with_reducible exact gangwayref0_EqPieces.mono _ _ _)
   | (with_reducible exact gangwayref20_Gather.mono _ _ _ _)
   | (with_reducible exact gangwayref20_Has.mono _ _ _ _)
   | (with_reducible exact gangwayref20_Pieces.mono _ _ _ _ _)
   | (with_reducible exact gangwayref20_Scatter.mono _ _ _ _ _)
   | (with_reducible exact iov_Gather.mono _ _ _ _)
   | (with_reducible exact iov_Pieces.mono _ _ _ _ _)
   | (with_reducible exact iov_Scatter.mono _ _ _ _ _)
   | (with_reducible exact iov_Total.mono _ _)
   | (with_reducible exact LeO.refl _)
   | (with_reducible exact LeO.none _)
   | (with_reducible refine LeO.ite ?_ ?_)
   | (with_reducible refine LeO.bind ?_ (fun _ => ?_))
   | apply ih0
   | apply ih1
   | apply ih2
   | apply ih3
   | apply ih4
   | apply ih5
   | apply ih6
   | exact gangwaylaw19_Both.mono _ _
   | exact gangwaylaw19_Same.mono _ _ _ _ _
   | exact gangwaylaw19_heavy.mono _ _ _ _ _ _
   | exact gangwaylaw19_wakes.mono _
   | exact gangwayref0_CopyBytes.mono _ _
   | exact gangwayref0_EqBytes.mono _ _ _
   | exact gangwayref0_EqPieces.mono _ _ _
   | exact gangwayref20_Gather.mono _ _ _ _
   | exact gangwayref20_Has.mono _ _ _ _
   | exact gangwayref20_Pieces.mono _ _ _ _ _
   | exact gangwayref20_Scatter.mono _ _ _ _ _
   | exact iov_Gather.mono _ _ _ _
   | exact iov_Pieces.mono _ _ _ _ _
   | exact iov_Scatter.mono _ _ _ _ _
   | exact iov_Total.mono _ _
   | exact LeO.none _
   | refine LeO.ite ?_ ?_
   | refine LeO.bind ?_ (fun _ => ?_)
  ·intro y0 y1 y2 y3 y4 y5 y6 y7 y8
   unfold gangwaylaw19_IovExact.j6
   repeat' first
   | (with_reducible apply ih0)
   | (with_reducible apply ih1)
   | (with_reducible apply ih2)
   | (with_reducible apply ih3)
   | (with_reducible apply ih4)
   | (with_reducible apply ih5)
   | (with_reducible apply ih6)
   | (with_reducible exact gangwaylaw19_Both.mono _ _)
   | (with_reducible exact gangwaylaw19_Same.mono _ _ _ _ _)
   | (with_reducible exact gangwaylaw19_heavy.mono _ _ _ _ _ _)
   | (with_reducible exact gangwaylaw19_wakes.mono _)
   | (with_reducible exact gangwayref0_CopyBytes.mono _ _)
   | (with_reducible exact gangwayref0_EqBytes.mono _ _ _)
   | (with_reducible exact gangwayref0_EqPieces.mono _ _ _)
   | (with_reducible exact gangwayref20_Gather.mono _ _ _ _)
   | (with_reducible exact gangwayref20_Has.mono _ _ _ _)
   | (with_reducible exact gangwayref20_Pieces.mono _ _ _ _ _)
   | (with_reducible exact gangwayref20_Scatter.mono _ _ _ _ _)
   | (with_reducible exact iov_Gather.mono _ _ _ _)
   | (with_reducible exact iov_Pieces.mono _ _ _ _ _)
   | (with_reducible exact iov_Scatter.mono _ _ _ _ _)
   | (with_reducible exact iov_Total.mono _ _)
   | (with_reducible exact LeO.refl _)
   | (with_reducible exact LeO.none _)
   | (with_reducible refine LeO.ite ?_ ?_)
   | (with_reducible refine LeO.bind ?_ (fun _ => ?_))
   | apply ih0
   | apply ih1
   | apply ih2
   | apply ih3
   | apply ih4
   | apply ih5
   | apply ih6
   | exact gangwaylaw19_Both.mono _ _
   | exact gangwaylaw19_Same.mono _ _ _ _ _
   | exact gangwaylaw19_heavy.mono _ _ _ _ _ _
   | exact gangwaylaw19_wakes.mono _
   | exact gangwayref0_CopyBytes.mono _ _
   | exact gangwayref0_EqBytes.mono _ _ _
   | exact gangwayref0_EqPieces.mono _ _ _
   | exact gangwayref20_Gather.mono _ _ _ _
   | exact gangwayref20_Has.mono _ _ _ _
   | exact gangwayref20_Pieces.mono _ _ _ _ _
   | exact gangwayref20_Scatter.mono _ _ _ _ _
   | exact iov_Gather.mono _ _ _ _
   | exact iov_Pieces.mono _ _ _ _ _
   | exact iov_Scatter.mono _ _ _ _ _
   | exact iov_Total.mono _ _
   | exact LeO.none _
   | refine LeO.ite ?_ ?_
   | refine LeO.bind ?_ (fun _ => ?_)
theorem gangwaylaw19_IovExact.mono : ∀ a0 k, LeO (gangwaylaw19_IovExact.f k a0) (gangwaylaw19_IovExact.f (k + 1) a0) := by
 intro a0 k
 obtain ⟨ih0, ih1, ih2, ih3, ih4, ih5, ih6⟩ := gangwaylaw19_IovExact.mono_l k
 unfold gangwaylaw19_IovExact.f
 repeat' first
   | (with_reducible apply ih0)
   | (with_reducible apply ih1)
   | (with_reducible apply ih2)
   | (with_reducible apply ih3)
   | (with_reducible apply ih4)
   | (with_reducible apply ih5)
   | (with_reducible apply ih6)
   | (with_reducible exact gangwaylaw19_Both.mono _ _)
   | (with_reducible exact gangwaylaw19_Same.mono _ _ _ _ _)
   | (with_reducible exact gangwaylaw19_heavy.mono _ _ _ _ _ _)
   | (with_reducible exact gangwaylaw19_wakes.mono _)
   | (with_reducible exact gangwayref0_CopyBytes.mono _ _)
   | (with_reducible exact gangwayref0_EqBytes.mono _ _ _)
   | (with_reducible exact gangwayref0_EqPieces.mono _ _ _)
   | (with_reducible exact gangwayref20_Gather.mono _ _ _ _)
   | (with_reducible exact gangwayref20_Has.mono _ _ _ _)
   | (with_reducible exact gangwayref20_Pieces.mono _ _ _ _ _)
   | (with_reducible exact gangwayref20_Scatter.mono _ _ _ _ _)
   | (with_reducible exact iov_Gather.mono _ _ _ _)
   | (with_reducible exact iov_Pieces.mono _ _ _ _ _)
   | (with_reducible exact iov_Scatter.mono _ _ _ _ _)
   | (with_reducible exact iov_Total.mono _ _)
   | (with_reducible exact LeO.refl _)
   | (with_reducible exact LeO.none _)
   | (with_reducible refine LeO.ite ?_ ?_)
   | (with_reducible refine LeO.bind ?_ (fun _ => ?_))
   | apply ih0
   | apply ih1
   | apply ih2
   | apply ih3
   | apply ih4
   | apply ih5
   | apply ih6
   | exact gangwaylaw19_Both.mono _ _
   | exact gangwaylaw19_Same.mono _ _ _ _ _
   | exact gangwaylaw19_heavy.mono _ _ _ _ _ _
   | exact gangwaylaw19_wakes.mono _
   | exact gangwayref0_CopyBytes.mono _ _
   | exact gangwayref0_EqBytes.mono _ _ _
   | exact gangwayref0_EqPieces.mono _ _ _
   | exact gangwayref20_Gather.mono _ _ _ _
   | exact gangwayref20_Has.mono _ _ _ _
   | exact gangwayref20_Pieces.mono _ _ _ _ _
   | exact gangwayref20_Scatter.mono _ _ _ _ _
   | exact iov_Gather.mono _ _ _ _
   | exact iov_Pieces.mono _ _ _ _ _
   | exact iov_Scatter.mono _ _ _ _ _
   | exact iov_Total.mono _ _
   | exact LeO.none _
   | refine LeO.ite ?_ ?_
   | refine LeO.bind ?_ (fun _ => ?_)
def gangwaylaw19_IovExact.T18 : Bool × List (List Nat × List Nat) := (true, [([], []), ([], []), ([1], [1]), ([], []), ([3], [3]), ([4], [4]), ([0, 2, 5, 5], [0, 2, 5]), ([6], [6]), ([7], [7]), ([7], [7]), ([8, 6, 0, 1, 2, 3, 4, 5, 6, 7, 8], [8]), ([9, 10, 0, 1, 2, 3, 4, 5, 6, 7, 8, 9, 10], [9])])
def gangwaylaw19_IovExact.B18 : List Nat := [0, 0, 2, 0, 8, 24, 63, 127, 255, 255, 511, 2047]
theorem gangwaylaw19_IovExact.tab18 : rtab .any (opsOf Try.f3 18) = gangwaylaw19_IovExact.T18 := by kernel_rfl
theorem gangwaylaw19_IovExact.bits18 : waitsOk gangwaylaw19_IovExact.T18.2 gangwaylaw19_IovExact.B18 = true := by kernel_rfl
theorem gangwaylaw19_IovExact.aa_0 {p : Prop} (h : p := by (try simp only [List.map_toArray, List.map_cons, List.map_nil]); first | done | rfl | (simp only [List.length_drop, List.length_take]; rfl)) : p := h
theorem gangwaylaw19_IovExact.aa_1 {p : Prop} (h : p := by repeat (first | (with_reducible first | exact HB.out | apply below_alloc | apply pw_below_drewN | apply below_drew1 | refine below_set ?_ (IsS72.ge HI333.out) | refine below_set ?_ (IsS57.ge HI339.out) | refine below_set ?_ GE326.out) | exact HB.out)) : p := h
theorem gangwaylaw19_IovExact.aa_2 {p : Prop} (h : p := by repeat (first | (with_reducible first | exact HB.out | apply below_alloc | apply pw_below_drewN | apply below_drew1 | refine below_set ?_ GE326.out) | exact HB.out)) : p := h
theorem gangwaylaw19_IovExact.aa_3 {p : Prop} (h : p := by (with_reducible repeat (first | refine blk_drewN ?_ _ | refine blk_drew ?_ | refine blk_alloc ?_ _)); exact BK326.out) : p := h
theorem gangwaylaw19_IovExact.aa_4 {p : Prop} (h : p := by repeat (first | (with_reducible first | exact HI339.out | apply IsS57.alloc | apply IsS57.drewN | apply IsS57.drew | apply IsS57.set_0 | apply IsS57.set_1 | refine IsS57.far ?_ NB339_326.out _) | exact HI339.out)) : p := h
theorem gangwaylaw19_IovExact.aa_5 {p : Prop} (h : p := by first | rfl | (simp; done) | (simp [*]; done)) : p := h
theorem gangwaylaw19_IovExact.aa_6 {p : Prop} (h : p := by repeat (first | (with_reducible first | exact HI333.out | apply IsS72.alloc | apply IsS72.drewN | apply IsS72.drew | apply IsS72.set_0 | apply IsS72.set_1 | refine IsS72.far ?_ NB333_326.out _) | exact HI333.out)) : p := h
theorem gangwaylaw19_IovExact.aa_7 {p : Prop} (h : p := by repeat (first | (with_reducible first | exact HB.out | apply below_alloc | apply pw_below_drewN | apply below_drew1) | exact HB.out)) : p := h
theorem gangwaylaw19_IovExact.aa_8 {p : Prop} (h : p := by first | (with_reducible assumption) | assumption) : p := h
theorem gangwaylaw19_IovExact.aa_9 {p : Prop} (h : p := by (with_reducible repeat (first | apply Kd.R_alloc | apply Kd.R_drewN | apply Kd.R_drew)); exact HO_7z.out) : p := h
theorem gangwaylaw19_IovExact.aa_10 {p : Prop} (h : p := by (with_reducible repeat (first | apply Kd.R_alloc | apply Kd.R_drewN | apply Kd.R_drew)); exact HO_5z.out) : p := h
theorem gangwaylaw19_IovExact.aa_11 {p : Prop} (h : p := by repeat (first | exact (Kd.C_below HR325_3.out HB.out) | (with_reducible refine Kd.C_alloc ?_ _) | (with_reducible refine Kd.C_drewN ?_ _) | (with_reducible refine Kd.C_drew ?_))) : p := h
theorem gangwaylaw19_IovExact.am_ {p : Prop} (h : p) : Aside0 p := Aside0.mk h
theorem gangwaylaw19_IovExact.bm_ {α β : Type _} {o : Option α} {f : α → Option β} {b : β} (h : o.bind f = some b) : ∃ a, o = some a ∧ f a = some b := Option.bind_eq_some_iff.mp h
set_option maxHeartbeats 8000000 in
set_option maxRecDepth 100000 in
theorem gangwaylaw19_IovExact.calls (k : Nat) (A0 : Option Addr) (c0 : Nat) (l0 : List (S26)) (r : Bool) (w : World) (hr0 : Kd.C k26 w A0 l0.length l0) (hc0 : l0.length ≤ c0) (h : gangwaylaw19_IovExact.f k l0 = some r) :
  Calls Try.prog 3 #[.slice A0 l0.length c0] w fun e w' => e = .returned (.bool r) ∧ Below w.heap.size w w' := by
 have hu26 := Try.underlying26
 have HR0 := am_ hr0
 have HC0 := am_ hc0
 clear hr0 hc0
 have HB := am_ (Below.refl w.heap.size w)
 have H : (gangwaylaw19_IovExact.l0 k l0 0) = some r := h
 clear h
 have H' := am_ H
 clear H
 go_enter Try.func3, Try.ntmps3
 go_wp2
 go_loopg [3] k (fun kq v3 w' => ∃ (x3_1 : Int), v3 = .int .i64 x3_1 ∧ Aside0 (gangwaylaw19_IovExact.l0 kq l0 x3_1 = some r) ∧ Aside0 (kq ≤ k) ∧ Aside0 (Below w.heap.size w w'))
 case atStart => exact ⟨(0), aa_5, H', ⟨Nat.le_refl _⟩, ⟨aa_7⟩⟩
 case round =>
 as_aux_lemma =>
 clear H'
 obtain ⟨x3_1, rfl, HA, HK1, HB⟩ := hrel
 cases gk with
 | zero => exact absurd HA.out (by simp [gangwaylaw19_IovExact.l0])
 | succ k1 =>
 have H := HA.out
 clear HA
 simp only [gangwaylaw19_IovExact.l0] at H
 have HC2 := am_ H
 clear H
 go_upto_region 2 with (fail)
 go_cut [35] (fun v35 wc => ∃ (kq : Nat) (x35_1 : Bool), v35 = .bool x35_1 ∧ Aside0 (j1 kq l0 x3_1 x35_1 = some r) ∧ Aside0 (kq ≤ k1) ∧ Aside0 (Below w.heap.size w wc))
 case first =>
  as_aux_lemma =>
  have H := HC2.out
  clear HC2
  by_cases c3 : x3_1 < (l0.length : Int)
  ·rw [if_pos c3] at H
   have c3b0 : decide (x3_1 < (l0.length : Int)) = true := decide_eq_true c3
   clear c3
   (first | rw [c3b0] | (simp only [i64_w, i32_w]; rw [c3b0]) | skip)
   have H' := am_ H
   clear H
   go_wp2
   go_meet
   case rel => exact ⟨_, (decide (x3_1 < 8)), aa_5, H', ⟨by have := HK1.out; first | omega | exact Nat.le_refl _⟩, ⟨aa_7⟩⟩
  rw [if_neg c3] at H
  have c3b0 : decide (x3_1 < (l0.length : Int)) = false := decide_eq_false c3
  clear c3
  (first | rw [c3b0] | (simp only [i64_w, i32_w]; rw [c3b0]) | skip)
  have H' := am_ H
  clear H
  go_wp2
  go_meet
  case rel => exact ⟨_, (false), aa_5, H', ⟨by have := HK1.out; first | omega | exact Nat.le_refl _⟩, ⟨aa_7⟩⟩
 case rest =>
 as_aux_lemma =>
 clear HC2
 try clear p2
 try clear c3
 try clear c3b0
 obtain ⟨kq, x35_1, rfl, HA, HJ1, HB⟩ := hcut
 cases kq with
 | zero => exact absurd HA.out (by simp [j1])
 | succ kj1 =>
 have H := HA.out
 clear HA
 simp only [j1] at H
 by_cases c4 : x35_1 = true
 rotate_left
 ·as_aux_lemma =>
  replace c4 := Bool.eq_false_iff.mpr c4
  subst c4
  have H1 : ((iov_Pieces_nil.f).bind fun t464 => ((iov_Gather_nil.f).bind fun t465 => ((iov_Scatter_nil.f).bind fun bt466 => ((gangwaylaw19_num.f t464).bind fun t468 => (if t468 = 100 then ((gangwaylaw19_num.f t465).bind fun t469 => (if t469 = 100 then ((gangwaylaw19_num.f bt466.2).bind fun t470 => (if t470 = 100 then (if (wrap64 (bt466.1)) = 0 then ((gangwaylaw19_wakes.f kj1).bind fun t471 => (some t471)) else (none)) else (none))) else (none))) else (none)))))) = some r := by rw [if_neg (show ¬ (false = true) by decide)] at H; exact H
  clear H
  have H := H1
  clear H1
  replace H := bm_ H
  obtain ⟨t464, A1240, H⟩ := H
  replace H : ((iov_Gather_nil.f).bind fun t465 => ((iov_Scatter_nil.f).bind fun bt466 => ((gangwaylaw19_num.f t464).bind fun t468 => (if t468 = 100 then ((gangwaylaw19_num.f t465).bind fun t469 => (if t469 = 100 then ((gangwaylaw19_num.f bt466.2).bind fun t470 => (if t470 = 100 then (if (wrap64 (bt466.1)) = 0 then ((gangwaylaw19_wakes.f kj1).bind fun t471 => (some t471)) else (none)) else (none))) else (none))) else (none))))) = some r := H
  have A124 := am_ A1240
  clear A1240
  replace H := bm_ H
  obtain ⟨t465, A1250, H⟩ := H
  replace H : ((iov_Scatter_nil.f).bind fun bt466 => ((gangwaylaw19_num.f t464).bind fun t468 => (if t468 = 100 then ((gangwaylaw19_num.f t465).bind fun t469 => (if t469 = 100 then ((gangwaylaw19_num.f bt466.2).bind fun t470 => (if t470 = 100 then (if (wrap64 (bt466.1)) = 0 then ((gangwaylaw19_wakes.f kj1).bind fun t471 => (some t471)) else (none)) else (none))) else (none))) else (none)))) = some r := H
  have A125 := am_ A1250
  clear A1250
  replace H := bm_ H
  obtain ⟨⟨t466, t467⟩, A1260, H⟩ := H
  replace H : ((gangwaylaw19_num.f t464).bind fun t468 => (if t468 = 100 then ((gangwaylaw19_num.f t465).bind fun t469 => (if t469 = 100 then ((gangwaylaw19_num.f t467).bind fun t470 => (if t470 = 100 then (if (wrap64 (t466)) = 0 then ((gangwaylaw19_wakes.f kj1).bind fun t471 => (some t471)) else (none)) else (none))) else (none))) else (none))) = some r := H
  have A126 := am_ A1260
  clear A1260
  replace H := bm_ H
  obtain ⟨t468, A1270, H⟩ := H
  replace H : (if t468 = 100 then ((gangwaylaw19_num.f t465).bind fun t469 => (if t469 = 100 then ((gangwaylaw19_num.f t467).bind fun t470 => (if t470 = 100 then (if (wrap64 (t466)) = 0 then ((gangwaylaw19_wakes.f kj1).bind fun t471 => (some t471)) else (none)) else (none))) else (none))) else (none)) = some r := H
  have A127 := am_ A1270
  clear A1270
  by_cases c128 : t468 = 100
  rotate_left
  ·rw [if_neg c128] at H
   exact absurd H (by simp)
  as_aux_lemma =>
  rw [if_pos c128] at H
  have c128b0 : (t468 == 100) = true := beq_iff_eq.mpr c128
  have c128b1 : (t468 != 100) = false := bne_eq_false_iff_eq.mpr c128
  clear c128
  replace H := bm_ H
  obtain ⟨t469, A1290, H⟩ := H
  replace H : (if t469 = 100 then ((gangwaylaw19_num.f t467).bind fun t470 => (if t470 = 100 then (if (wrap64 (t466)) = 0 then ((gangwaylaw19_wakes.f kj1).bind fun t471 => (some t471)) else (none)) else (none))) else (none)) = some r := H
  have A129 := am_ A1290
  clear A1290
  by_cases c130 : t469 = 100
  rotate_left
  ·rw [if_neg c130] at H
   exact absurd H (by simp)
  rw [if_pos c130] at H
  have c130b0 : (t469 == 100) = true := beq_iff_eq.mpr c130
  have c130b1 : (t469 != 100) = false := bne_eq_false_iff_eq.mpr c130
  clear c130
  replace H := bm_ H
  obtain ⟨t470, A1310, H⟩ := H
  replace H : (if t470 = 100 then (if (wrap64 (t466)) = 0 then ((gangwaylaw19_wakes.f kj1).bind fun t471 => (some t471)) else (none)) else (none)) = some r := H
  have A131 := am_ A1310
  clear A1310
  by_cases c132 : t470 = 100
  rotate_left
  ·rw [if_neg c132] at H
   exact absurd H (by simp)
  rw [if_pos c132] at H
  have c132b0 : (t470 == 100) = true := beq_iff_eq.mpr c132
  have c132b1 : (t470 != 100) = false := bne_eq_false_iff_eq.mpr c132
  clear c132
  by_cases c133 : (wrap64 (t466)) = 0
  rotate_left
  ·rw [if_neg c133] at H
   exact absurd H (by simp)
  rw [if_pos c133] at H
  have c133b0 : ((wrap64 (t466)) == 0) = true := beq_iff_eq.mpr c133
  have c133b1 : ((wrap64 (t466)) != 0) = false := bne_eq_false_iff_eq.mpr c133
  clear c133
  replace H := bm_ H
  obtain ⟨t471, A1340, H⟩ := H
  replace H : (some t471) = some r := H
  have A134 := am_ A1340
  clear A1340
  obtain rfl := Option.some.inj H
  go_wp2_with (first | (go_at_call 7; (with_reducible refine (iov_Pieces_nil.calls  t464 _ A124.out).mono ?_); rintro e w135 ⟨rfl, hb⟩; have n0_ := am_ (below_step aa_7 hb); clear HB; have HB := n0_; clear n0_; (try clear hb); (try clear hb2); (try clear hk); (try clear hi)) | (go_at_call 12; (with_reducible refine (iov_Gather_nil.calls  t465 _ A125.out).mono ?_); rintro e w136 ⟨rfl, hb⟩; have n0_ := am_ (below_step aa_7 hb); clear HB; have HB := n0_; clear n0_; (try clear hb); (try clear hb2); (try clear hk); (try clear hi)) | (go_at_call 15; (with_reducible refine (iov_Scatter_nil.calls  t466 t467 _ A126.out).mono ?_); rintro e w137 ⟨rfl, hb⟩; have n0_ := am_ (below_step aa_7 hb); clear HB; have HB := n0_; clear n0_; (try clear hb); (try clear hb2); (try clear hk); (try clear hi)) | ((with_reducible refine gate_callee (f := 9) rfl ?_); refine goesL_ (some 254) rfl rfl Try.func9 (by kernel_rfl) rfl #[.int .i64 t464] rfl aa_0 ?_; (with_reducible refine (gangwaylaw19_num.calls t464 t468 _ A127.out).mono ?_); rintro e w' ⟨rfl, ⟨nd, rfl⟩⟩; refine ⟨_, rfl, ?_⟩) | (go_at_call 9; (with_reducible refine (gangwaylaw19_num.calls t465 t469 _ A129.out).mono ?_); rintro e w' ⟨rfl, ⟨nd, rfl⟩⟩) | (go_at_call 9; (with_reducible refine (gangwaylaw19_num.calls t467 t470 _ A131.out).mono ?_); rintro e w' ⟨rfl, ⟨nd, rfl⟩⟩) | (go_at_call 20; (with_reducible refine (gangwaylaw19_wakes.calls kj1  t471 _ A134.out).mono ?_); rintro e w138 ⟨rfl, hb⟩; have n0_ := am_ (below_step aa_7 hb); clear HB; have HB := n0_; clear n0_; (try clear hb); (try clear hb2); (try clear hk); (try clear hi)))
  go_ret
  exact ⟨by first | rfl | (simp [errW_none, errW_some] <;> rfl) | (simp [*, errW_none, errW_some] <;> rfl), by repeat (first | (with_reducible first | exact HB.out | apply below_alloc | apply pw_below_drewN | apply below_drew1) | exact HB.out)⟩
 as_aux_lemma =>
 subst c4
 have H1 : (if 0 ≤ x3_1 then (if x3_1 < (l0.length : Int) then ((gangwaylaw19_heavy.f kj1 ((rd_T26 l0 x3_1).f0) ((rd_T26 l0 x3_1).f1) ((rd_T26 l0 x3_1).f2) ((rd_T26 l0 x3_1).f3) ((rd_T26 l0 x3_1).f4)).bind fun t327 => (if t327 = true then (some true) else ((gangwaylaw19_Both.f kj1 ((rd_T26 l0 x3_1).f0)).bind fun bt328 => (if bt328.1 = true then (if bt328.2.2.2.1 = true then ((iov_Pieces.f kj1 bt328.2.1 bt328.2.2.1 ((rd_T26 l0 x3_1).f1) ((rd_T26 l0 x3_1).f2)).bind fun bt340 => ((gangwayref20_Pieces.f kj1 bt328.2.2.2.2.1 bt328.2.2.2.2.2 ((rd_T26 l0 x3_1).f1) ((rd_T26 l0 x3_1).f2)).bind fun bt348 => ((gangwaylaw19_num.f bt340.2.1).bind fun t356 => (if t356 = bt348.2.1 then ((gangwayref0_EqPieces.f kj1 bt340.1 bt348.1).bind fun t357 => (if t357 = true then ((gangwayref20_Has.f kj1 bt348.2.2.1 bt348.2.2.2 ((rd_T26 l0 x3_1).f3)).bind fun bt411 => ((iov_Gather.f kj1 bt340.2.2.1 bt340.2.2.2 ((rd_T26 l0 x3_1).f3)).bind fun bt416 => ((gangwaylaw19_num.f bt416.2.1).bind fun t424 => (if (bt411.1 != (t424 == 0)) = true then (none) else (if bt411.1 = true then ((gangwayref20_Gather.f kj1 bt411.2.1 bt411.2.2 ((rd_T26 l0 x3_1).f3)).bind fun bt425 => ((gangwayref0_EqBytes.f kj1 bt416.1 bt425.1).bind fun t432 => (j2 kj1 l0 x3_1 bt411.1 (!t432) ((rd_T26 l0 x3_1).f0) ((rd_T26 l0 x3_1).f1) ((rd_T26 l0 x3_1).f2) ((rd_T26 l0 x3_1).f3) ((rd_T26 l0 x3_1).f4) bt416.2.2.1 bt416.2.2.2 bt425.2.1 bt425.2.2))) else (if t424 = 21 then (if (bt416.1.length : Int) > 0 then (none) else (j2 kj1 l0 x3_1 bt411.1 false ((rd_T26 l0 x3_1).f0) ((rd_T26 l0 x3_1).f1) ((rd_T26 l0 x3_1).f2) ((rd_T26 l0 x3_1).f3) ((rd_T26 l0 x3_1).f4) bt416.2.2.1 bt416.2.2.2 bt411.2.1 bt411.2.2)) else (none))))))) else (none))) else (none))))) else (none)) else (none))))) else (none)) else (none)) = some r := by rw [if_pos rfl] at H; exact H
 clear H
 have H := H1
 clear H1
 by_cases c5 : 0 ≤ x3_1
 rotate_left
 ·rw [if_neg c5] at H
  exact absurd H (by simp)
 as_aux_lemma =>
 rw [if_pos c5] at H
 have c5b0 : decide (0 ≤ x3_1) = true := decide_eq_true c5
 clear c5
 by_cases c6 : x3_1 < (l0.length : Int)
 rotate_left
 ·rw [if_neg c6] at H
  exact absurd H (by simp)
 as_aux_lemma =>
 rw [if_pos c6] at H
 have c6b0 : decide (x3_1 < (l0.length : Int)) = true := decide_eq_true c6
 clear c6
 replace H := bm_ H
 obtain ⟨t327, A70, H⟩ := H
 replace H : (if t327 = true then (some true) else ((gangwaylaw19_Both.f kj1 ((rd_T26 l0 x3_1).f0)).bind fun bt328 => (if bt328.1 = true then (if bt328.2.2.2.1 = true then ((iov_Pieces.f kj1 bt328.2.1 bt328.2.2.1 ((rd_T26 l0 x3_1).f1) ((rd_T26 l0 x3_1).f2)).bind fun bt340 => ((gangwayref20_Pieces.f kj1 bt328.2.2.2.2.1 bt328.2.2.2.2.2 ((rd_T26 l0 x3_1).f1) ((rd_T26 l0 x3_1).f2)).bind fun bt348 => ((gangwaylaw19_num.f bt340.2.1).bind fun t356 => (if t356 = bt348.2.1 then ((gangwayref0_EqPieces.f kj1 bt340.1 bt348.1).bind fun t357 => (if t357 = true then ((gangwayref20_Has.f kj1 bt348.2.2.1 bt348.2.2.2 ((rd_T26 l0 x3_1).f3)).bind fun bt411 => ((iov_Gather.f kj1 bt340.2.2.1 bt340.2.2.2 ((rd_T26 l0 x3_1).f3)).bind fun bt416 => ((gangwaylaw19_num.f bt416.2.1).bind fun t424 => (if (bt411.1 != (t424 == 0)) = true then (none) else (if bt411.1 = true then ((gangwayref20_Gather.f kj1 bt411.2.1 bt411.2.2 ((rd_T26 l0 x3_1).f3)).bind fun bt425 => ((gangwayref0_EqBytes.f kj1 bt416.1 bt425.1).bind fun t432 => (j2 kj1 l0 x3_1 bt411.1 (!t432) ((rd_T26 l0 x3_1).f0) ((rd_T26 l0 x3_1).f1) ((rd_T26 l0 x3_1).f2) ((rd_T26 l0 x3_1).f3) ((rd_T26 l0 x3_1).f4) bt416.2.2.1 bt416.2.2.2 bt425.2.1 bt425.2.2))) else (if t424 = 21 then (if (bt416.1.length : Int) > 0 then (none) else (j2 kj1 l0 x3_1 bt411.1 false ((rd_T26 l0 x3_1).f0) ((rd_T26 l0 x3_1).f1) ((rd_T26 l0 x3_1).f2) ((rd_T26 l0 x3_1).f3) ((rd_T26 l0 x3_1).f4) bt416.2.2.1 bt416.2.2.2 bt411.2.1 bt411.2.2)) else (none))))))) else (none))) else (none))))) else (none)) else (none)))) = some r := H
 have A7 := am_ A70
 clear A70
 by_cases c8 : t327 = true
 ·subst c8
  have H1 : (some true) = some r := by rw [if_pos rfl] at H; exact H
  clear H
  have H := H1
  clear H1
  obtain rfl := Option.some.inj H
  have p325 : 0 ≤ (x3_1 : Int) := of_decide_eq_true aa_8
  have q325 : x3_1 < (l0.length : Int) := of_decide_eq_true aa_8
  obtain ⟨ad325, A325_0, c325_0, A325_3, c325_3, A325_4, c325_4, e325, hx325_0, hx325_1, hx325_2, hx325_3, hx325_4, hl325_0, hi325_0, hl325_3, hi325_3, hl325_4, hi325_4⟩ := at_T26 HR0.out x3_1 p325 q325
  cases e325
  replace hx325_0 := up HB hx325_0
  replace hx325_1 := up HB hx325_1
  replace hx325_2 := up HB hx325_2
  replace hx325_3 := up HB hx325_3
  replace hx325_4 := up HB hx325_4
  have HR325_0 := am_ hi325_0
  have HC325_0 := am_ hl325_0
  clear hi325_0 hl325_0
  have HR325_3 := am_ hi325_3
  have HC325_3 := am_ hl325_3
  clear hi325_3 hl325_3
  have HR325_4 := am_ hi325_4
  have HC325_4 := am_ hl325_4
  clear hi325_4 hl325_4
  replace p325 := eq_true p325
  replace q325 := eq_true q325
  go_wp2_with (first | ((with_reducible refine gate_dst (N := 4) rfl ?_); (try (refine gate_guard (by rfl) ?_; dsimp only)); refine box_event ?hg (N := 4) ?hd (cs := #[.slice none 0 0, .int .i64 0, .int .i64 0, .slice none 0 0, .slice none 0 0]) (t := 26) ?hr ?_; (case hd => rfl); (case hg => rfl); (case hr => first | (go_simp; done) | (go_simp; rfl)); intro gb326 hg w9 hbox hb; have n0_ := am_ (below_step aa_7 hb); have n1_ := am_ (hbox); have n2_ := am_ ((by rw [hg]; exact (below_size aa_7) : w.heap.size ≤ gb326)); have n3_ := am_ ((by rw [hg]; exact (below_size aa_7) : w.heap.size ≤ gb326)); clear HB; have HB := n0_; have BK326 := n1_; have GW326 := n2_; have GE326 := n3_; clear n0_ n1_ n2_ n3_; clear hb hbox hg; have hcz10_0 : w9.cell? ⟨gb326, 0, none⟩ = some (.slice none 0 0) := (bc BK326 0); have hcz10_1 : w9.cell? ⟨gb326, 1, none⟩ = some (.int .i64 0) := (bc BK326 1); have hcz10_2 : w9.cell? ⟨gb326, 2, none⟩ = some (.int .i64 0) := (bc BK326 2); have hcz10_3 : w9.cell? ⟨gb326, 3, none⟩ = some (.slice none 0 0) := (bc BK326 3); have hcz10_4 : w9.cell? ⟨gb326, 4, none⟩ = some (.slice none 0 0) := (bc BK326 4); have hfz10_0 := blk_frozen BK326.out 0; have hfz10_1 := blk_frozen BK326.out 1; have hfz10_2 := blk_frozen BK326.out 2; have hfz10_3 := blk_frozen BK326.out 3; have hfz10_4 := blk_frozen BK326.out 4) | ((with_reducible refine gate_callee (f := 5) rfl ?_); refine goesL_ (some 43) rfl rfl Try.func5 (by kernel_rfl) rfl #[.agg #[.slice A325_0 ((rd_T26 l0 x3_1).f0).length c325_0, .int .i64 ((rd_T26 l0 x3_1).f1), .int .i64 ((rd_T26 l0 x3_1).f2), .slice A325_3 ((rd_T26 l0 x3_1).f3).length c325_3, .slice A325_4 ((rd_T26 l0 x3_1).f4).length c325_4]] rfl aa_0 ?_; (with_reducible refine (gangwaylaw19_heavy.calls kj1 _ _ ((rd_T26 l0 x3_1).f0) ((rd_T26 l0 x3_1).f1) ((rd_T26 l0 x3_1).f2) _ _ ((rd_T26 l0 x3_1).f3) _ _ ((rd_T26 l0 x3_1).f4) true _ ?side1 ?side2 ?side3 ?side4 ?side5 ?side6 A7.out).mono ?_); (case side1 => exact Kd.C_below HR325_0.out aa_2); (case side2 => exact HC325_0.out); (case side3 => exact Kd.C_below HR325_3.out aa_2); (case side4 => exact HC325_3.out); (case side5 => exact Kd.C_below HR325_4.out aa_2); (case side6 => exact HC325_4.out); rintro e w11 ⟨rfl, hb⟩; refine ⟨_, rfl, ?_⟩; have n0_ := am_ (blk_below (g := gb326) (o := .cells #[.slice A325_0 ((rd_T26 l0 x3_1).f0).length c325_0, .int .i64 ((rd_T26 l0 x3_1).f1), .int .i64 ((rd_T26 l0 x3_1).f2), .slice A325_3 ((rd_T26 l0 x3_1).f3).length c325_3, .slice A325_4 ((rd_T26 l0 x3_1).f4).length c325_4] 26 (0, 0)) (by (with_reducible repeat (first | refine blk_drewN ?_ _ | refine blk_drew ?_ | refine blk_alloc ?_ _)); refine puts (cs := #[.slice none 0 0, .int .i64 0, .int .i64 0, .slice none 0 0, .slice none 0 0]) [_, _, _, _, _] ?_ rfl; (with_reducible repeat (first | refine blk_drewN ?_ _ | refine blk_drew ?_ | refine blk_alloc ?_ _)); exact BK326.out) hb); have n1_ := am_ (below_step aa_2 hb); clear BK326; clear HB; have BK326 := n0_; have HB := n1_; clear n0_ n1_; (try clear hb); (try clear hb2); (try clear hk); (try clear hi)))
  go_ret
  exact ⟨by first | rfl | (simp [errW_none, errW_some] <;> rfl) | (simp [*, errW_none, errW_some] <;> rfl), by repeat (first | (with_reducible first | exact HB.out | apply below_alloc | apply pw_below_drewN | apply below_drew1 | refine below_set ?_ GE326.out) | exact HB.out)⟩
 as_aux_lemma =>
 replace c8 := Bool.eq_false_iff.mpr c8
 subst c8
 have H1 : ((gangwaylaw19_Both.f kj1 ((rd_T26 l0 x3_1).f0)).bind fun bt328 => (if bt328.1 = true then (if bt328.2.2.2.1 = true then ((iov_Pieces.f kj1 bt328.2.1 bt328.2.2.1 ((rd_T26 l0 x3_1).f1) ((rd_T26 l0 x3_1).f2)).bind fun bt340 => ((gangwayref20_Pieces.f kj1 bt328.2.2.2.2.1 bt328.2.2.2.2.2 ((rd_T26 l0 x3_1).f1) ((rd_T26 l0 x3_1).f2)).bind fun bt348 => ((gangwaylaw19_num.f bt340.2.1).bind fun t356 => (if t356 = bt348.2.1 then ((gangwayref0_EqPieces.f kj1 bt340.1 bt348.1).bind fun t357 => (if t357 = true then ((gangwayref20_Has.f kj1 bt348.2.2.1 bt348.2.2.2 ((rd_T26 l0 x3_1).f3)).bind fun bt411 => ((iov_Gather.f kj1 bt340.2.2.1 bt340.2.2.2 ((rd_T26 l0 x3_1).f3)).bind fun bt416 => ((gangwaylaw19_num.f bt416.2.1).bind fun t424 => (if (bt411.1 != (t424 == 0)) = true then (none) else (if bt411.1 = true then ((gangwayref20_Gather.f kj1 bt411.2.1 bt411.2.2 ((rd_T26 l0 x3_1).f3)).bind fun bt425 => ((gangwayref0_EqBytes.f kj1 bt416.1 bt425.1).bind fun t432 => (j2 kj1 l0 x3_1 bt411.1 (!t432) ((rd_T26 l0 x3_1).f0) ((rd_T26 l0 x3_1).f1) ((rd_T26 l0 x3_1).f2) ((rd_T26 l0 x3_1).f3) ((rd_T26 l0 x3_1).f4) bt416.2.2.1 bt416.2.2.2 bt425.2.1 bt425.2.2))) else (if t424 = 21 then (if (bt416.1.length : Int) > 0 then (none) else (j2 kj1 l0 x3_1 bt411.1 false ((rd_T26 l0 x3_1).f0) ((rd_T26 l0 x3_1).f1) ((rd_T26 l0 x3_1).f2) ((rd_T26 l0 x3_1).f3) ((rd_T26 l0 x3_1).f4) bt416.2.2.1 bt416.2.2.2 bt411.2.1 bt411.2.2)) else (none))))))) else (none))) else (none))))) else (none)) else (none))) = some r := by rw [if_neg (show ¬ (false = true) by decide)] at H; exact H
 clear H
 have H := H1
 clear H1
 replace H := bm_ H
 obtain ⟨⟨t328, t329, t332, t334, t335, t338⟩, A120, H⟩ := H
 replace H : (if t328 = true then (if t334 = true then ((iov_Pieces.f kj1 t329 t332 ((rd_T26 l0 x3_1).f1) ((rd_T26 l0 x3_1).f2)).bind fun bt340 => ((gangwayref20_Pieces.f kj1 t335 t338 ((rd_T26 l0 x3_1).f1) ((rd_T26 l0 x3_1).f2)).bind fun bt348 => ((gangwaylaw19_num.f bt340.2.1).bind fun t356 => (if t356 = bt348.2.1 then ((gangwayref0_EqPieces.f kj1 bt340.1 bt348.1).bind fun t357 => (if t357 = true then ((gangwayref20_Has.f kj1 bt348.2.2.1 bt348.2.2.2 ((rd_T26 l0 x3_1).f3)).bind fun bt411 => ((iov_Gather.f kj1 bt340.2.2.1 bt340.2.2.2 ((rd_T26 l0 x3_1).f3)).bind fun bt416 => ((gangwaylaw19_num.f bt416.2.1).bind fun t424 => (if (bt411.1 != (t424 == 0)) = true then (none) else (if bt411.1 = true then ((gangwayref20_Gather.f kj1 bt411.2.1 bt411.2.2 ((rd_T26 l0 x3_1).f3)).bind fun bt425 => ((gangwayref0_EqBytes.f kj1 bt416.1 bt425.1).bind fun t432 => (j2 kj1 l0 x3_1 bt411.1 (!t432) ((rd_T26 l0 x3_1).f0) ((rd_T26 l0 x3_1).f1) ((rd_T26 l0 x3_1).f2) ((rd_T26 l0 x3_1).f3) ((rd_T26 l0 x3_1).f4) bt416.2.2.1 bt416.2.2.2 bt425.2.1 bt425.2.2))) else (if t424 = 21 then (if (bt416.1.length : Int) > 0 then (none) else (j2 kj1 l0 x3_1 bt411.1 false ((rd_T26 l0 x3_1).f0) ((rd_T26 l0 x3_1).f1) ((rd_T26 l0 x3_1).f2) ((rd_T26 l0 x3_1).f3) ((rd_T26 l0 x3_1).f4) bt416.2.2.1 bt416.2.2.2 bt411.2.1 bt411.2.2)) else (none))))))) else (none))) else (none))))) else (none)) else (none)) = some r := H
 have A12 := am_ A120
 clear A120
 by_cases c13 : t328 = true
 rotate_left
 ·replace c13 := Bool.eq_false_iff.mpr c13
  subst c13
  have H1 : (none) = some r := by rw [if_neg (show ¬ (false = true) by decide)] at H; exact H
  clear H
  have H := H1
  clear H1
  exact absurd H (by simp)
 as_aux_lemma =>
 subst c13
 have H1 : (if t334 = true then ((iov_Pieces.f kj1 t329 t332 ((rd_T26 l0 x3_1).f1) ((rd_T26 l0 x3_1).f2)).bind fun bt340 => ((gangwayref20_Pieces.f kj1 t335 t338 ((rd_T26 l0 x3_1).f1) ((rd_T26 l0 x3_1).f2)).bind fun bt348 => ((gangwaylaw19_num.f bt340.2.1).bind fun t356 => (if t356 = bt348.2.1 then ((gangwayref0_EqPieces.f kj1 bt340.1 bt348.1).bind fun t357 => (if t357 = true then ((gangwayref20_Has.f kj1 bt348.2.2.1 bt348.2.2.2 ((rd_T26 l0 x3_1).f3)).bind fun bt411 => ((iov_Gather.f kj1 bt340.2.2.1 bt340.2.2.2 ((rd_T26 l0 x3_1).f3)).bind fun bt416 => ((gangwaylaw19_num.f bt416.2.1).bind fun t424 => (if (bt411.1 != (t424 == 0)) = true then (none) else (if bt411.1 = true then ((gangwayref20_Gather.f kj1 bt411.2.1 bt411.2.2 ((rd_T26 l0 x3_1).f3)).bind fun bt425 => ((gangwayref0_EqBytes.f kj1 bt416.1 bt425.1).bind fun t432 => (j2 kj1 l0 x3_1 bt411.1 (!t432) ((rd_T26 l0 x3_1).f0) ((rd_T26 l0 x3_1).f1) ((rd_T26 l0 x3_1).f2) ((rd_T26 l0 x3_1).f3) ((rd_T26 l0 x3_1).f4) bt416.2.2.1 bt416.2.2.2 bt425.2.1 bt425.2.2))) else (if t424 = 21 then (if (bt416.1.length : Int) > 0 then (none) else (j2 kj1 l0 x3_1 bt411.1 false ((rd_T26 l0 x3_1).f0) ((rd_T26 l0 x3_1).f1) ((rd_T26 l0 x3_1).f2) ((rd_T26 l0 x3_1).f3) ((rd_T26 l0 x3_1).f4) bt416.2.2.1 bt416.2.2.2 bt411.2.1 bt411.2.2)) else (none))))))) else (none))) else (none))))) else (none)) = some r := by rw [if_pos rfl] at H; exact H
 clear H
 have H := H1
 clear H1
 by_cases c14 : t334 = true
 rotate_left
 ·replace c14 := Bool.eq_false_iff.mpr c14
  subst c14
  have H1 : (none) = some r := by rw [if_neg (show ¬ (false = true) by decide)] at H; exact H
  clear H
  have H := H1
  clear H1
  exact absurd H (by simp)
 as_aux_lemma =>
 subst c14
 have H1 : ((iov_Pieces.f kj1 t329 t332 ((rd_T26 l0 x3_1).f1) ((rd_T26 l0 x3_1).f2)).bind fun bt340 => ((gangwayref20_Pieces.f kj1 t335 t338 ((rd_T26 l0 x3_1).f1) ((rd_T26 l0 x3_1).f2)).bind fun bt348 => ((gangwaylaw19_num.f bt340.2.1).bind fun t356 => (if t356 = bt348.2.1 then ((gangwayref0_EqPieces.f kj1 bt340.1 bt348.1).bind fun t357 => (if t357 = true then ((gangwayref20_Has.f kj1 bt348.2.2.1 bt348.2.2.2 ((rd_T26 l0 x3_1).f3)).bind fun bt411 => ((iov_Gather.f kj1 bt340.2.2.1 bt340.2.2.2 ((rd_T26 l0 x3_1).f3)).bind fun bt416 => ((gangwaylaw19_num.f bt416.2.1).bind fun t424 => (if (bt411.1 != (t424 == 0)) = true then (none) else (if bt411.1 = true then ((gangwayref20_Gather.f kj1 bt411.2.1 bt411.2.2 ((rd_T26 l0 x3_1).f3)).bind fun bt425 => ((gangwayref0_EqBytes.f kj1 bt416.1 bt425.1).bind fun t432 => (j2 kj1 l0 x3_1 bt411.1 (!t432) ((rd_T26 l0 x3_1).f0) ((rd_T26 l0 x3_1).f1) ((rd_T26 l0 x3_1).f2) ((rd_T26 l0 x3_1).f3) ((rd_T26 l0 x3_1).f4) bt416.2.2.1 bt416.2.2.2 bt425.2.1 bt425.2.2))) else (if t424 = 21 then (if (bt416.1.length : Int) > 0 then (none) else (j2 kj1 l0 x3_1 bt411.1 false ((rd_T26 l0 x3_1).f0) ((rd_T26 l0 x3_1).f1) ((rd_T26 l0 x3_1).f2) ((rd_T26 l0 x3_1).f3) ((rd_T26 l0 x3_1).f4) bt416.2.2.1 bt416.2.2.2 bt411.2.1 bt411.2.2)) else (none))))))) else (none))) else (none))))) = some r := by rw [if_pos rfl] at H; exact H
 clear H
 have H := H1
 clear H1
 replace H := bm_ H
 obtain ⟨⟨t340, t343, t344, t347⟩, A150, H⟩ := H
 replace H : ((gangwayref20_Pieces.f kj1 t335 t338 ((rd_T26 l0 x3_1).f1) ((rd_T26 l0 x3_1).f2)).bind fun bt348 => ((gangwaylaw19_num.f t343).bind fun t356 => (if t356 = bt348.2.1 then ((gangwayref0_EqPieces.f kj1 t340 bt348.1).bind fun t357 => (if t357 = true then ((gangwayref20_Has.f kj1 bt348.2.2.1 bt348.2.2.2 ((rd_T26 l0 x3_1).f3)).bind fun bt411 => ((iov_Gather.f kj1 t344 t347 ((rd_T26 l0 x3_1).f3)).bind fun bt416 => ((gangwaylaw19_num.f bt416.2.1).bind fun t424 => (if (bt411.1 != (t424 == 0)) = true then (none) else (if bt411.1 = true then ((gangwayref20_Gather.f kj1 bt411.2.1 bt411.2.2 ((rd_T26 l0 x3_1).f3)).bind fun bt425 => ((gangwayref0_EqBytes.f kj1 bt416.1 bt425.1).bind fun t432 => (j2 kj1 l0 x3_1 bt411.1 (!t432) ((rd_T26 l0 x3_1).f0) ((rd_T26 l0 x3_1).f1) ((rd_T26 l0 x3_1).f2) ((rd_T26 l0 x3_1).f3) ((rd_T26 l0 x3_1).f4) bt416.2.2.1 bt416.2.2.2 bt425.2.1 bt425.2.2))) else (if t424 = 21 then (if (bt416.1.length : Int) > 0 then (none) else (j2 kj1 l0 x3_1 bt411.1 false ((rd_T26 l0 x3_1).f0) ((rd_T26 l0 x3_1).f1) ((rd_T26 l0 x3_1).f2) ((rd_T26 l0 x3_1).f3) ((rd_T26 l0 x3_1).f4) bt416.2.2.1 bt416.2.2.2 bt411.2.1 bt411.2.2)) else (none))))))) else (none))) else (none)))) = some r := H
 have A15 := am_ A150
 clear A150
 replace H := bm_ H
 obtain ⟨⟨t348, t351, t352, t355⟩, A160, H⟩ := H
 replace H : ((gangwaylaw19_num.f t343).bind fun t356 => (if t356 = t351 then ((gangwayref0_EqPieces.f kj1 t340 t348).bind fun t357 => (if t357 = true then ((gangwayref20_Has.f kj1 t352 t355 ((rd_T26 l0 x3_1).f3)).bind fun bt411 => ((iov_Gather.f kj1 t344 t347 ((rd_T26 l0 x3_1).f3)).bind fun bt416 => ((gangwaylaw19_num.f bt416.2.1).bind fun t424 => (if (bt411.1 != (t424 == 0)) = true then (none) else (if bt411.1 = true then ((gangwayref20_Gather.f kj1 bt411.2.1 bt411.2.2 ((rd_T26 l0 x3_1).f3)).bind fun bt425 => ((gangwayref0_EqBytes.f kj1 bt416.1 bt425.1).bind fun t432 => (j2 kj1 l0 x3_1 bt411.1 (!t432) ((rd_T26 l0 x3_1).f0) ((rd_T26 l0 x3_1).f1) ((rd_T26 l0 x3_1).f2) ((rd_T26 l0 x3_1).f3) ((rd_T26 l0 x3_1).f4) bt416.2.2.1 bt416.2.2.2 bt425.2.1 bt425.2.2))) else (if t424 = 21 then (if (bt416.1.length : Int) > 0 then (none) else (j2 kj1 l0 x3_1 bt411.1 false ((rd_T26 l0 x3_1).f0) ((rd_T26 l0 x3_1).f1) ((rd_T26 l0 x3_1).f2) ((rd_T26 l0 x3_1).f3) ((rd_T26 l0 x3_1).f4) bt416.2.2.1 bt416.2.2.2 bt411.2.1 bt411.2.2)) else (none))))))) else (none))) else (none))) = some r := H
 have A16 := am_ A160
 clear A160
 replace H := bm_ H
 obtain ⟨t356, A170, H⟩ := H
 replace H : (if t356 = t351 then ((gangwayref0_EqPieces.f kj1 t340 t348).bind fun t357 => (if t357 = true then ((gangwayref20_Has.f kj1 t352 t355 ((rd_T26 l0 x3_1).f3)).bind fun bt411 => ((iov_Gather.f kj1 t344 t347 ((rd_T26 l0 x3_1).f3)).bind fun bt416 => ((gangwaylaw19_num.f bt416.2.1).bind fun t424 => (if (bt411.1 != (t424 == 0)) = true then (none) else (if bt411.1 = true then ((gangwayref20_Gather.f kj1 bt411.2.1 bt411.2.2 ((rd_T26 l0 x3_1).f3)).bind fun bt425 => ((gangwayref0_EqBytes.f kj1 bt416.1 bt425.1).bind fun t432 => (j2 kj1 l0 x3_1 bt411.1 (!t432) ((rd_T26 l0 x3_1).f0) ((rd_T26 l0 x3_1).f1) ((rd_T26 l0 x3_1).f2) ((rd_T26 l0 x3_1).f3) ((rd_T26 l0 x3_1).f4) bt416.2.2.1 bt416.2.2.2 bt425.2.1 bt425.2.2))) else (if t424 = 21 then (if (bt416.1.length : Int) > 0 then (none) else (j2 kj1 l0 x3_1 bt411.1 false ((rd_T26 l0 x3_1).f0) ((rd_T26 l0 x3_1).f1) ((rd_T26 l0 x3_1).f2) ((rd_T26 l0 x3_1).f3) ((rd_T26 l0 x3_1).f4) bt416.2.2.1 bt416.2.2.2 bt411.2.1 bt411.2.2)) else (none))))))) else (none))) else (none)) = some r := H
 have A17 := am_ A170
 clear A170
 by_cases c18 : t356 = t351
 rotate_left
 ·rw [if_neg c18] at H
  exact absurd H (by simp)
 as_aux_lemma =>
 rw [if_pos c18] at H
 have c18b0 : (t356 == t351) = true := beq_iff_eq.mpr c18
 have c18b1 : (t356 != t351) = false := bne_eq_false_iff_eq.mpr c18
 clear c18
 replace H := bm_ H
 obtain ⟨t357, A190, H⟩ := H
 replace H : (if t357 = true then ((gangwayref20_Has.f kj1 t352 t355 ((rd_T26 l0 x3_1).f3)).bind fun bt411 => ((iov_Gather.f kj1 t344 t347 ((rd_T26 l0 x3_1).f3)).bind fun bt416 => ((gangwaylaw19_num.f bt416.2.1).bind fun t424 => (if (bt411.1 != (t424 == 0)) = true then (none) else (if bt411.1 = true then ((gangwayref20_Gather.f kj1 bt411.2.1 bt411.2.2 ((rd_T26 l0 x3_1).f3)).bind fun bt425 => ((gangwayref0_EqBytes.f kj1 bt416.1 bt425.1).bind fun t432 => (j2 kj1 l0 x3_1 bt411.1 (!t432) ((rd_T26 l0 x3_1).f0) ((rd_T26 l0 x3_1).f1) ((rd_T26 l0 x3_1).f2) ((rd_T26 l0 x3_1).f3) ((rd_T26 l0 x3_1).f4) bt416.2.2.1 bt416.2.2.2 bt425.2.1 bt425.2.2))) else (if t424 = 21 then (if (bt416.1.length : Int) > 0 then (none) else (j2 kj1 l0 x3_1 bt411.1 false ((rd_T26 l0 x3_1).f0) ((rd_T26 l0 x3_1).f1) ((rd_T26 l0 x3_1).f2) ((rd_T26 l0 x3_1).f3) ((rd_T26 l0 x3_1).f4) bt416.2.2.1 bt416.2.2.2 bt411.2.1 bt411.2.2)) else (none))))))) else (none)) = some r := H
 have A19 := am_ A190
 clear A190
 by_cases c20 : t357 = true
 rotate_left
 ·replace c20 := Bool.eq_false_iff.mpr c20
  subst c20
  have H1 : (none) = some r := by rw [if_neg (show ¬ (false = true) by decide)] at H; exact H
  clear H
  have H := H1
  clear H1
  exact absurd H (by simp)
 as_aux_lemma =>
 subst c20
 have H1 : ((gangwayref20_Has.f kj1 t352 t355 ((rd_T26 l0 x3_1).f3)).bind fun bt411 => ((iov_Gather.f kj1 t344 t347 ((rd_T26 l0 x3_1).f3)).bind fun bt416 => ((gangwaylaw19_num.f bt416.2.1).bind fun t424 => (if (bt411.1 != (t424 == 0)) = true then (none) else (if bt411.1 = true then ((gangwayref20_Gather.f kj1 bt411.2.1 bt411.2.2 ((rd_T26 l0 x3_1).f3)).bind fun bt425 => ((gangwayref0_EqBytes.f kj1 bt416.1 bt425.1).bind fun t432 => (j2 kj1 l0 x3_1 bt411.1 (!t432) ((rd_T26 l0 x3_1).f0) ((rd_T26 l0 x3_1).f1) ((rd_T26 l0 x3_1).f2) ((rd_T26 l0 x3_1).f3) ((rd_T26 l0 x3_1).f4) bt416.2.2.1 bt416.2.2.2 bt425.2.1 bt425.2.2))) else (if t424 = 21 then (if (bt416.1.length : Int) > 0 then (none) else (j2 kj1 l0 x3_1 bt411.1 false ((rd_T26 l0 x3_1).f0) ((rd_T26 l0 x3_1).f1) ((rd_T26 l0 x3_1).f2) ((rd_T26 l0 x3_1).f3) ((rd_T26 l0 x3_1).f4) bt416.2.2.1 bt416.2.2.2 bt411.2.1 bt411.2.2)) else (none))))))) = some r := by rw [if_pos rfl] at H; exact H
 clear H
 have H := H1
 clear H1
 replace H := bm_ H
 obtain ⟨⟨t411, t412, t415⟩, A210, H⟩ := H
 replace H : ((iov_Gather.f kj1 t344 t347 ((rd_T26 l0 x3_1).f3)).bind fun bt416 => ((gangwaylaw19_num.f bt416.2.1).bind fun t424 => (if (t411 != (t424 == 0)) = true then (none) else (if t411 = true then ((gangwayref20_Gather.f kj1 t412 t415 ((rd_T26 l0 x3_1).f3)).bind fun bt425 => ((gangwayref0_EqBytes.f kj1 bt416.1 bt425.1).bind fun t432 => (j2 kj1 l0 x3_1 t411 (!t432) ((rd_T26 l0 x3_1).f0) ((rd_T26 l0 x3_1).f1) ((rd_T26 l0 x3_1).f2) ((rd_T26 l0 x3_1).f3) ((rd_T26 l0 x3_1).f4) bt416.2.2.1 bt416.2.2.2 bt425.2.1 bt425.2.2))) else (if t424 = 21 then (if (bt416.1.length : Int) > 0 then (none) else (j2 kj1 l0 x3_1 t411 false ((rd_T26 l0 x3_1).f0) ((rd_T26 l0 x3_1).f1) ((rd_T26 l0 x3_1).f2) ((rd_T26 l0 x3_1).f3) ((rd_T26 l0 x3_1).f4) bt416.2.2.1 bt416.2.2.2 t412 t415)) else (none)))))) = some r := H
 have A21 := am_ A210
 clear A210
 replace H := bm_ H
 obtain ⟨⟨t416, t419, t420, t423⟩, A220, H⟩ := H
 replace H : ((gangwaylaw19_num.f t419).bind fun t424 => (if (t411 != (t424 == 0)) = true then (none) else (if t411 = true then ((gangwayref20_Gather.f kj1 t412 t415 ((rd_T26 l0 x3_1).f3)).bind fun bt425 => ((gangwayref0_EqBytes.f kj1 t416 bt425.1).bind fun t432 => (j2 kj1 l0 x3_1 t411 (!t432) ((rd_T26 l0 x3_1).f0) ((rd_T26 l0 x3_1).f1) ((rd_T26 l0 x3_1).f2) ((rd_T26 l0 x3_1).f3) ((rd_T26 l0 x3_1).f4) t420 t423 bt425.2.1 bt425.2.2))) else (if t424 = 21 then (if (t416.length : Int) > 0 then (none) else (j2 kj1 l0 x3_1 t411 false ((rd_T26 l0 x3_1).f0) ((rd_T26 l0 x3_1).f1) ((rd_T26 l0 x3_1).f2) ((rd_T26 l0 x3_1).f3) ((rd_T26 l0 x3_1).f4) t420 t423 t412 t415)) else (none))))) = some r := H
 have A22 := am_ A220
 clear A220
 have HC23 := am_ H
 clear H
 have p325 : 0 ≤ (x3_1 : Int) := of_decide_eq_true aa_8
 have q325 : x3_1 < (l0.length : Int) := of_decide_eq_true aa_8
 obtain ⟨ad325, A325_0, c325_0, A325_3, c325_3, A325_4, c325_4, e325, hx325_0, hx325_1, hx325_2, hx325_3, hx325_4, hl325_0, hi325_0, hl325_3, hi325_3, hl325_4, hi325_4⟩ := at_T26 HR0.out x3_1 p325 q325
 cases e325
 replace hx325_0 := up HB hx325_0
 replace hx325_1 := up HB hx325_1
 replace hx325_2 := up HB hx325_2
 replace hx325_3 := up HB hx325_3
 replace hx325_4 := up HB hx325_4
 have HR325_0 := am_ hi325_0
 have HC325_0 := am_ hl325_0
 clear hi325_0 hl325_0
 have HR325_3 := am_ hi325_3
 have HC325_3 := am_ hl325_3
 clear hi325_3 hl325_3
 have HR325_4 := am_ hi325_4
 have HC325_4 := am_ hl325_4
 clear hi325_4 hl325_4
 replace p325 := eq_true p325
 replace q325 := eq_true q325
 go_upto_region 16 with (first | ((with_reducible refine gate_dst (N := 4) rfl ?_); (try (refine gate_guard (by rfl) ?_; dsimp only)); refine box_event ?hg (N := 4) ?hd (cs := #[.slice none 0 0, .int .i64 0, .int .i64 0, .slice none 0 0, .slice none 0 0]) (t := 26) ?hr ?_; (case hd => rfl); (case hg => rfl); (case hr => first | (go_simp; done) | (go_simp; rfl)); intro gb326 hg w24 hbox hb; have n0_ := am_ (below_step aa_7 hb); have n1_ := am_ (hbox); have n2_ := am_ ((by rw [hg]; exact (below_size aa_7) : w.heap.size ≤ gb326)); have n3_ := am_ ((by rw [hg]; exact (below_size aa_7) : w.heap.size ≤ gb326)); clear HB; have HB := n0_; have BK326 := n1_; have GW326 := n2_; have GE326 := n3_; clear n0_ n1_ n2_ n3_; clear hb hbox hg; have hcz25_0 : w24.cell? ⟨gb326, 0, none⟩ = some (.slice none 0 0) := (bc BK326 0); have hcz25_1 : w24.cell? ⟨gb326, 1, none⟩ = some (.int .i64 0) := (bc BK326 1); have hcz25_2 : w24.cell? ⟨gb326, 2, none⟩ = some (.int .i64 0) := (bc BK326 2); have hcz25_3 : w24.cell? ⟨gb326, 3, none⟩ = some (.slice none 0 0) := (bc BK326 3); have hcz25_4 : w24.cell? ⟨gb326, 4, none⟩ = some (.slice none 0 0) := (bc BK326 4); have hfz25_0 := blk_frozen BK326.out 0; have hfz25_1 := blk_frozen BK326.out 1; have hfz25_2 := blk_frozen BK326.out 2; have hfz25_3 := blk_frozen BK326.out 3; have hfz25_4 := blk_frozen BK326.out 4) | ((with_reducible refine gate_callee (f := 5) rfl ?_); refine goesL_ (some 43) rfl rfl Try.func5 (by kernel_rfl) rfl #[.agg #[.slice A325_0 ((rd_T26 l0 x3_1).f0).length c325_0, .int .i64 ((rd_T26 l0 x3_1).f1), .int .i64 ((rd_T26 l0 x3_1).f2), .slice A325_3 ((rd_T26 l0 x3_1).f3).length c325_3, .slice A325_4 ((rd_T26 l0 x3_1).f4).length c325_4]] rfl aa_0 ?_; (with_reducible refine (gangwaylaw19_heavy.calls kj1 _ _ ((rd_T26 l0 x3_1).f0) ((rd_T26 l0 x3_1).f1) ((rd_T26 l0 x3_1).f2) _ _ ((rd_T26 l0 x3_1).f3) _ _ ((rd_T26 l0 x3_1).f4) false _ ?side1 ?side2 ?side3 ?side4 ?side5 ?side6 A7.out).mono ?_); (case side1 => exact Kd.C_below HR325_0.out aa_2); (case side2 => exact HC325_0.out); (case side3 => exact Kd.C_below HR325_3.out aa_2); (case side4 => exact HC325_3.out); (case side5 => exact Kd.C_below HR325_4.out aa_2); (case side6 => exact HC325_4.out); rintro e w26 ⟨rfl, hb⟩; refine ⟨_, rfl, ?_⟩; have n0_ := am_ (blk_below (g := gb326) (o := .cells #[.slice A325_0 ((rd_T26 l0 x3_1).f0).length c325_0, .int .i64 ((rd_T26 l0 x3_1).f1), .int .i64 ((rd_T26 l0 x3_1).f2), .slice A325_3 ((rd_T26 l0 x3_1).f3).length c325_3, .slice A325_4 ((rd_T26 l0 x3_1).f4).length c325_4] 26 (0, 0)) (by (with_reducible repeat (first | refine blk_drewN ?_ _ | refine blk_drew ?_ | refine blk_alloc ?_ _)); refine puts (cs := #[.slice none 0 0, .int .i64 0, .int .i64 0, .slice none 0 0, .slice none 0 0]) [_, _, _, _, _] ?_ rfl; (with_reducible repeat (first | refine blk_drewN ?_ _ | refine blk_drew ?_ | refine blk_alloc ?_ _)); exact BK326.out) hb); have n1_ := am_ (below_step aa_2 hb); clear BK326; clear HB; have BK326 := n0_; have HB := n1_; clear n0_ n1_; (try clear hb); (try clear hb2); (try clear hk); (try clear hi); have hcz27_0 : w26.cell? ⟨gb326, 0, none⟩ = some (.slice A325_0 ((rd_T26 l0 x3_1).f0).length c325_0) := (bc BK326 0); have hcz27_1 : w26.cell? ⟨gb326, 1, none⟩ = some (.int .i64 ((rd_T26 l0 x3_1).f1)) := (bc BK326 1); have hcz27_2 : w26.cell? ⟨gb326, 2, none⟩ = some (.int .i64 ((rd_T26 l0 x3_1).f2)) := (bc BK326 2); have hcz27_3 : w26.cell? ⟨gb326, 3, none⟩ = some (.slice A325_3 ((rd_T26 l0 x3_1).f3).length c325_3) := (bc BK326 3); have hcz27_4 : w26.cell? ⟨gb326, 4, none⟩ = some (.slice A325_4 ((rd_T26 l0 x3_1).f4).length c325_4) := (bc BK326 4); have hfz27_0 := blk_frozen BK326.out 0; have hfz27_1 := blk_frozen BK326.out 1; have hfz27_2 := blk_frozen BK326.out 2; have hfz27_3 := blk_frozen BK326.out 3; have hfz27_4 := blk_frozen BK326.out 4) | ((with_reducible refine gate_callee (f := 6) rfl ?_); refine goesL_ (some 47) rfl rfl Try.func6 (by kernel_rfl) rfl #[.slice A325_0 ((rd_T26 l0 x3_1).f0).length c325_0] rfl aa_0 ?_; (with_reducible refine (gangwaylaw19_Both.calls kj1 _ _ ((rd_T26 l0 x3_1).f0) true t329 t332 true t335 t338 _ ?side1 ?side2 A12.out).mono ?_); (case side1 => repeat (first | exact (Kd.C_below HR325_0.out HB.out) | (with_reducible refine Kd.C_alloc ?_ _) | (with_reducible refine Kd.C_drewN ?_ _) | (with_reducible refine Kd.C_drew ?_))); (case side2 => exact HC325_0.out); rintro e w28 ⟨v330, v336, pz333, pz339, rfl, ho0, ho1, hz333, hz339, hb⟩; refine ⟨_, rfl, ?_⟩; have n0_ := am_ (Kd.R_lower ho0 (below_size aa_2)); have n1_ := am_ (Kd.R_lower ho1 (below_size aa_2)); have n2_ := am_ (bbelow BK326 aa_3 hb); have n3_ := am_ ((show (true = true → ∃ g_ : Nat, pz333 = .pointer (some ⟨g_, 0, none⟩) ∧ IsS72 w w28 g_ v330 t332 ∧ gb326 ≠ g_) ∧ (true = false → pz333 = .pointer none) from ⟨fun h_ => (hz333.1 h_).elim fun g_ hg_ => ⟨g_, hg_.1, hg_.2.lower ((below_size aa_2)), Nat.ne_of_lt (Nat.lt_of_lt_of_le (blk_lt (g := gb326) (o := .cells #[.slice A325_0 ((rd_T26 l0 x3_1).f0).length c325_0, .int .i64 ((rd_T26 l0 x3_1).f1), .int .i64 ((rd_T26 l0 x3_1).f2), .slice A325_3 ((rd_T26 l0 x3_1).f3).length c325_3, .slice A325_4 ((rd_T26 l0 x3_1).f4).length c325_4] 26 (0, 0)) aa_3) hg_.2.ge)⟩, hz333.2⟩)); have n4_ := am_ ((show (true = true → ∃ g_ : Nat, pz339 = .pointer (some ⟨g_, 0, none⟩) ∧ IsS57 w w28 g_ v336 t338 ∧ gb326 ≠ g_) ∧ (true = false → pz339 = .pointer none) from ⟨fun h_ => (hz339.1 h_).elim fun g_ hg_ => ⟨g_, hg_.1, hg_.2.lower ((below_size aa_2)), Nat.ne_of_lt (Nat.lt_of_lt_of_le (blk_lt (g := gb326) (o := .cells #[.slice A325_0 ((rd_T26 l0 x3_1).f0).length c325_0, .int .i64 ((rd_T26 l0 x3_1).f1), .int .i64 ((rd_T26 l0 x3_1).f2), .slice A325_3 ((rd_T26 l0 x3_1).f3).length c325_3, .slice A325_4 ((rd_T26 l0 x3_1).f4).length c325_4] 26 (0, 0)) aa_3) hg_.2.ge)⟩, hz339.2⟩)); have n5_ := am_ (below_step aa_2 hb); clear BK326; clear HB; have HO331 := n0_; have HO337 := n1_; have BK326 := n2_; have HZ333 := n3_; have HZ339 := n4_; have HB := n5_; clear n0_ n1_ n2_ n3_ n4_ n5_; (try clear hb); (try clear hb2); (try clear hk); (try clear hi); (try clear ho0); (try clear ho1); obtain ⟨g333, e_, hi_, hn0_⟩ := HZ333.out.1 rfl; subst e_; have HI333 := am_ hi_; clear hi_ HZ333; have NB326_333 := am_ hn0_; have NB333_326 := am_ (Ne.symm hn0_); clear hn0_; obtain ⟨g339, e_, hi_, hn0_⟩ := HZ339.out.1 rfl; subst e_; have HI339 := am_ hi_; clear hi_ HZ339; have NB326_339 := am_ hn0_; have NB339_326 := am_ (Ne.symm hn0_); clear hn0_; have NB333_339 := am_ (IsS72.ne_blk HI333.out HI339.out.1 (by decide)); have NB339_333 := am_ (Ne.symm NB333_339.out); have hnb29 := NB326_333.out; have hnc29 := NB333_326.out; have hnb30 := NB326_339.out; have hnc30 := NB339_326.out; have hcz31_0 : w28.cell? ⟨gb326, 0, none⟩ = some (.slice A325_0 ((rd_T26 l0 x3_1).f0).length c325_0) := (bc BK326 0); have hcz31_1 : w28.cell? ⟨gb326, 1, none⟩ = some (.int .i64 ((rd_T26 l0 x3_1).f1)) := (bc BK326 1); have hcz31_2 : w28.cell? ⟨gb326, 2, none⟩ = some (.int .i64 ((rd_T26 l0 x3_1).f2)) := (bc BK326 2); have hcz31_3 : w28.cell? ⟨gb326, 3, none⟩ = some (.slice A325_3 ((rd_T26 l0 x3_1).f3).length c325_3) := (bc BK326 3); have hcz31_4 : w28.cell? ⟨gb326, 4, none⟩ = some (.slice A325_4 ((rd_T26 l0 x3_1).f4).length c325_4) := (bc BK326 4); have hfz31_0 := blk_frozen BK326.out 0; have hfz31_1 := blk_frozen BK326.out 1; have hfz31_2 := blk_frozen BK326.out 2; have hfz31_3 := blk_frozen BK326.out 3; have hfz31_4 := blk_frozen BK326.out 4) | ((with_reducible refine gate_callee (f := 7) rfl ?_); refine goesL_ (some 58) rfl rfl Try.func7 (by kernel_rfl) rfl #[.pointer (some ⟨g333, 0, none⟩), .int .i64 ((rd_T26 l0 x3_1).f1), .int .i64 ((rd_T26 l0 x3_1).f2)] rfl aa_0 ?_; (with_reducible refine (iov_Pieces.calls kj1 g333 (fun k_ => some k_ = (v330 : Value).ownBlock) v330 t329 t332 ((rd_T26 l0 x3_1).f1) ((rd_T26 l0 x3_1).f2) t340 t343 t344 t347 w _ ?side1 ?side2 ?side3 A15.out).mono ?_); (case side1 => exact aa_6); (case side2 => exact aa_1); (case side3 => exact Kd.R_tight rfl HO331.out); rintro e w32 ⟨v341, v345, rfl, ho0, ho1, hi, hb, hkp⟩; refine ⟨_, rfl, ?_⟩; have n0_ := am_ (bkept BK326 aa_3 hkp (fun hs_ => Or.elim hs_ (fun hs_ => (fun e_ => (Kd.R_ne HO331.out BK326.out (by decide)) e_) hs_) (fun e_ => NB326_333.out e_))); have n1_ := am_ (Kd.R_mono (ok' := fun k_ => some k_ ≠ (v345 : Value).ownBlock) (Kd.R_keptB ((IsS72.apart HI333.out HO337.out (by decide))) hkp (fun k_ hk_ hs_ => Or.elim hs_ (fun hs_ => (hk_.1) hs_) (fun e_ => (hk_.2) e_))) (fun k_ hk_ => fun e_ => Or.elim (ho1.1 k_ e_.symm) (fun hs_ => hk_.2.1 (.inl hs_)) (fun hn_ => Nat.not_le.2 hk_.2.2 hn_))); have n2_ := am_ (hi); have n3_ := am_ (IsS57.kept aa_4 hkp (fun hs_ => Or.elim hs_ (fun hs_ => (fun e_ => (IsS57.own_ne HI339.out HO331.out (by decide)) e_) hs_) (fun e_ => NB339_333.out e_))); have n4_ := am_ (Kd.R_mono (ok' := fun k_ => True) ho0 (fun k_ hk_ => trivial)); have n5_ := am_ (Kd.R_mono (ok' := fun k_ => some k_ ≠ (v336 : Value).ownBlock) ho1 (fun k_ hk_ => Or.elim hk_ (fun hs_ => fun e_ => ((((IsS72.apart HI333.out HO337.out (by decide))).1 k_ e_.symm).1) hs_) (fun hn_ => (Kd.fresh' (Kd.R_lt (by (with_reducible repeat (first | apply Kd.R_alloc | apply Kd.R_drewN | apply Kd.R_drew)); exact HO337.out)) k_ hn_)))); have n6_ := am_ (hb); clear BK326; clear HO337; clear HI333; clear HI339; clear HB; clear HO331; have BK326 := n0_; have HO337 := n1_; have HI333 := n2_; have HI339 := n3_; have HO342 := n4_; have HO346 := n5_; have HB := n6_; clear n0_ n1_ n2_ n3_ n4_ n5_ n6_; (try clear hb); (try clear hkp); (try clear ho0); (try clear ho1); have hcz33_0 : w32.cell? ⟨gb326, 0, none⟩ = some (.slice A325_0 ((rd_T26 l0 x3_1).f0).length c325_0) := (bc BK326 0); have hcz33_1 : w32.cell? ⟨gb326, 1, none⟩ = some (.int .i64 ((rd_T26 l0 x3_1).f1)) := (bc BK326 1); have hcz33_2 : w32.cell? ⟨gb326, 2, none⟩ = some (.int .i64 ((rd_T26 l0 x3_1).f2)) := (bc BK326 2); have hcz33_3 : w32.cell? ⟨gb326, 3, none⟩ = some (.slice A325_3 ((rd_T26 l0 x3_1).f3).length c325_3) := (bc BK326 3); have hcz33_4 : w32.cell? ⟨gb326, 4, none⟩ = some (.slice A325_4 ((rd_T26 l0 x3_1).f4).length c325_4) := (bc BK326 4); have hfz33_0 := blk_frozen BK326.out 0; have hfz33_1 := blk_frozen BK326.out 1; have hfz33_2 := blk_frozen BK326.out 2; have hfz33_3 := blk_frozen BK326.out 3; have hfz33_4 := blk_frozen BK326.out 4) | ((with_reducible refine gate_callee (f := 8) rfl ?_); refine goesL_ (some 67) rfl rfl Try.func8 (by kernel_rfl) rfl #[.pointer (some ⟨g339, 0, none⟩), .int .i64 ((rd_T26 l0 x3_1).f1), .int .i64 ((rd_T26 l0 x3_1).f2)] rfl aa_0 ?_; (with_reducible refine (gangwayref20_Pieces.calls kj1 g339 (fun k_ => some k_ = (v336 : Value).ownBlock) v336 t335 t338 ((rd_T26 l0 x3_1).f1) ((rd_T26 l0 x3_1).f2) t348 t351 t352 t355 w _ ?side1 ?side2 ?side3 A16.out).mono ?_); (case side1 => exact aa_4); (case side2 => exact aa_1); (case side3 => exact Kd.R_tight rfl HO337.out); rintro e w34 ⟨v349, v353, rfl, ho0, ho1, hi, hb, hkp⟩; refine ⟨_, rfl, ?_⟩; have n0_ := am_ (bkept BK326 aa_3 hkp (fun hs_ => Or.elim hs_ (fun hs_ => (fun e_ => (Kd.R_ne HO337.out BK326.out (by decide)) e_) hs_) (fun e_ => NB326_339.out e_))); have n1_ := am_ (IsS72.kept aa_6 hkp (fun hs_ => Or.elim hs_ (fun hs_ => (fun e_ => (IsS72.own_ne HI333.out HO337.out (by decide)) e_) hs_) (fun e_ => NB333_339.out e_))); have n2_ := am_ (hi); have n3_ := am_ (Kd.R_mono (ok' := fun k_ => some k_ ≠ (v349 : Value).ownBlock) (Kd.R_keptB ((IsS57.apart HI339.out (Kd.R_apart' HO342.out (Kd.R_typed HO337.out) (by decide)) (by decide))) hkp (fun k_ hk_ hs_ => Or.elim hs_ (fun hs_ => (hk_.1.2) hs_) (fun e_ => (hk_.2) e_))) (fun k_ hk_ => fun e_ => Or.elim (ho0.1 k_ e_.symm) (fun hs_ => hk_.2.1 (.inl hs_)) (fun hn_ => Nat.not_le.2 hk_.2.2 hn_))); have n4_ := am_ (Kd.R_mono (ok' := fun k_ => some k_ ≠ (v353 : Value).ownBlock) (Kd.R_keptB ((IsS57.apart HI339.out HO346.out (by decide))) hkp (fun k_ hk_ hs_ => Or.elim hs_ (fun hs_ => (hk_.1) hs_) (fun e_ => (hk_.2) e_))) (fun k_ hk_ => fun e_ => Or.elim (ho1.1 k_ e_.symm) (fun hs_ => hk_.2.1 (.inl hs_)) (fun hn_ => Nat.not_le.2 hk_.2.2 hn_))); have n5_ := am_ (Kd.R_mono (ok' := fun k_ => some k_ ≠ (v341 : Value).ownBlock) ho0 (fun k_ hk_ => Or.elim hk_ (fun hs_ => fun e_ => ((((IsS57.apart HI339.out (Kd.R_apart' HO342.out (Kd.R_typed HO337.out) (by decide)) (by decide))).1 k_ e_.symm).1.2) hs_) (fun hn_ => (Kd.fresh' (Kd.R_lt (by (with_reducible repeat (first | apply Kd.R_alloc | apply Kd.R_drewN | apply Kd.R_drew)); exact HO342.out)) k_ hn_)))); have n6_ := am_ (Kd.R_mono (ok' := fun k_ => some k_ ≠ (v345 : Value).ownBlock) ho1 (fun k_ hk_ => Or.elim hk_ (fun hs_ => fun e_ => ((((IsS57.apart HI339.out HO346.out (by decide))).1 k_ e_.symm).1) hs_) (fun hn_ => (Kd.fresh' (Kd.R_lt (by (with_reducible repeat (first | apply Kd.R_alloc | apply Kd.R_drewN | apply Kd.R_drew)); exact HO346.out)) k_ hn_)))); have n7_ := am_ (hb); clear BK326; clear HI333; clear HI339; clear HO342; clear HO346; clear HB; clear HO337; have BK326 := n0_; have HI333 := n1_; have HI339 := n2_; have HO342 := n3_; have HO346 := n4_; have HO350 := n5_; have HO354 := n6_; have HB := n7_; clear n0_ n1_ n2_ n3_ n4_ n5_ n6_ n7_; (try clear hb); (try clear hkp); (try clear ho0); (try clear ho1)) | ((with_reducible refine gate_callee (f := 9) rfl ?_); refine goesL_ (some 71) rfl rfl Try.func9 (by kernel_rfl) rfl #[.int .i64 t343] rfl aa_0 ?_; (with_reducible refine (gangwaylaw19_num.calls t343 t356 _ A17.out).mono ?_); rintro e w' ⟨rfl, ⟨nd, rfl⟩⟩; refine ⟨_, rfl, ?_⟩; obtain ⟨Ao35, co35, eo35⟩ := Kd.R_slice HO342.out; subst eo35; obtain ⟨Ao36, co36, eo36⟩ := Kd.R_slice HO350.out; subst eo36) | (go_at_call 10; (with_reducible refine (gangwayref0_EqPieces.calls kj1 _ _ t340 _ _ t348 true _ ?side1 ?side2 ?side3 ?side4 A19.out).mono ?_); (case side1 => repeat (first | exact (Kd.R_reads' HO342.out).2.2 | (with_reducible refine Kd.C_alloc ?_ _) | (with_reducible refine Kd.C_drewN ?_ _) | (with_reducible refine Kd.C_drew ?_))); (case side2 => exact (Kd.R_reads' HO342.out).2.1); (case side3 => repeat (first | exact (Kd.R_reads' HO350.out).2.2 | (with_reducible refine Kd.C_alloc ?_ _) | (with_reducible refine Kd.C_drewN ?_ _) | (with_reducible refine Kd.C_drew ?_))); (case side4 => exact (Kd.R_reads' HO350.out).2.1); rintro e w' ⟨rfl, ⟨nd, rfl⟩⟩; have hcz37_0 : w34.cell? ⟨gb326, 0, none⟩ = some (.slice A325_0 ((rd_T26 l0 x3_1).f0).length c325_0) := (bc BK326 0); have hcz37_1 : w34.cell? ⟨gb326, 1, none⟩ = some (.int .i64 ((rd_T26 l0 x3_1).f1)) := (bc BK326 1); have hcz37_2 : w34.cell? ⟨gb326, 2, none⟩ = some (.int .i64 ((rd_T26 l0 x3_1).f2)) := (bc BK326 2); have hcz37_3 : w34.cell? ⟨gb326, 3, none⟩ = some (.slice A325_3 ((rd_T26 l0 x3_1).f3).length c325_3) := (bc BK326 3); have hcz37_4 : w34.cell? ⟨gb326, 4, none⟩ = some (.slice A325_4 ((rd_T26 l0 x3_1).f4).length c325_4) := (bc BK326 4); have hfz37_0 := blk_frozen BK326.out 0; have hfz37_1 := blk_frozen BK326.out 1; have hfz37_2 := blk_frozen BK326.out 2; have hfz37_3 := blk_frozen BK326.out 3; have hfz37_4 := blk_frozen BK326.out 4) | ((with_reducible refine gate_callee (f := 11) rfl ?_); refine goesL_ (some 83) rfl rfl Try.func11 (by kernel_rfl) rfl #[.pointer (some ⟨g339, 0, none⟩), .slice A325_3 ((rd_T26 l0 x3_1).f3).length c325_3] rfl aa_0 ?_; (with_reducible refine (gangwayref20_Has.calls kj1 g339 (fun k_ => some k_ = (v353 : Value).ownBlock) v353 t352 t355 _ _ ((rd_T26 l0 x3_1).f3) t411 t412 t415 w _ ?side1 ?side2 ?side3 ?side4 ?side5 A21.out).mono ?_); (case side1 => exact aa_4); (case side2 => exact aa_1); (case side3 => exact Kd.R_tight rfl HO354.out); (case side4 => exact Kd.C_kept_came k50_heap HR325_3.out aa_1 (fun k_ hs_ => Or.elim hs_ (fun hs_ => (fun e_ => Kd.R_base HO354.out k_ e_.symm) hs_) (fun e_ => (by rw [e_]; exact IsS57.ge HI339.out)))); (case side5 => exact HC325_3.out); rintro e w38 ⟨v413, rfl, ho0, hi, hb, hkp⟩; refine ⟨_, rfl, ?_⟩; have n0_ := am_ (bkept BK326 aa_3 hkp (fun hs_ => Or.elim hs_ (fun hs_ => (fun e_ => (Kd.R_ne HO354.out BK326.out (by decide)) e_) hs_) (fun e_ => NB326_339.out e_))); have n1_ := am_ (IsS72.kept aa_6 hkp (fun hs_ => Or.elim hs_ (fun hs_ => (fun e_ => (IsS72.own_ne HI333.out HO354.out (by decide)) e_) hs_) (fun e_ => NB333_339.out e_))); have n2_ := am_ (hi); have n3_ := am_ (Kd.R_mono (ok' := fun k_ => some k_ ≠ (.slice Ao36 t348.length co36 : Value).ownBlock) (Kd.R_keptB ((IsS57.apart HI339.out (Kd.R_apart' HO342.out (Kd.R_typed HO354.out) (by decide)) (by decide))) hkp (fun k_ hk_ hs_ => Or.elim hs_ (fun hs_ => (hk_.1.2) hs_) (fun e_ => (hk_.2) e_))) (fun k_ hk_ => hk_.1.1.1)); have n4_ := am_ (Kd.R_mono (ok' := fun k_ => some k_ ≠ (v413 : Value).ownBlock) (Kd.R_keptB ((IsS57.apart HI339.out HO346.out (by decide))) hkp (fun k_ hk_ hs_ => Or.elim hs_ (fun hs_ => (hk_.1) hs_) (fun e_ => (hk_.2) e_))) (fun k_ hk_ => fun e_ => Or.elim (ho0.1 k_ e_.symm) (fun hs_ => hk_.2.1 (.inl hs_)) (fun hn_ => Nat.not_le.2 hk_.2.2 hn_))); have n5_ := am_ (Kd.R_mono (ok' := fun k_ => some k_ ≠ (.slice Ao35 t340.length co35 : Value).ownBlock) (Kd.R_keptB ((IsS57.apart HI339.out (Kd.R_apart' HO350.out (Kd.R_typed HO354.out) (by decide)) (by decide))) hkp (fun k_ hk_ hs_ => Or.elim hs_ (fun hs_ => (hk_.1.2) hs_) (fun e_ => (hk_.2) e_))) (fun k_ hk_ => hk_.1.1.1)); have n6_ := am_ (Kd.R_mono (ok' := fun k_ => some k_ ≠ (v345 : Value).ownBlock) ho0 (fun k_ hk_ => Or.elim hk_ (fun hs_ => fun e_ => ((((IsS57.apart HI339.out HO346.out (by decide))).1 k_ e_.symm).1) hs_) (fun hn_ => (Kd.fresh' (Kd.R_lt (by (with_reducible repeat (first | apply Kd.R_alloc | apply Kd.R_drewN | apply Kd.R_drew)); exact HO346.out)) k_ hn_)))); have n7_ := am_ (hb); clear BK326; clear HI333; clear HI339; clear HO342; clear HO346; clear HO350; clear HB; clear HO354; have BK326 := n0_; have HI333 := n1_; have HI339 := n2_; have HO342 := n3_; have HO346 := n4_; have HO350 := n5_; have HO414 := n6_; have HB := n7_; clear n0_ n1_ n2_ n3_ n4_ n5_ n6_ n7_; (try clear hb); (try clear hkp); (try clear ho0); have hcz39_0 : w38.cell? ⟨gb326, 0, none⟩ = some (.slice A325_0 ((rd_T26 l0 x3_1).f0).length c325_0) := (bc BK326 0); have hcz39_1 : w38.cell? ⟨gb326, 1, none⟩ = some (.int .i64 ((rd_T26 l0 x3_1).f1)) := (bc BK326 1); have hcz39_2 : w38.cell? ⟨gb326, 2, none⟩ = some (.int .i64 ((rd_T26 l0 x3_1).f2)) := (bc BK326 2); have hcz39_3 : w38.cell? ⟨gb326, 3, none⟩ = some (.slice A325_3 ((rd_T26 l0 x3_1).f3).length c325_3) := (bc BK326 3); have hcz39_4 : w38.cell? ⟨gb326, 4, none⟩ = some (.slice A325_4 ((rd_T26 l0 x3_1).f4).length c325_4) := (bc BK326 4); have hfz39_0 := blk_frozen BK326.out 0; have hfz39_1 := blk_frozen BK326.out 1; have hfz39_2 := blk_frozen BK326.out 2; have hfz39_3 := blk_frozen BK326.out 3; have hfz39_4 := blk_frozen BK326.out 4) | ((with_reducible refine gate_callee (f := 12) rfl ?_); refine goesL_ (some 88) rfl rfl Try.func12 (by kernel_rfl) rfl #[.pointer (some ⟨g333, 0, none⟩), .slice A325_3 ((rd_T26 l0 x3_1).f3).length c325_3] rfl aa_0 ?_; (with_reducible refine (iov_Gather.calls kj1 g333 (fun k_ => some k_ = (v345 : Value).ownBlock) v345 t344 t347 _ _ ((rd_T26 l0 x3_1).f3) t416 t419 t420 t423 w _ ?side1 ?side2 ?side3 ?side4 ?side5 A22.out).mono ?_); (case side1 => exact aa_6); (case side2 => exact aa_1); (case side3 => exact Kd.R_tight rfl HO346.out); (case side4 => exact Kd.C_kept_came k50_heap HR325_3.out aa_1 (fun k_ hs_ => Or.elim hs_ (fun hs_ => (fun e_ => Kd.R_base HO346.out k_ e_.symm) hs_) (fun e_ => (by rw [e_]; exact IsS72.ge HI333.out)))); (case side5 => exact HC325_3.out); rintro e w40 ⟨v417, v421, rfl, ho0, ho1, hi, hb, hkp⟩; refine ⟨_, rfl, ?_⟩; have n0_ := am_ (bkept BK326 aa_3 hkp (fun hs_ => Or.elim hs_ (fun hs_ => (fun e_ => (Kd.R_ne HO346.out BK326.out (by decide)) e_) hs_) (fun e_ => NB326_333.out e_))); have n1_ := am_ (hi); have n2_ := am_ (IsS57.kept aa_4 hkp (fun hs_ => Or.elim hs_ (fun hs_ => (fun e_ => (IsS57.own_ne HI339.out HO346.out (by decide)) e_) hs_) (fun e_ => NB339_333.out e_))); have n3_ := am_ (Kd.R_mono (ok' := fun k_ => some k_ ≠ (.slice Ao36 t348.length co36 : Value).ownBlock) (Kd.R_keptB ((IsS72.apart HI333.out (Kd.R_apart' HO342.out (Kd.R_typed HO346.out) (by decide)) (by decide))) hkp (fun k_ hk_ hs_ => Or.elim hs_ (fun hs_ => (hk_.1.2) hs_) (fun e_ => (hk_.2) e_))) (fun k_ hk_ => hk_.1.1.1)); have n4_ := am_ (Kd.R_mono (ok' := fun k_ => some k_ ≠ (.slice Ao35 t340.length co35 : Value).ownBlock) (Kd.R_keptB ((IsS72.apart HI333.out (Kd.R_apart' HO350.out (Kd.R_typed HO346.out) (by decide)) (by decide))) hkp (fun k_ hk_ hs_ => Or.elim hs_ (fun hs_ => (hk_.1.2) hs_) (fun e_ => (hk_.2) e_))) (fun k_ hk_ => hk_.1.1.1)); have n5_ := am_ (Kd.R_mono (ok' := fun k_ => some k_ ≠ (v417 : Value).ownBlock ∧ some k_ ≠ (v421 : Value).ownBlock) (Kd.R_keptB ((IsS72.apart HI333.out HO414.out (by decide))) hkp (fun k_ hk_ hs_ => Or.elim hs_ (fun hs_ => (hk_.1) hs_) (fun e_ => (hk_.2) e_))) (fun k_ hk_ => ⟨fun e_ => Or.elim (ho0.1 k_ e_.symm).1 (fun hs_ => hk_.2.1 (.inl hs_)) (fun hn_ => Nat.not_le.2 hk_.2.2 hn_), fun e_ => Or.elim (ho1.1 k_ e_.symm).1 (fun hs_ => hk_.2.1 (.inl hs_)) (fun hn_ => Nat.not_le.2 hk_.2.2 hn_)⟩)); have n6_ := am_ (Kd.R_mono (ok' := fun k_ => some k_ ≠ (v421 : Value).ownBlock ∧ some k_ ≠ (v413 : Value).ownBlock) ho0 (fun k_ hk_ => ⟨hk_.2, Or.elim hk_.1 (fun hs_ => fun e_ => ((((IsS72.apart HI333.out HO414.out (by decide))).1 k_ e_.symm).1) hs_) (fun hn_ => (Kd.fresh' (Kd.R_lt (by (with_reducible repeat (first | apply Kd.R_alloc | apply Kd.R_drewN | apply Kd.R_drew)); exact HO414.out)) k_ hn_))⟩)); have n7_ := am_ (Kd.R_mono (ok' := fun k_ => some k_ ≠ (v417 : Value).ownBlock ∧ some k_ ≠ (v413 : Value).ownBlock) ho1 (fun k_ hk_ => ⟨hk_.2, Or.elim hk_.1 (fun hs_ => fun e_ => ((((IsS72.apart HI333.out HO414.out (by decide))).1 k_ e_.symm).1) hs_) (fun hn_ => (Kd.fresh' (Kd.R_lt (by (with_reducible repeat (first | apply Kd.R_alloc | apply Kd.R_drewN | apply Kd.R_drew)); exact HO414.out)) k_ hn_))⟩)); have n8_ := am_ (hb); clear BK326; clear HI333; clear HI339; clear HO342; clear HO350; clear HO414; clear HB; clear HO346; have BK326 := n0_; have HI333 := n1_; have HI339 := n2_; have HO342 := n3_; have HO350 := n4_; have HO414 := n5_; have HO418 := n6_; have HO422 := n7_; have HB := n8_; clear n0_ n1_ n2_ n3_ n4_ n5_ n6_ n7_ n8_; (try clear hb); (try clear hkp); (try clear ho0); (try clear ho1)))
 (try simp only [Act.put, e1, e2, e3])
 go_cut [121] (fun v121 wc => ∃ (kq : Nat) (x121_22 : Bool) (x7z_22 : List Int) (x8z_22 : Int) (u7z : Value), v121 = .bool x121_22 ∧ Aside0 (j2 kq l0 x3_1 t411 x121_22 ((rd_T26 l0 x3_1).f0) ((rd_T26 l0 x3_1).f1) ((rd_T26 l0 x3_1).f2) ((rd_T26 l0 x3_1).f3) ((rd_T26 l0 x3_1).f4) t420 t423 x7z_22 x8z_22 = some r) ∧ Aside0 (kq ≤ kj1) ∧ Aside0 (Kd.R (Kd.int .u8) 5 wc w.heap.size (fun k_ => some k_ ≠ (u7z : Value).ownBlock) v421 t420) ∧ Aside0 (Kd.R (Kd.int .u8) 5 wc w.heap.size (fun k_ => some k_ ≠ (v421 : Value).ownBlock) u7z x7z_22) ∧ Aside0 (wc.heap[gb326]? = some (.cells #[(.slice A325_0 ((rd_T26 l0 x3_1).f0).length c325_0), .int .i64 ((rd_T26 l0 x3_1).f1), .int .i64 ((rd_T26 l0 x3_1).f2), (.slice A325_3 ((rd_T26 l0 x3_1).f3).length c325_3), (.slice A325_4 ((rd_T26 l0 x3_1).f4).length c325_4)] 26 (0, 0))) ∧ Aside0 (IsS72 w wc g333 v421 t423) ∧ Aside0 (IsS57 w wc g339 u7z x8z_22) ∧ Aside0 (Below w.heap.size w wc))
 case first =>
  as_aux_lemma =>
  have H := HC23.out
  clear HC23
  replace H := bm_ H
  obtain ⟨t424, A410, H⟩ := H
  replace H : (if (t411 != (t424 == 0)) = true then (none) else (if t411 = true then ((gangwayref20_Gather.f kj1 t412 t415 ((rd_T26 l0 x3_1).f3)).bind fun bt425 => ((gangwayref0_EqBytes.f kj1 t416 bt425.1).bind fun t432 => (j2 kj1 l0 x3_1 t411 (!t432) ((rd_T26 l0 x3_1).f0) ((rd_T26 l0 x3_1).f1) ((rd_T26 l0 x3_1).f2) ((rd_T26 l0 x3_1).f3) ((rd_T26 l0 x3_1).f4) t420 t423 bt425.2.1 bt425.2.2))) else (if t424 = 21 then (if (t416.length : Int) > 0 then (none) else (j2 kj1 l0 x3_1 t411 false ((rd_T26 l0 x3_1).f0) ((rd_T26 l0 x3_1).f1) ((rd_T26 l0 x3_1).f2) ((rd_T26 l0 x3_1).f3) ((rd_T26 l0 x3_1).f4) t420 t423 t412 t415)) else (none)))) = some r := H
  have A41 := am_ A410
  clear A410
  by_cases c42 : (t411 != (t424 == 0)) = true
  ·rw [if_pos c42] at H
   exact absurd H (by simp)
  as_aux_lemma =>
  rw [if_neg c42] at H
  have c42b0 : (t411 != (t424 == 0)) = false := by simpa using c42
  (try (have c42b1 : decide (t411 = (t424 == 0)) = true := by simpa using c42))
  (try (have c42b2 : (t411 == (t424 == 0)) = true := by simpa using c42))
  clear c42
  (first | rw [c42b0] | (simp only [i64_w, i32_w]; rw [c42b0]) | skip)
  by_cases c43 : t411 = true
  ·subst c43
   have H1 : ((gangwayref20_Gather.f kj1 t412 t415 ((rd_T26 l0 x3_1).f3)).bind fun bt425 => ((gangwayref0_EqBytes.f kj1 t416 bt425.1).bind fun t432 => (j2 kj1 l0 x3_1 true (!t432) ((rd_T26 l0 x3_1).f0) ((rd_T26 l0 x3_1).f1) ((rd_T26 l0 x3_1).f2) ((rd_T26 l0 x3_1).f3) ((rd_T26 l0 x3_1).f4) t420 t423 bt425.2.1 bt425.2.2))) = some r := by rw [if_pos rfl] at H; exact H
   clear H
   have H := H1
   clear H1
   replace H := bm_ H
   obtain ⟨⟨t425, t428, t431⟩, A440, H⟩ := H
   replace H : ((gangwayref0_EqBytes.f kj1 t416 t425).bind fun t432 => (j2 kj1 l0 x3_1 true (!t432) ((rd_T26 l0 x3_1).f0) ((rd_T26 l0 x3_1).f1) ((rd_T26 l0 x3_1).f2) ((rd_T26 l0 x3_1).f3) ((rd_T26 l0 x3_1).f4) t420 t423 t428 t431)) = some r := H
   have A44 := am_ A440
   clear A440
   replace H := bm_ H
   obtain ⟨t432, A450, H⟩ := H
   replace H : (j2 kj1 l0 x3_1 true (!t432) ((rd_T26 l0 x3_1).f0) ((rd_T26 l0 x3_1).f1) ((rd_T26 l0 x3_1).f2) ((rd_T26 l0 x3_1).f3) ((rd_T26 l0 x3_1).f4) t420 t423 t428 t431) = some r := H
   have A45 := am_ A450
   clear A450
   have H' := am_ H
   clear H
   go_wp2_with (first | ((with_reducible refine gate_callee (f := 9) rfl ?_); refine goesL_ (some 93) rfl rfl Try.func9 (by kernel_rfl) rfl #[.int .i64 t419] rfl aa_0 ?_; (with_reducible refine (gangwaylaw19_num.calls t419 t424 _ A41.out).mono ?_); rintro e w' ⟨rfl, ⟨nd, rfl⟩⟩; refine ⟨_, rfl, ?_⟩; have hnb46 := NB326_333.out; have hnc46 := NB333_326.out; have hnb47 := NB326_339.out; have hnc47 := NB339_326.out; have hcz48_0 : w40.cell? ⟨gb326, 0, none⟩ = some (.slice A325_0 ((rd_T26 l0 x3_1).f0).length c325_0) := (bc BK326 0); have hcz48_1 : w40.cell? ⟨gb326, 1, none⟩ = some (.int .i64 ((rd_T26 l0 x3_1).f1)) := (bc BK326 1); have hcz48_2 : w40.cell? ⟨gb326, 2, none⟩ = some (.int .i64 ((rd_T26 l0 x3_1).f2)) := (bc BK326 2); have hcz48_3 : w40.cell? ⟨gb326, 3, none⟩ = some (.slice A325_3 ((rd_T26 l0 x3_1).f3).length c325_3) := (bc BK326 3); have hcz48_4 : w40.cell? ⟨gb326, 4, none⟩ = some (.slice A325_4 ((rd_T26 l0 x3_1).f4).length c325_4) := (bc BK326 4); have hfz48_0 := blk_frozen BK326.out 0; have hfz48_1 := blk_frozen BK326.out 1; have hfz48_2 := blk_frozen BK326.out 2; have hfz48_3 := blk_frozen BK326.out 3; have hfz48_4 := blk_frozen BK326.out 4) | (go_at_call 14; (with_reducible refine (gangwayref20_Gather.calls kj1 g339 (fun k_ => some k_ = (v413 : Value).ownBlock) v413 t412 t415 _ _ ((rd_T26 l0 x3_1).f3) t425 t428 t431 w _ ?side1 ?side2 ?side3 ?side4 ?side5 A44.out).mono ?_); (case side1 => exact aa_4); (case side2 => exact aa_1); (case side3 => exact Kd.R_tight rfl HO414.out); (case side4 => exact Kd.C_kept_came k50_heap HR325_3.out aa_1 (fun k_ hs_ => Or.elim hs_ (fun hs_ => (fun e_ => Kd.R_base HO414.out k_ e_.symm) hs_) (fun e_ => (by rw [e_]; exact IsS57.ge HI339.out)))); (case side5 => exact HC325_3.out); rintro e w49 ⟨v426, v429, rfl, ho0, ho1, hi, hb, hkp⟩; have n0_ := am_ (bkept BK326 aa_3 hkp (fun hs_ => Or.elim hs_ (fun hs_ => (fun e_ => (Kd.R_ne HO414.out BK326.out (by decide)) e_) hs_) (fun e_ => NB326_339.out e_))); have n1_ := am_ (IsS72.kept aa_6 hkp (fun hs_ => Or.elim hs_ (fun hs_ => (fun e_ => (IsS72.own_ne HI333.out HO414.out (by decide)) e_) hs_) (fun e_ => NB333_339.out e_))); have n2_ := am_ (hi); have n3_ := am_ (Kd.R_mono (ok' := fun k_ => some k_ ≠ (.slice Ao36 t348.length co36 : Value).ownBlock) (Kd.R_keptB ((IsS57.apart HI339.out (Kd.R_apart' HO342.out (Kd.R_typed HO414.out) (by decide)) (by decide))) hkp (fun k_ hk_ hs_ => Or.elim hs_ (fun hs_ => (hk_.1.2) hs_) (fun e_ => (hk_.2) e_))) (fun k_ hk_ => hk_.1.1.1)); have n4_ := am_ (Kd.R_mono (ok' := fun k_ => some k_ ≠ (.slice Ao35 t340.length co35 : Value).ownBlock) (Kd.R_keptB ((IsS57.apart HI339.out (Kd.R_apart' HO350.out (Kd.R_typed HO414.out) (by decide)) (by decide))) hkp (fun k_ hk_ hs_ => Or.elim hs_ (fun hs_ => (hk_.1.2) hs_) (fun e_ => (hk_.2) e_))) (fun k_ hk_ => hk_.1.1.1)); have n5_ := am_ (Kd.R_mono (ok' := fun k_ => some k_ ≠ (v421 : Value).ownBlock ∧ some k_ ≠ (v426 : Value).ownBlock ∧ some k_ ≠ (v429 : Value).ownBlock) (Kd.R_keptB ((IsS57.apart HI339.out HO418.out (by decide))) hkp (fun k_ hk_ hs_ => Or.elim hs_ (fun hs_ => (hk_.1.2) hs_) (fun e_ => (hk_.2) e_))) (fun k_ hk_ => ⟨hk_.1.1.1, fun e_ => Or.elim (ho0.1 k_ e_.symm).1 (fun hs_ => hk_.2.1 (.inl hs_)) (fun hn_ => Nat.not_le.2 hk_.2.2 hn_), fun e_ => Or.elim (ho1.1 k_ e_.symm).1 (fun hs_ => hk_.2.1 (.inl hs_)) (fun hn_ => Nat.not_le.2 hk_.2.2 hn_)⟩)); have n6_ := am_ (Kd.R_mono (ok' := fun k_ => some k_ ≠ (v417 : Value).ownBlock ∧ some k_ ≠ (v426 : Value).ownBlock ∧ some k_ ≠ (v429 : Value).ownBlock) (Kd.R_keptB ((IsS57.apart HI339.out HO422.out (by decide))) hkp (fun k_ hk_ hs_ => Or.elim hs_ (fun hs_ => (hk_.1.2) hs_) (fun e_ => (hk_.2) e_))) (fun k_ hk_ => ⟨hk_.1.1.1, fun e_ => Or.elim (ho0.1 k_ e_.symm).1 (fun hs_ => hk_.2.1 (.inl hs_)) (fun hn_ => Nat.not_le.2 hk_.2.2 hn_), fun e_ => Or.elim (ho1.1 k_ e_.symm).1 (fun hs_ => hk_.2.1 (.inl hs_)) (fun hn_ => Nat.not_le.2 hk_.2.2 hn_)⟩)); have n7_ := am_ (Kd.R_mono (ok' := fun k_ => some k_ ≠ (v429 : Value).ownBlock ∧ some k_ ≠ (v417 : Value).ownBlock ∧ some k_ ≠ (v421 : Value).ownBlock) ho0 (fun k_ hk_ => ⟨hk_.2, Or.elim hk_.1 (fun hs_ => fun e_ => ((((IsS57.apart HI339.out HO418.out (by decide))).1 k_ e_.symm).1.2) hs_) (fun hn_ => (Kd.fresh' (Kd.R_lt (by (with_reducible repeat (first | apply Kd.R_alloc | apply Kd.R_drewN | apply Kd.R_drew)); exact HO418.out)) k_ hn_)), Or.elim hk_.1 (fun hs_ => fun e_ => ((((IsS57.apart HI339.out HO422.out (by decide))).1 k_ e_.symm).1.2) hs_) (fun hn_ => (Kd.fresh' (Kd.R_lt (by (with_reducible repeat (first | apply Kd.R_alloc | apply Kd.R_drewN | apply Kd.R_drew)); exact HO422.out)) k_ hn_))⟩)); have n8_ := am_ (Kd.R_mono (ok' := fun k_ => some k_ ≠ (v426 : Value).ownBlock ∧ some k_ ≠ (v417 : Value).ownBlock ∧ some k_ ≠ (v421 : Value).ownBlock) ho1 (fun k_ hk_ => ⟨hk_.2, Or.elim hk_.1 (fun hs_ => fun e_ => ((((IsS57.apart HI339.out HO418.out (by decide))).1 k_ e_.symm).1.2) hs_) (fun hn_ => (Kd.fresh' (Kd.R_lt (by (with_reducible repeat (first | apply Kd.R_alloc | apply Kd.R_drewN | apply Kd.R_drew)); exact HO418.out)) k_ hn_)), Or.elim hk_.1 (fun hs_ => fun e_ => ((((IsS57.apart HI339.out HO422.out (by decide))).1 k_ e_.symm).1.2) hs_) (fun hn_ => (Kd.fresh' (Kd.R_lt (by (with_reducible repeat (first | apply Kd.R_alloc | apply Kd.R_drewN | apply Kd.R_drew)); exact HO422.out)) k_ hn_))⟩)); have n9_ := am_ (hb); clear BK326; clear HI333; clear HI339; clear HO342; clear HO350; clear HO418; clear HO422; clear HB; clear HO414; have BK326 := n0_; have HI333 := n1_; have HI339 := n2_; have HO342 := n3_; have HO350 := n4_; have HO418 := n5_; have HO422 := n6_; have HO427 := n7_; have HO430 := n8_; have HB := n9_; clear n0_ n1_ n2_ n3_ n4_ n5_ n6_ n7_ n8_ n9_; (try clear hb); (try clear hkp); (try clear ho0); (try clear ho1); obtain ⟨Ao50, co50, eo50⟩ := Kd.R_slice HO418.out; subst eo50; obtain ⟨Ao51, co51, eo51⟩ := Kd.R_slice HO427.out; subst eo51) | (go_at_call 13; (with_reducible refine (gangwayref0_EqBytes.calls kj1 _ _ t416 _ _ t425 t432 _ ?side1 ?side2 ?side3 ?side4 A45.out).mono ?_); (case side1 => repeat (first | exact (Kd.R_reads' HO418.out).2.2 | (with_reducible refine Kd.C_alloc ?_ _) | (with_reducible refine Kd.C_drewN ?_ _) | (with_reducible refine Kd.C_drew ?_))); (case side2 => exact (Kd.R_reads' HO418.out).2.1); (case side3 => repeat (first | exact (Kd.R_reads' HO427.out).2.2 | (with_reducible refine Kd.C_alloc ?_ _) | (with_reducible refine Kd.C_drewN ?_ _) | (with_reducible refine Kd.C_drew ?_))); (case side4 => exact (Kd.R_reads' HO427.out).2.1); rintro e w' ⟨rfl, ⟨nd, rfl⟩⟩))
   go_meet
   case rel => exact ⟨_, (!t432), (t428), (t431), (v429), aa_5, H', ⟨by have := HK1.out; have := HJ1.out; first | omega | exact Nat.le_refl _⟩, ⟨by (with_reducible repeat (first | apply Kd.R_alloc | apply Kd.R_drewN | apply Kd.R_drew)); exact Kd.R_mono HO422.out (fun _ hk => hk.2.2)⟩, ⟨by (with_reducible repeat (first | apply Kd.R_alloc | apply Kd.R_drewN | apply Kd.R_drew)); exact Kd.R_mono HO430.out (fun _ hk => hk.2.2)⟩, ⟨aa_3⟩, ⟨aa_6⟩, ⟨aa_4⟩, ⟨aa_1⟩⟩
  replace c43 := Bool.eq_false_iff.mpr c43
  subst c43
  have H1 : (if t424 = 21 then (if (t416.length : Int) > 0 then (none) else (j2 kj1 l0 x3_1 false false ((rd_T26 l0 x3_1).f0) ((rd_T26 l0 x3_1).f1) ((rd_T26 l0 x3_1).f2) ((rd_T26 l0 x3_1).f3) ((rd_T26 l0 x3_1).f4) t420 t423 t412 t415)) else (none)) = some r := by rw [if_neg (show ¬ (false = true) by decide)] at H; exact H
  clear H
  have H := H1
  clear H1
  by_cases c52 : t424 = 21
  rotate_left
  ·rw [if_neg c52] at H
   exact absurd H (by simp)
  rw [if_pos c52] at H
  have c52b0 : (t424 == 21) = true := beq_iff_eq.mpr c52
  have c52b1 : (t424 != 21) = false := bne_eq_false_iff_eq.mpr c52
  clear c52
  by_cases c53 : (t416.length : Int) > 0
  ·rw [if_pos c53] at H
   exact absurd H (by simp)
  rw [if_neg c53] at H
  have c53b0 : decide (0 < (t416.length : Int)) = false := decide_eq_false c53
  have c53b1 : decide (0 < t416.length) = false := decide_eq_false (by omega)
  clear c53
  have H' := am_ H
  clear H
  go_wp2_with (first | ((with_reducible refine gate_callee (f := 9) rfl ?_); refine goesL_ (some 93) rfl rfl Try.func9 (by kernel_rfl) rfl #[.int .i64 t419] rfl aa_0 ?_; (with_reducible refine (gangwaylaw19_num.calls t419 t424 _ A41.out).mono ?_); rintro e w' ⟨rfl, ⟨nd, rfl⟩⟩; refine ⟨_, rfl, ?_⟩; obtain ⟨Ao54, co54, eo54⟩ := Kd.R_slice HO418.out; subst eo54) | (go_at_call 9; (with_reducible refine (gangwaylaw19_num.calls t419 t424 _ A41.out).mono ?_); rintro e w' ⟨rfl, ⟨nd, rfl⟩⟩))
  go_meet
  case rel => exact ⟨_, (false), (t412), (t415), (v413), aa_5, H', ⟨by have := HK1.out; have := HJ1.out; first | omega | exact Nat.le_refl _⟩, ⟨by (with_reducible repeat (first | apply Kd.R_alloc | apply Kd.R_drewN | apply Kd.R_drew)); exact Kd.R_mono HO422.out (fun _ hk => hk.2)⟩, ⟨by (with_reducible repeat (first | apply Kd.R_alloc | apply Kd.R_drewN | apply Kd.R_drew)); exact Kd.R_mono HO414.out (fun _ hk => hk.2)⟩, ⟨aa_3⟩, ⟨aa_6⟩, ⟨aa_4⟩, ⟨aa_1⟩⟩
 case rest =>
 as_aux_lemma =>
 clear HC23
 try clear c1
 try clear c2
 try clear p2
 try clear c3
 try clear c3b0
 try clear p3
 try clear q3
 try clear hx3
 try clear c4
 try clear c5
 try clear c5b0
 try clear c6
 try clear c6b0
 try clear c7
 try clear c8
 try clear c9
 try clear c11
 try clear c12
 try clear c13
 try clear c14
 try clear c18
 try clear c18b0
 try clear c18b1
 try clear c20
 try clear c29
 try clear c30
 try clear c32
 try clear p32
 try clear q32
 try clear hx32
 try clear c42
 try clear c42b0
 try clear c42b1
 try clear c42b2
 try clear c43
 try clear c46
 try clear c47
 try clear c52
 try clear c52b0
 try clear c52b1
 try clear c53
 try clear c53b0
 try clear c53b1
 try clear hcz10_0
 try clear hcz10_1
 try clear hcz10_2
 try clear hcz10_3
 try clear hcz10_4
 try clear hcz25_0
 try clear hcz25_1
 try clear hcz25_2
 try clear hcz25_3
 try clear hcz25_4
 try clear hcz27_0
 try clear hcz27_1
 try clear hcz27_2
 try clear hcz27_3
 try clear hcz27_4
 try clear hcz31_0
 try clear hcz31_1
 try clear hcz31_2
 try clear hcz31_3
 try clear hcz31_4
 try clear hcz33_0
 try clear hcz33_1
 try clear hcz33_2
 try clear hcz33_3
 try clear hcz33_4
 try clear hcz37_0
 try clear hcz37_1
 try clear hcz37_2
 try clear hcz37_3
 try clear hcz37_4
 try clear hcz39_0
 try clear hcz39_1
 try clear hcz39_2
 try clear hcz39_3
 try clear hcz39_4
 try clear hcz48_0
 try clear hcz48_1
 try clear hcz48_2
 try clear hcz48_3
 try clear hcz48_4
 try clear hfz10_0
 try clear hfz10_1
 try clear hfz10_2
 try clear hfz10_3
 try clear hfz10_4
 try clear hfz25_0
 try clear hfz25_1
 try clear hfz25_2
 try clear hfz25_3
 try clear hfz25_4
 try clear hfz27_0
 try clear hfz27_1
 try clear hfz27_2
 try clear hfz27_3
 try clear hfz27_4
 try clear hfz31_0
 try clear hfz31_1
 try clear hfz31_2
 try clear hfz31_3
 try clear hfz31_4
 try clear hfz33_0
 try clear hfz33_1
 try clear hfz33_2
 try clear hfz33_3
 try clear hfz33_4
 try clear hfz37_0
 try clear hfz37_1
 try clear hfz37_2
 try clear hfz37_3
 try clear hfz37_4
 try clear hfz39_0
 try clear hfz39_1
 try clear hfz39_2
 try clear hfz39_3
 try clear hfz39_4
 try clear hfz48_0
 try clear hfz48_1
 try clear hfz48_2
 try clear hfz48_3
 try clear hfz48_4
 try clear hx325_0
 try clear hx325_1
 try clear hx325_2
 try clear hx325_3
 try clear hx325_4
 try clear p2
 try clear p325
 try clear q325
 obtain ⟨kq, x121_22, x7z_22, x8z_22, u7z, rfl, HA, HJ22, HO_5z, HO_7z, BK326, HI333, HI339, HB⟩ := hcut
 cases kq with
 | zero => exact absurd HA.out (by simp [j2])
 | succ kj22 =>
 have H := HA.out
 clear HA
 simp only [j2] at H
 by_cases c55 : x121_22 = true
 ·subst c55
  have H1 : (none) = some r := by rw [if_pos rfl] at H; exact H
  clear H
  have H := H1
  clear H1
  exact absurd H (by simp)
 as_aux_lemma =>
 replace c55 := Bool.eq_false_iff.mpr c55
 subst c55
 have H1 : ((gangwayref0_CopyBytes.f kj22 ((rd_T26 l0 x3_1).f4)).bind fun t433 => ((iov_Scatter.f kj22 t420 t423 ((rd_T26 l0 x3_1).f3) t433).bind fun bt436 => (if t411 = true then ((gangwayref20_Scatter.f kj22 x7z_22 x8z_22 ((rd_T26 l0 x3_1).f3) ((rd_T26 l0 x3_1).f4)).bind fun bt442 => (j3 kj22 l0 x3_1 t411 bt436.1 bt436.2.1 bt442.1 ((rd_T26 l0 x3_1).f0) ((rd_T26 l0 x3_1).f1) ((rd_T26 l0 x3_1).f2) ((rd_T26 l0 x3_1).f3) ((rd_T26 l0 x3_1).f4) bt436.2.2.1 bt436.2.2.2 bt442.2.1 bt442.2.2)) else (j3 kj22 l0 x3_1 t411 bt436.1 bt436.2.1 0 ((rd_T26 l0 x3_1).f0) ((rd_T26 l0 x3_1).f1) ((rd_T26 l0 x3_1).f2) ((rd_T26 l0 x3_1).f3) ((rd_T26 l0 x3_1).f4) bt436.2.2.1 bt436.2.2.2 x7z_22 x8z_22)))) = some r := by rw [if_neg (show ¬ (false = true) by decide)] at H; exact H
 clear H
 have H := H1
 clear H1
 replace H := bm_ H
 obtain ⟨t433, A560, H⟩ := H
 replace H : ((iov_Scatter.f kj22 t420 t423 ((rd_T26 l0 x3_1).f3) t433).bind fun bt436 => (if t411 = true then ((gangwayref20_Scatter.f kj22 x7z_22 x8z_22 ((rd_T26 l0 x3_1).f3) ((rd_T26 l0 x3_1).f4)).bind fun bt442 => (j3 kj22 l0 x3_1 t411 bt436.1 bt436.2.1 bt442.1 ((rd_T26 l0 x3_1).f0) ((rd_T26 l0 x3_1).f1) ((rd_T26 l0 x3_1).f2) ((rd_T26 l0 x3_1).f3) ((rd_T26 l0 x3_1).f4) bt436.2.2.1 bt436.2.2.2 bt442.2.1 bt442.2.2)) else (j3 kj22 l0 x3_1 t411 bt436.1 bt436.2.1 0 ((rd_T26 l0 x3_1).f0) ((rd_T26 l0 x3_1).f1) ((rd_T26 l0 x3_1).f2) ((rd_T26 l0 x3_1).f3) ((rd_T26 l0 x3_1).f4) bt436.2.2.1 bt436.2.2.2 x7z_22 x8z_22))) = some r := H
 have A56 := am_ A560
 clear A560
 replace H := bm_ H
 obtain ⟨⟨t436, t437, t438, t441⟩, A570, H⟩ := H
 replace H : (if t411 = true then ((gangwayref20_Scatter.f kj22 x7z_22 x8z_22 ((rd_T26 l0 x3_1).f3) ((rd_T26 l0 x3_1).f4)).bind fun bt442 => (j3 kj22 l0 x3_1 t411 t436 t437 bt442.1 ((rd_T26 l0 x3_1).f0) ((rd_T26 l0 x3_1).f1) ((rd_T26 l0 x3_1).f2) ((rd_T26 l0 x3_1).f3) ((rd_T26 l0 x3_1).f4) t438 t441 bt442.2.1 bt442.2.2)) else (j3 kj22 l0 x3_1 t411 t436 t437 0 ((rd_T26 l0 x3_1).f0) ((rd_T26 l0 x3_1).f1) ((rd_T26 l0 x3_1).f2) ((rd_T26 l0 x3_1).f3) ((rd_T26 l0 x3_1).f4) t438 t441 x7z_22 x8z_22)) = some r := H
 have A57 := am_ A570
 clear A570
 have HC58 := am_ H
 clear H
 try go_wp2
 have n0_ := am_ (Kd.R_drew HO_5z.out)
 have n1_ := am_ (Kd.R_drew HO_7z.out)
 have n2_ := am_ (blk_drew BK326.out)
 have n3_ := am_ (IsS72.drew HI333.out)
 have n4_ := am_ (IsS57.drew HI339.out)
 have n5_ := am_ (below_drew1 HB.out)
 clear HO_5z
 clear HO_7z
 clear BK326
 clear HI333
 clear HI339
 clear HB
 have HO_5z := n0_
 have HO_7z := n1_
 have BK326 := n2_
 have HI333 := n3_
 have HI339 := n4_
 have HB := n5_
 clear n0_ n1_ n2_ n3_ n4_ n5_
 refine start_ (n := 12) (S := fun w' => w'.cell? ⟨gb326, 0, none⟩ = some (.slice A325_0 ((rd_T26 l0 x3_1).f0).length c325_0) ∧ w'.cell? ⟨gb326, 1, none⟩ = some (.int .i64 ((rd_T26 l0 x3_1).f1)) ∧ w'.cell? ⟨gb326, 2, none⟩ = some (.int .i64 ((rd_T26 l0 x3_1).f2)) ∧ w'.cell? ⟨gb326, 3, none⟩ = some (.slice A325_3 ((rd_T26 l0 x3_1).f3).length c325_3) ∧ w'.cell? ⟨gb326, 4, none⟩ = some (.slice A325_4 ((rd_T26 l0 x3_1).f4).length c325_4)) (ds := []) bb12_ (by kernel_rfl) rfl rfl ⟨bc BK326 0, bc BK326 1, bc BK326 2, bc BK326 3, bc BK326 4⟩ (fun hHeld => ?_); refine with_tabW gangwaylaw19_IovExact.tab18 gangwaylaw19_IovExact.bits18 (fun HT_ HW_ => ?_)
 generalize wc.drew = w59 at HO_5z HO_7z BK326 HI333 HI339 HB hHeld ⊢
 refine pure_ (i := 0) (N := some 123) (v := ?_) (a' := ?_) bb11_ rfl rfl (any_of HT_.out (by kernel_rfl)) (fun _ _ _ h => h) (Or.inl ⟨by rfl, ?_⟩) ?_ ?_
 rotate_left; · intro w'; go_simp; with_reducible rfl
 rotate_left; · simp only [Act.put, e1, e2, e3, i64_w, i32_w]; rfl
 refine pure_ (i := 1) (N := some 124) (v := ?_) (a' := ?_) bb10_ rfl rfl (any_of HT_.out (by kernel_rfl)) (fun _ _ _ h => h) (Or.inl ⟨by rfl, ?_⟩) ?_ ?_
 rotate_left; · intro w'; go_simp; with_reducible rfl
 rotate_left; · simp only [Act.put, e1, e2, e3, i64_w, i32_w]; rfl
 refine pure_ (i := 3) (N := some 126) (v := ?_) (a' := ?_) bb9_ rfl rfl (any_of HT_.out (by kernel_rfl)) (fun _ _ _ h => h) (Or.inl ⟨by rfl, ?_⟩) ?_ ?_
 rotate_left; · intro w'; go_simp; with_reducible rfl
 rotate_left; · simp only [Act.put, e1, e2, e3, i64_w, i32_w]; rfl
 refine take_ (i := 2) (N := some 125) (v := ?_) (a' := ?_) bb8_ rfl rfl (take_ofW HT_.out HW_.out (by kernel_rfl)) (fun _ _ _ h => h) (Or.inl ⟨by rfl, ?_⟩) hHeld ?_ ?_
 rotate_left; · rintro w' ⟨s0, s1, s2, s3, s4⟩; go_simp; with_reducible rfl
 rotate_left; · simp only [Act.put, e1, e2, e3, i64_w, i32_w]; rfl
 refine take_ (i := 4) (N := some 127) (v := ?_) (a' := ?_) bb7_ rfl rfl (take_ofW HT_.out HW_.out (by kernel_rfl)) (fun _ _ _ h => h) (Or.inl ⟨by rfl, ?_⟩) hHeld ?_ ?_
 rotate_left; · rintro w' ⟨s0, s1, s2, s3, s4⟩; go_simp; with_reducible rfl
 rotate_left; · simp only [Act.put, e1, e2, e3, i64_w, i32_w]; rfl
 refine one_ (i := 5) (N := some 128) bb6_ rfl rfl (one_of HT_.out (by kernel_rfl)) (by decide) (fun K hK => ?_)
 refine goes_ Try.func16 (by kernel_rfl) rfl #[.slice A325_4 ((rd_T26 l0 x3_1).f4).length c325_4] (by rfl) rfl rfl aa_0 ?_
 with_reducible refine (gangwayref0_CopyBytes.calls kj22 _ _ ((rd_T26 l0 x3_1).f4) t433 _ ?side1 ?side2 A56.out).mono ?_
 (case side1 => repeat (first | exact (Kd.C_below HR325_4.out HB.out) | (with_reducible refine Kd.C_alloc ?_ _) | (with_reducible refine Kd.C_drewN ?_ _) | (with_reducible refine Kd.C_drew ?_)))
 (case side2 => exact HC325_4.out)
 rintro e w60 ⟨v434, rfl, ho0, hb⟩
 refine ⟨_, rfl, ?_⟩
 have n0_ := am_ (Kd.R_elder' (by (with_reducible repeat (first | apply Kd.R_alloc | apply Kd.R_drewN | apply Kd.R_drew)); exact HO_5z.out) (Kd.R_base ho0) hb)
 have n1_ := am_ (Kd.R_elder' aa_9 (Kd.R_base ho0) hb)
 have n2_ := am_ (Kd.R_lower (Kd.R_new' (Kd.R_new' ho0 (Kd.R_lt (by (with_reducible repeat (first | apply Kd.R_alloc | apply Kd.R_drewN | apply Kd.R_drew)); exact HO_5z.out))) (Kd.R_lt aa_9)) (below_size aa_1))
 have n3_ := am_ (bbelow BK326 aa_3 hb)
 have n4_ := am_ (IsS72.below aa_6 hb)
 have n5_ := am_ (IsS57.below aa_4 hb)
 have n6_ := am_ (below_step aa_1 hb)
 clear HO_5z
 clear HO_7z
 clear BK326
 clear HI333
 clear HI339
 clear HB
 have HO_5z := n0_
 have HO_7z := n1_
 have HO435 := n2_
 have BK326 := n3_
 have HI333 := n4_
 have HI339 := n5_
 have HB := n6_
 clear n0_ n1_ n2_ n3_ n4_ n5_ n6_
 (try clear hb)
 (try clear hb2)
 (try clear hk)
 (try clear hi)
 (try clear ho0)
 obtain ⟨Ao61, co61, eo61⟩ := Kd.R_slice HO435.out
 (first | subst eo61 | (injection eo61 with f1_ f2_ f3_; have f4_ := f1_.symm; have f5_ := f3_.symm; clear f1_ f2_ f3_; subst f4_; subst f5_))
 refine hK.out _ _ ⟨bc BK326 0, bc BK326 1, bc BK326 2, bc BK326 3, bc BK326 4⟩ (fun hHeld => ?_)
 clear hK K
 refine norm_ (a' := ?_) ?_ ?_
 rotate_left
 ·show Act.put _ (some 128) _ = _
  simp only [Act.put, e1, e2, e3, i64_w, i32_w]
  rfl
 refine one_ (i := 6) (N := some 129) bb5_ rfl rfl (one_of HT_.out (by kernel_rfl)) (by decide) (fun K hK => ?_)
 refine goes_ Try.func15 (by kernel_rfl) rfl #[.pointer (some ⟨g333, 0, none⟩), .slice A325_3 ((rd_T26 l0 x3_1).f3).length c325_3, .slice Ao61 t433.length co61] (by rfl) rfl rfl aa_0 ?_
 with_reducible refine (iov_Scatter.calls kj22 g333 (fun k_ => some k_ = (v421 : Value).ownBlock) v421 t420 t423 _ _ ((rd_T26 l0 x3_1).f3) _ _ t433 t436 t437 t438 t441 w _ ?side1 ?side2 ?side3 ?side4 ?side5 ?side6 ?side7 A57.out).mono ?_
 (case side1 => exact aa_6)
 (case side2 => exact aa_1)
 (case side3 => exact Kd.R_tight rfl HO_5z.out)
 (case side4 => exact Kd.C_kept_came k50_heap HR325_3.out aa_1 (fun k_ hs_ => Or.elim hs_ (fun hs_ => (fun e_ => Kd.R_base HO_5z.out k_ e_.symm) hs_) (fun e_ => (by rw [e_]; exact IsS72.ge HI333.out))))
 (case side5 => exact HC325_3.out)
 (case side6 => exact Kd.C_kept_own ((IsS72.apart HI333.out HO435.out (by decide))) (fun k_ hk_ hs_ => Or.elim hs_ (fun hs_ => (hk_.1.1.2) hs_) (fun e_ => (hk_.2) e_)))
 (case side7 => exact (Kd.R_reads' HO435.out).2.1)
 rintro e w62 ⟨v439, rfl, ho0, hi, hb, hkp⟩
 refine ⟨_, rfl, ?_⟩
 have n0_ := am_ (Kd.R_mono (ok' := fun k_ => some k_ ≠ (.slice Ao61 t433.length co61 : Value).ownBlock ∧ some k_ ≠ (v439 : Value).ownBlock) (Kd.R_keptB ((IsS72.apart HI333.out HO_7z.out (by decide))) hkp (fun k_ hk_ hs_ => Or.elim hs_ (fun hs_ => (hk_.1.1) hs_) (fun e_ => (hk_.2) e_))) (fun k_ hk_ => ⟨hk_.1.1.2, fun e_ => Or.elim (ho0.1 k_ e_.symm) (fun hs_ => hk_.2.1 (.inl hs_)) (fun hn_ => Nat.not_le.2 hk_.2.2 hn_)⟩))
 have n1_ := am_ (bkept BK326 aa_3 hkp (fun hs_ => Or.elim hs_ (fun hs_ => (fun e_ => (Kd.R_ne HO_5z.out BK326.out (by decide)) e_) hs_) (fun e_ => NB326_333.out e_)))
 have n2_ := am_ (hi)
 have n3_ := am_ (IsS57.kept aa_4 hkp (fun hs_ => Or.elim hs_ (fun hs_ => (fun e_ => (IsS57.own_ne HI339.out HO_5z.out (by decide)) e_) hs_) (fun e_ => NB339_333.out e_)))
 have n4_ := am_ (Kd.R_mono (ok' := fun k_ => some k_ ≠ (u7z : Value).ownBlock ∧ some k_ ≠ (v439 : Value).ownBlock) (Kd.R_keptB ((IsS72.apart HI333.out HO435.out (by decide))) hkp (fun k_ hk_ hs_ => Or.elim hs_ (fun hs_ => (hk_.1.1.2) hs_) (fun e_ => (hk_.2) e_))) (fun k_ hk_ => ⟨hk_.1.1.2, fun e_ => Or.elim (ho0.1 k_ e_.symm) (fun hs_ => hk_.2.1 (.inl hs_)) (fun hn_ => Nat.not_le.2 hk_.2.2 hn_)⟩))
 have n5_ := am_ (Kd.R_mono (ok' := fun k_ => some k_ ≠ (u7z : Value).ownBlock ∧ some k_ ≠ (.slice Ao61 t433.length co61 : Value).ownBlock) ho0 (fun k_ hk_ => ⟨Or.elim hk_ (fun hs_ => fun e_ => ((((IsS72.apart HI333.out HO_7z.out (by decide))).1 k_ e_.symm).1.1) hs_) (fun hn_ => (Kd.fresh' (Kd.R_lt aa_9) k_ hn_)), Or.elim hk_ (fun hs_ => fun e_ => ((((IsS72.apart HI333.out HO435.out (by decide))).1 k_ e_.symm).1.1.2) hs_) (fun hn_ => (Kd.fresh' (Kd.R_lt (by (with_reducible repeat (first | apply Kd.R_alloc | apply Kd.R_drewN | apply Kd.R_drew)); exact HO435.out)) k_ hn_))⟩))
 have n6_ := am_ (hb)
 clear HO_7z
 clear BK326
 clear HI333
 clear HI339
 clear HO435
 clear HB
 clear HO_5z
 have HO_7z := n0_
 have BK326 := n1_
 have HI333 := n2_
 have HI339 := n3_
 have HO435 := n4_
 have HO440 := n5_
 have HB := n6_
 clear n0_ n1_ n2_ n3_ n4_ n5_ n6_
 (try clear hb)
 (try clear hkp)
 (try clear ho0)
 refine hK.out _ _ ⟨bc BK326 0, bc BK326 1, bc BK326 2, bc BK326 3, bc BK326 4⟩ (fun hHeld => ?_)
 clear hK K
 refine norm_ (a' := ?_) ?_ ?_
 rotate_left
 ·show Act.put _ (some 129) _ = _
  simp only [Act.put, e1, e2, e3, i64_w, i32_w]
  rfl
 refine pure_ (i := 7) (N := some 122) (v := ?_) (a' := ?_) bb4_ rfl rfl (any_of HT_.out (by kernel_rfl)) (fun _ _ _ h => h) (Or.inl ⟨by rfl, ?_⟩) ?_ ?_
 rotate_left; · intro w'; go_simp; with_reducible rfl
 rotate_left; · simp only [Act.put, e1, e2, e3, i64_w, i32_w]; rfl
 refine pure_ (i := 8) (N := some 130) (v := ?_) (a' := ?_) bb3_ rfl rfl (any_of HT_.out (by kernel_rfl)) (fun _ _ _ h => h) (Or.inl ⟨by rfl, ?_⟩) ?_ ?_
 rotate_left; · intro w'; go_simp; with_reducible rfl
 rotate_left; · simp only [Act.put, e1, e2, e3, i64_w, i32_w]; rfl
 refine pure_ (i := 9) (N := some 131) (v := ?_) (a' := ?_) bb2_ rfl rfl (any_of HT_.out (by kernel_rfl)) (fun _ _ _ h => h) (Or.inl ⟨by rfl, ?_⟩) ?_ ?_
 rotate_left; · intro w'; go_simp; with_reducible rfl
 rotate_left; · simp only [Act.put, e1, e2, e3, i64_w, i32_w]; rfl
 refine pure_ (i := 10) (N := some 14) (v := ?_) (a' := ?_) bb1_ rfl rfl (any_of HT_.out (by kernel_rfl)) (fun _ _ _ h => h) (Or.inl ⟨by rfl, ?_⟩) ?_ ?_
 rotate_left; · intro w'; go_simp; with_reducible rfl
 rotate_left; · simp only [Act.put, e1, e2, e3, i64_w, i32_w]; rfl
 refine pure_ (i := 11) (N := some 15) (v := ?_) (a' := ?_) bb0_ rfl rfl (any_of HT_.out (by kernel_rfl)) (fun _ _ _ h => h) (Or.inl ⟨by rfl, ?_⟩) ?_ ?_
 rotate_left; · intro w'; go_simp; with_reducible rfl
 rotate_left; · simp only [Act.put, e1, e2, e3, i64_w, i32_w]; rfl
 refine done_ (done_of HT_.out (by kernel_rfl)) ?_
 go_upto_if 132 with (fail)
 go_cut [16] (fun v16 wc => ∃ (kq : Nat) (x16_57 : Int) (x7z_57 : List Int) (x8z_57 : Int) (u7z : Value), v16 = .int .i64 x16_57 ∧ Aside0 (j3 kq l0 x3_1 t411 t436 t437 x16_57 ((rd_T26 l0 x3_1).f0) ((rd_T26 l0 x3_1).f1) ((rd_T26 l0 x3_1).f2) ((rd_T26 l0 x3_1).f3) ((rd_T26 l0 x3_1).f4) t438 t441 x7z_57 x8z_57 = some r) ∧ Aside0 (kq ≤ kj22) ∧ Aside0 (Kd.R (Kd.int .u8) 5 wc w.heap.size (fun k_ => some k_ ≠ (u7z : Value).ownBlock) v439 t438) ∧ Aside0 (Kd.R (Kd.int .u8) 5 wc w.heap.size (fun k_ => some k_ ≠ (v439 : Value).ownBlock) u7z x7z_57) ∧ Aside0 (wc.heap[gb326]? = some (.cells #[(.slice A325_0 ((rd_T26 l0 x3_1).f0).length c325_0), .int .i64 ((rd_T26 l0 x3_1).f1), .int .i64 ((rd_T26 l0 x3_1).f2), (.slice A325_3 ((rd_T26 l0 x3_1).f3).length c325_3), (.slice A325_4 ((rd_T26 l0 x3_1).f4).length c325_4)] 26 (0, 0))) ∧ Aside0 (IsS72 w wc g333 v439 t441) ∧ Aside0 (IsS57 w wc g339 u7z x8z_57) ∧ Aside0 (Below w.heap.size w wc))
 case first =>
  as_aux_lemma =>
  have H := HC58.out
  clear HC58
  by_cases c63 : t411 = true
  rotate_left
  ·replace c63 := Bool.eq_false_iff.mpr c63
   subst c63
   have H1 : (j3 kj22 l0 x3_1 false t436 t437 0 ((rd_T26 l0 x3_1).f0) ((rd_T26 l0 x3_1).f1) ((rd_T26 l0 x3_1).f2) ((rd_T26 l0 x3_1).f3) ((rd_T26 l0 x3_1).f4) t438 t441 x7z_22 x8z_22) = some r := by rw [if_neg (show ¬ (false = true) by decide)] at H; exact H
   clear H
   have H := H1
   clear H1
   have H' := am_ H
   clear H
   go_wp2
   go_meet
   case rel => exact ⟨_, (0), (x7z_22), (x8z_22), (u7z), aa_5, H', ⟨by have := HK1.out; have := HJ1.out; have := HJ22.out; first | omega | exact Nat.le_refl _⟩, ⟨by (with_reducible repeat (first | apply Kd.R_alloc | apply Kd.R_drewN | apply Kd.R_drew)); exact Kd.R_mono HO440.out (fun _ hk => hk.1)⟩, ⟨by (with_reducible repeat (first | apply Kd.R_alloc | apply Kd.R_drewN | apply Kd.R_drew)); exact Kd.R_mono HO_7z.out (fun _ hk => hk.2)⟩, ⟨aa_3⟩, ⟨aa_6⟩, ⟨aa_4⟩, ⟨aa_1⟩⟩
  subst c63
  have H1 : ((gangwayref20_Scatter.f kj22 x7z_22 x8z_22 ((rd_T26 l0 x3_1).f3) ((rd_T26 l0 x3_1).f4)).bind fun bt442 => (j3 kj22 l0 x3_1 true t436 t437 bt442.1 ((rd_T26 l0 x3_1).f0) ((rd_T26 l0 x3_1).f1) ((rd_T26 l0 x3_1).f2) ((rd_T26 l0 x3_1).f3) ((rd_T26 l0 x3_1).f4) t438 t441 bt442.2.1 bt442.2.2)) = some r := by rw [if_pos rfl] at H; exact H
  clear H
  have H := H1
  clear H1
  replace H := bm_ H
  obtain ⟨⟨t442, t443, t446⟩, A640, H⟩ := H
  replace H : (j3 kj22 l0 x3_1 true t436 t437 t442 ((rd_T26 l0 x3_1).f0) ((rd_T26 l0 x3_1).f1) ((rd_T26 l0 x3_1).f2) ((rd_T26 l0 x3_1).f3) ((rd_T26 l0 x3_1).f4) t438 t441 t443 t446) = some r := H
  have A64 := am_ A640
  clear A640
  have H' := am_ H
  clear H
  have hnb65 := NB326_333.out
  have hnc65 := NB333_326.out
  have hnb66 := NB326_339.out
  have hnc66 := NB339_326.out
  have hcz67_0 : w62.cell? ⟨gb326, 0, none⟩ = some (.slice A325_0 ((rd_T26 l0 x3_1).f0).length c325_0) := bc BK326 0
  have hcz67_1 : w62.cell? ⟨gb326, 1, none⟩ = some (.int .i64 ((rd_T26 l0 x3_1).f1)) := bc BK326 1
  have hcz67_2 : w62.cell? ⟨gb326, 2, none⟩ = some (.int .i64 ((rd_T26 l0 x3_1).f2)) := bc BK326 2
  have hcz67_3 : w62.cell? ⟨gb326, 3, none⟩ = some (.slice A325_3 ((rd_T26 l0 x3_1).f3).length c325_3) := bc BK326 3
  have hcz67_4 : w62.cell? ⟨gb326, 4, none⟩ = some (.slice A325_4 ((rd_T26 l0 x3_1).f4).length c325_4) := bc BK326 4
  have hfz67_0 := blk_frozen BK326.out 0
  have hfz67_1 := blk_frozen BK326.out 1
  have hfz67_2 := blk_frozen BK326.out 2
  have hfz67_3 := blk_frozen BK326.out 3
  have hfz67_4 := blk_frozen BK326.out 4
  go_wp2_with (first | ((with_reducible refine gate_callee (f := 17) rfl ?_); refine goesL_ (some 138) rfl rfl Try.func17 (by kernel_rfl) rfl #[.pointer (some ⟨g339, 0, none⟩), .slice A325_3 ((rd_T26 l0 x3_1).f3).length c325_3, .slice A325_4 ((rd_T26 l0 x3_1).f4).length c325_4] rfl aa_0 ?_; (with_reducible refine (gangwayref20_Scatter.calls kj22 g339 (fun k_ => some k_ = (u7z : Value).ownBlock) u7z x7z_22 x8z_22 _ _ ((rd_T26 l0 x3_1).f3) _ _ ((rd_T26 l0 x3_1).f4) t442 t443 t446 w _ ?side1 ?side2 ?side3 ?side4 ?side5 ?side6 ?side7 A64.out).mono ?_); (case side1 => exact aa_4); (case side2 => exact aa_1); (case side3 => exact Kd.R_tight rfl HO_7z.out); (case side4 => exact Kd.C_kept_came k50_heap HR325_3.out aa_1 (fun k_ hs_ => Or.elim hs_ (fun hs_ => (fun e_ => Kd.R_base HO_7z.out k_ e_.symm) hs_) (fun e_ => (by rw [e_]; exact IsS57.ge HI339.out)))); (case side5 => exact HC325_3.out); (case side6 => exact Kd.C_kept_came (Kd.heap_int .u8) HR325_4.out aa_1 (fun k_ hs_ => Or.elim hs_ (fun hs_ => (fun e_ => Kd.R_base HO_7z.out k_ e_.symm) hs_) (fun e_ => (by rw [e_]; exact IsS57.ge HI339.out)))); (case side7 => exact HC325_4.out); rintro e w68 ⟨v444, rfl, ho0, hi, hb, hkp⟩; refine ⟨_, rfl, ?_⟩; have n0_ := am_ (bkept BK326 aa_3 hkp (fun hs_ => Or.elim hs_ (fun hs_ => (fun e_ => (Kd.R_ne HO_7z.out BK326.out (by decide)) e_) hs_) (fun e_ => NB326_339.out e_))); have n1_ := am_ (IsS72.kept aa_6 hkp (fun hs_ => Or.elim hs_ (fun hs_ => (fun e_ => (IsS72.own_ne HI333.out HO_7z.out (by decide)) e_) hs_) (fun e_ => NB333_339.out e_))); have n2_ := am_ (hi); have n3_ := am_ (Kd.R_mono (ok' := fun k_ => some k_ ≠ (v439 : Value).ownBlock ∧ some k_ ≠ (v444 : Value).ownBlock) (Kd.R_keptB ((IsS57.apart HI339.out HO435.out (by decide))) hkp (fun k_ hk_ hs_ => Or.elim hs_ (fun hs_ => (hk_.1.1) hs_) (fun e_ => (hk_.2) e_))) (fun k_ hk_ => ⟨hk_.1.1.2, fun e_ => Or.elim (ho0.1 k_ e_.symm) (fun hs_ => hk_.2.1 (.inl hs_)) (fun hn_ => Nat.not_le.2 hk_.2.2 hn_)⟩)); have n4_ := am_ (Kd.R_mono (ok' := fun k_ => some k_ ≠ (.slice Ao61 t433.length co61 : Value).ownBlock ∧ some k_ ≠ (v444 : Value).ownBlock) (Kd.R_keptB ((IsS57.apart HI339.out HO440.out (by decide))) hkp (fun k_ hk_ hs_ => Or.elim hs_ (fun hs_ => (hk_.1.1) hs_) (fun e_ => (hk_.2) e_))) (fun k_ hk_ => ⟨hk_.1.1.2, fun e_ => Or.elim (ho0.1 k_ e_.symm) (fun hs_ => hk_.2.1 (.inl hs_)) (fun hn_ => Nat.not_le.2 hk_.2.2 hn_)⟩)); have n5_ := am_ (Kd.R_mono (ok' := fun k_ => some k_ ≠ (.slice Ao61 t433.length co61 : Value).ownBlock ∧ some k_ ≠ (v439 : Value).ownBlock) ho0 (fun k_ hk_ => ⟨Or.elim hk_ (fun hs_ => fun e_ => ((((IsS57.apart HI339.out HO435.out (by decide))).1 k_ e_.symm).1.1) hs_) (fun hn_ => (Kd.fresh' (Kd.R_lt (by (with_reducible repeat (first | apply Kd.R_alloc | apply Kd.R_drewN | apply Kd.R_drew)); exact HO435.out)) k_ hn_)), Or.elim hk_ (fun hs_ => fun e_ => ((((IsS57.apart HI339.out HO440.out (by decide))).1 k_ e_.symm).1.1) hs_) (fun hn_ => (Kd.fresh' (Kd.R_lt (by (with_reducible repeat (first | apply Kd.R_alloc | apply Kd.R_drewN | apply Kd.R_drew)); exact HO440.out)) k_ hn_))⟩)); have n6_ := am_ (hb); clear BK326; clear HI333; clear HI339; clear HO435; clear HO440; clear HB; clear HO_7z; have BK326 := n0_; have HI333 := n1_; have HI339 := n2_; have HO435 := n3_; have HO440 := n4_; have HO445 := n5_; have HB := n6_; clear n0_ n1_ n2_ n3_ n4_ n5_ n6_; (try clear hb); (try clear hkp); (try clear ho0)))
  go_meet
  case rel => exact ⟨_, (t442), (t443), (t446), (v444), aa_5, H', ⟨by have := HK1.out; have := HJ1.out; have := HJ22.out; first | omega | exact Nat.le_refl _⟩, ⟨by (with_reducible repeat (first | apply Kd.R_alloc | apply Kd.R_drewN | apply Kd.R_drew)); exact Kd.R_mono HO440.out (fun _ hk => hk.2)⟩, ⟨by (with_reducible repeat (first | apply Kd.R_alloc | apply Kd.R_drewN | apply Kd.R_drew)); exact Kd.R_mono HO445.out (fun _ hk => hk.2)⟩, ⟨aa_3⟩, ⟨aa_6⟩, ⟨aa_4⟩, ⟨aa_1⟩⟩
 case rest =>
 as_aux_lemma =>
 clear HC58
 try clear c1
 try clear c2
 try clear p2
 try clear c3
 try clear c3b0
 try clear p3
 try clear q3
 try clear hx3
 try clear c4
 try clear c5
 try clear c5b0
 try clear c6
 try clear c6b0
 try clear c7
 try clear c8
 try clear c9
 try clear c11
 try clear c12
 try clear c13
 try clear c14
 try clear c15
 try clear c16
 try clear c17
 try clear c18
 try clear c18b0
 try clear c18b1
 try clear c20
 try clear c29
 try clear c30
 try clear c32
 try clear p32
 try clear q32
 try clear hx32
 try clear c42
 try clear c42b0
 try clear c42b1
 try clear c42b2
 try clear c43
 try clear c46
 try clear c47
 try clear c52
 try clear c52b0
 try clear c52b1
 try clear c53
 try clear c53b0
 try clear c53b1
 try clear c55
 try clear c63
 try clear c65
 try clear c66
 try clear hcz10_0
 try clear hcz10_1
 try clear hcz10_2
 try clear hcz10_3
 try clear hcz10_4
 try clear hcz25_0
 try clear hcz25_1
 try clear hcz25_2
 try clear hcz25_3
 try clear hcz25_4
 try clear hcz27_0
 try clear hcz27_1
 try clear hcz27_2
 try clear hcz27_3
 try clear hcz27_4
 try clear hcz31_0
 try clear hcz31_1
 try clear hcz31_2
 try clear hcz31_3
 try clear hcz31_4
 try clear hcz33_0
 try clear hcz33_1
 try clear hcz33_2
 try clear hcz33_3
 try clear hcz33_4
 try clear hcz37_0
 try clear hcz37_1
 try clear hcz37_2
 try clear hcz37_3
 try clear hcz37_4
 try clear hcz39_0
 try clear hcz39_1
 try clear hcz39_2
 try clear hcz39_3
 try clear hcz39_4
 try clear hcz48_0
 try clear hcz48_1
 try clear hcz48_2
 try clear hcz48_3
 try clear hcz48_4
 try clear hcz67_0
 try clear hcz67_1
 try clear hcz67_2
 try clear hcz67_3
 try clear hcz67_4
 try clear hfz10_0
 try clear hfz10_1
 try clear hfz10_2
 try clear hfz10_3
 try clear hfz10_4
 try clear hfz25_0
 try clear hfz25_1
 try clear hfz25_2
 try clear hfz25_3
 try clear hfz25_4
 try clear hfz27_0
 try clear hfz27_1
 try clear hfz27_2
 try clear hfz27_3
 try clear hfz27_4
 try clear hfz31_0
 try clear hfz31_1
 try clear hfz31_2
 try clear hfz31_3
 try clear hfz31_4
 try clear hfz33_0
 try clear hfz33_1
 try clear hfz33_2
 try clear hfz33_3
 try clear hfz33_4
 try clear hfz37_0
 try clear hfz37_1
 try clear hfz37_2
 try clear hfz37_3
 try clear hfz37_4
 try clear hfz39_0
 try clear hfz39_1
 try clear hfz39_2
 try clear hfz39_3
 try clear hfz39_4
 try clear hfz48_0
 try clear hfz48_1
 try clear hfz48_2
 try clear hfz48_3
 try clear hfz48_4
 try clear hfz67_0
 try clear hfz67_1
 try clear hfz67_2
 try clear hfz67_3
 try clear hfz67_4
 try clear hx325_0
 try clear hx325_1
 try clear hx325_2
 try clear hx325_3
 try clear hx325_4
 try clear p2
 try clear p3
 try clear p32
 try clear p325
 try clear q3
 try clear q32
 try clear q325
 obtain ⟨kq, x16_57, x7z_57, x8z_57, u7z, rfl, HA, HJ57, HO_5z, HO_7z, BK326, HI333, HI339, HB⟩ := hcut
 cases kq with
 | zero => exact absurd HA.out (by simp [j3])
 | succ kj57 =>
 have H := HA.out
 clear HA
 simp only [j3] at H
 have HC69 := am_ H
 clear H
 go_upto_region 22 with (fail)
 go_cut [163] (fun v163 wc => ∃ (kq : Nat) (x163_68 : Bool) (x5z_68 : List Int) (x6z_68 : Int) (x7z_68 : List Int) (x8z_68 : Int) (u5z : Value) (u7z : Value), v163 = .bool x163_68 ∧ Aside0 (j4 kq l0 x3_1 x163_68 ((rd_T26 l0 x3_1).f0) ((rd_T26 l0 x3_1).f1) ((rd_T26 l0 x3_1).f2) ((rd_T26 l0 x3_1).f3) ((rd_T26 l0 x3_1).f4) = some r) ∧ Aside0 (kq ≤ kj57) ∧ Aside0 (Kd.R (Kd.int .u8) 5 wc w.heap.size (fun k_ => some k_ ≠ (u7z : Value).ownBlock) u5z x5z_68) ∧ Aside0 (Kd.R (Kd.int .u8) 5 wc w.heap.size (fun k_ => some k_ ≠ (u5z : Value).ownBlock) u7z x7z_68) ∧ Aside0 (wc.heap[gb326]? = some (.cells #[(.slice A325_0 ((rd_T26 l0 x3_1).f0).length c325_0), .int .i64 ((rd_T26 l0 x3_1).f1), .int .i64 ((rd_T26 l0 x3_1).f2), (.slice A325_3 ((rd_T26 l0 x3_1).f3).length c325_3), (.slice A325_4 ((rd_T26 l0 x3_1).f4).length c325_4)] 26 (0, 0))) ∧ Aside0 (IsS72 w wc g333 u5z x6z_68) ∧ Aside0 (IsS57 w wc g339 u7z x8z_68) ∧ Aside0 (Below w.heap.size w wc))
 case first =>
  as_aux_lemma =>
  have H := HC69.out
  clear HC69
  replace H := bm_ H
  obtain ⟨t447, A700, H⟩ := H
  replace H : (if (t411 != (t447 == 0)) = true then (none) else (if t411 = true then (if t436 = x16_57 then ((gangwaylaw19_Same.f kj57 t438 t441 x7z_57 x8z_57).bind fun bt448 => (j4 kj57 l0 x3_1 (!bt448.1) ((rd_T26 l0 x3_1).f0) ((rd_T26 l0 x3_1).f1) ((rd_T26 l0 x3_1).f2) ((rd_T26 l0 x3_1).f3) ((rd_T26 l0 x3_1).f4))) else (none)) else (if t447 = 21 then (if t436 = x16_57 then ((gangwaylaw19_Same.f kj57 t438 t441 x7z_57 x8z_57).bind fun bt453 => (j4 kj57 l0 x3_1 (!bt453.1) ((rd_T26 l0 x3_1).f0) ((rd_T26 l0 x3_1).f1) ((rd_T26 l0 x3_1).f2) ((rd_T26 l0 x3_1).f3) ((rd_T26 l0 x3_1).f4))) else (none)) else (none)))) = some r := H
  have A70 := am_ A700
  clear A700
  by_cases c71 : (t411 != (t447 == 0)) = true
  ·rw [if_pos c71] at H
   exact absurd H (by simp)
  as_aux_lemma =>
  rw [if_neg c71] at H
  have c71b0 : (t411 != (t447 == 0)) = false := by simpa using c71
  (try (have c71b1 : decide (t411 = (t447 == 0)) = true := by simpa using c71))
  (try (have c71b2 : (t411 == (t447 == 0)) = true := by simpa using c71))
  clear c71
  (first | rw [c71b0] | (simp only [i64_w, i32_w]; rw [c71b0]) | skip)
  by_cases c72 : t411 = true
  ·subst c72
   have H1 : (if t436 = x16_57 then ((gangwaylaw19_Same.f kj57 t438 t441 x7z_57 x8z_57).bind fun bt448 => (j4 kj57 l0 x3_1 (!bt448.1) ((rd_T26 l0 x3_1).f0) ((rd_T26 l0 x3_1).f1) ((rd_T26 l0 x3_1).f2) ((rd_T26 l0 x3_1).f3) ((rd_T26 l0 x3_1).f4))) else (none)) = some r := by rw [if_pos rfl] at H; exact H
   clear H
   have H := H1
   clear H1
   by_cases c73 : t436 = x16_57
   rotate_left
   ·rw [if_neg c73] at H
    exact absurd H (by simp)
   rw [if_pos c73] at H
   have c73b0 : (t436 == x16_57) = true := beq_iff_eq.mpr c73
   have c73b1 : (t436 != x16_57) = false := bne_eq_false_iff_eq.mpr c73
   clear c73
   replace H := bm_ H
   obtain ⟨⟨t448, t449, t452⟩, A740, H⟩ := H
   replace H : (j4 kj57 l0 x3_1 (!t448) ((rd_T26 l0 x3_1).f0) ((rd_T26 l0 x3_1).f1) ((rd_T26 l0 x3_1).f2) ((rd_T26 l0 x3_1).f3) ((rd_T26 l0 x3_1).f4)) = some r := H
   have A74 := am_ A740
   clear A740
   have H' := am_ H
   clear H
   go_wp2_with (first | ((with_reducible refine gate_callee (f := 9) rfl ?_); refine goesL_ (some 141) rfl rfl Try.func9 (by kernel_rfl) rfl #[.int .i64 t437] rfl aa_0 ?_; (with_reducible refine (gangwaylaw19_num.calls t437 t447 _ A70.out).mono ?_); rintro e w' ⟨rfl, ⟨nd, rfl⟩⟩; refine ⟨_, rfl, ?_⟩; obtain ⟨Ao75, co75, eo75⟩ := Kd.R_slice HO_7z.out; subst eo75) | (go_at_call 18; (with_reducible refine (gangwaylaw19_Same.calls kj57 g333 (fun k_ => some k_ = (v439 : Value).ownBlock) v439 t438 t441 g339 Ao75 co75 x7z_57 x8z_57 t448 t449 t452 w _ ?side1 ?side2 ?side3 ?side4 ?side5 A74.out).mono ?_); (case side1 => exact aa_6); (case side2 => exact aa_1); (case side3 => exact Kd.R_tight rfl HO_5z.out); (case side4 => exact fun W_ hk_ => ⟨(IsS57.kept (show IsS57 w _ g339 (.slice Ao75 x7z_57.length co75) x8z_57 from by repeat (first | (with_reducible first | exact HI339.out | apply IsS57.alloc | apply IsS57.drewN | apply IsS57.drew | apply IsS57.set_0 | apply IsS57.set_1 | refine IsS57.far ?_ NB339_326.out _) | exact HI339.out)) hk_ (fun hs_ => Or.elim hs_ (fun hs_ => (fun e_ => (IsS57.own_ne HI339.out HO_5z.out (by decide)) e_) hs_) (fun e_ => NB339_333.out e_))).1, (Kd.C_kept_own ((IsS72.apart HI333.out HO_7z.out (by decide))) (fun k_ hk_ hs_ => Or.elim hs_ (fun hs_ => (hk_.1) hs_) (fun e_ => (hk_.2) e_))) W_ hk_⟩); (case side5 => exact (Kd.R_reads' HO_7z.out).2.1); rintro e w76 ⟨v450, rfl, ho0, hi, hb, hkp⟩; have n0_ := am_ (Kd.R_mono (ok' := fun k_ => some k_ ≠ (v450 : Value).ownBlock) (Kd.R_keptB ((IsS72.apart HI333.out HO_7z.out (by decide))) hkp (fun k_ hk_ hs_ => Or.elim hs_ (fun hs_ => (hk_.1) hs_) (fun e_ => (hk_.2) e_))) (fun k_ hk_ => fun e_ => Or.elim (ho0.1 k_ e_.symm) (fun hs_ => hk_.2.1 (.inl hs_)) (fun hn_ => Nat.not_le.2 hk_.2.2 hn_))); have n1_ := am_ (bkept BK326 aa_3 hkp (fun hs_ => Or.elim hs_ (fun hs_ => (fun e_ => (Kd.R_ne HO_5z.out BK326.out (by decide)) e_) hs_) (fun e_ => NB326_333.out e_))); have n2_ := am_ (hi); have n3_ := am_ (IsS57.kept aa_4 hkp (fun hs_ => Or.elim hs_ (fun hs_ => (fun e_ => (IsS57.own_ne HI339.out HO_5z.out (by decide)) e_) hs_) (fun e_ => NB339_333.out e_))); have n4_ := am_ (Kd.R_mono (ok' := fun k_ => some k_ ≠ (.slice Ao75 x7z_57.length co75 : Value).ownBlock) ho0 (fun k_ hk_ => Or.elim hk_ (fun hs_ => fun e_ => ((((IsS72.apart HI333.out HO_7z.out (by decide))).1 k_ e_.symm).1) hs_) (fun hn_ => (Kd.fresh' (Kd.R_lt aa_9) k_ hn_)))); have n5_ := am_ (hb); clear HO_7z; clear BK326; clear HI333; clear HI339; clear HB; clear HO_5z; have HO_7z := n0_; have BK326 := n1_; have HI333 := n2_; have HI339 := n3_; have HO451 := n4_; have HB := n5_; clear n0_ n1_ n2_ n3_ n4_ n5_; (try clear hb); (try clear hkp); (try clear ho0)))
   go_meet
   case rel => exact ⟨_, (!t448), (t449), (t452), (x7z_57), (x8z_57), (v450), (.slice Ao75 x7z_57.length co75), aa_5, H', ⟨by have := HK1.out; have := HJ1.out; have := HJ22.out; have := HJ57.out; first | omega | exact Nat.le_refl _⟩, ⟨by (with_reducible repeat (first | apply Kd.R_alloc | apply Kd.R_drewN | apply Kd.R_drew)); exact HO451.out⟩, ⟨aa_9⟩, ⟨aa_3⟩, ⟨aa_6⟩, ⟨aa_4⟩, ⟨aa_1⟩⟩
  replace c72 := Bool.eq_false_iff.mpr c72
  subst c72
  have H1 : (if t447 = 21 then (if t436 = x16_57 then ((gangwaylaw19_Same.f kj57 t438 t441 x7z_57 x8z_57).bind fun bt453 => (j4 kj57 l0 x3_1 (!bt453.1) ((rd_T26 l0 x3_1).f0) ((rd_T26 l0 x3_1).f1) ((rd_T26 l0 x3_1).f2) ((rd_T26 l0 x3_1).f3) ((rd_T26 l0 x3_1).f4))) else (none)) else (none)) = some r := by rw [if_neg (show ¬ (false = true) by decide)] at H; exact H
  clear H
  have H := H1
  clear H1
  by_cases c77 : t447 = 21
  rotate_left
  ·rw [if_neg c77] at H
   exact absurd H (by simp)
  rw [if_pos c77] at H
  have c77b0 : (t447 == 21) = true := beq_iff_eq.mpr c77
  have c77b1 : (t447 != 21) = false := bne_eq_false_iff_eq.mpr c77
  clear c77
  by_cases c78 : t436 = x16_57
  rotate_left
  ·rw [if_neg c78] at H
   exact absurd H (by simp)
  rw [if_pos c78] at H
  have c78b0 : (t436 == x16_57) = true := beq_iff_eq.mpr c78
  have c78b1 : (t436 != x16_57) = false := bne_eq_false_iff_eq.mpr c78
  clear c78
  replace H := bm_ H
  obtain ⟨⟨t453, t454, t457⟩, A790, H⟩ := H
  replace H : (j4 kj57 l0 x3_1 (!t453) ((rd_T26 l0 x3_1).f0) ((rd_T26 l0 x3_1).f1) ((rd_T26 l0 x3_1).f2) ((rd_T26 l0 x3_1).f3) ((rd_T26 l0 x3_1).f4)) = some r := H
  have A79 := am_ A790
  clear A790
  have H' := am_ H
  clear H
  go_wp2_with (first | ((with_reducible refine gate_callee (f := 9) rfl ?_); refine goesL_ (some 141) rfl rfl Try.func9 (by kernel_rfl) rfl #[.int .i64 t437] rfl aa_0 ?_; (with_reducible refine (gangwaylaw19_num.calls t437 t447 _ A70.out).mono ?_); rintro e w' ⟨rfl, ⟨nd, rfl⟩⟩; refine ⟨_, rfl, ?_⟩; obtain ⟨Ao80, co80, eo80⟩ := Kd.R_slice HO_7z.out; subst eo80) | (go_at_call 9; (with_reducible refine (gangwaylaw19_num.calls t437 t447 _ A70.out).mono ?_); rintro e w' ⟨rfl, ⟨nd, rfl⟩⟩) | (go_at_call 18; (with_reducible refine (gangwaylaw19_Same.calls kj57 g333 (fun k_ => some k_ = (v439 : Value).ownBlock) v439 t438 t441 g339 Ao80 co80 x7z_57 x8z_57 t453 t454 t457 w _ ?side1 ?side2 ?side3 ?side4 ?side5 A79.out).mono ?_); (case side1 => exact aa_6); (case side2 => exact aa_1); (case side3 => exact Kd.R_tight rfl HO_5z.out); (case side4 => exact fun W_ hk_ => ⟨(IsS57.kept (show IsS57 w _ g339 (.slice Ao80 x7z_57.length co80) x8z_57 from by repeat (first | (with_reducible first | exact HI339.out | apply IsS57.alloc | apply IsS57.drewN | apply IsS57.drew | apply IsS57.set_0 | apply IsS57.set_1 | refine IsS57.far ?_ NB339_326.out _) | exact HI339.out)) hk_ (fun hs_ => Or.elim hs_ (fun hs_ => (fun e_ => (IsS57.own_ne HI339.out HO_5z.out (by decide)) e_) hs_) (fun e_ => NB339_333.out e_))).1, (Kd.C_kept_own ((IsS72.apart HI333.out HO_7z.out (by decide))) (fun k_ hk_ hs_ => Or.elim hs_ (fun hs_ => (hk_.1) hs_) (fun e_ => (hk_.2) e_))) W_ hk_⟩); (case side5 => exact (Kd.R_reads' HO_7z.out).2.1); rintro e w81 ⟨v455, rfl, ho0, hi, hb, hkp⟩; have n0_ := am_ (Kd.R_mono (ok' := fun k_ => some k_ ≠ (v455 : Value).ownBlock) (Kd.R_keptB ((IsS72.apart HI333.out HO_7z.out (by decide))) hkp (fun k_ hk_ hs_ => Or.elim hs_ (fun hs_ => (hk_.1) hs_) (fun e_ => (hk_.2) e_))) (fun k_ hk_ => fun e_ => Or.elim (ho0.1 k_ e_.symm) (fun hs_ => hk_.2.1 (.inl hs_)) (fun hn_ => Nat.not_le.2 hk_.2.2 hn_))); have n1_ := am_ (bkept BK326 aa_3 hkp (fun hs_ => Or.elim hs_ (fun hs_ => (fun e_ => (Kd.R_ne HO_5z.out BK326.out (by decide)) e_) hs_) (fun e_ => NB326_333.out e_))); have n2_ := am_ (hi); have n3_ := am_ (IsS57.kept aa_4 hkp (fun hs_ => Or.elim hs_ (fun hs_ => (fun e_ => (IsS57.own_ne HI339.out HO_5z.out (by decide)) e_) hs_) (fun e_ => NB339_333.out e_))); have n4_ := am_ (Kd.R_mono (ok' := fun k_ => some k_ ≠ (.slice Ao80 x7z_57.length co80 : Value).ownBlock) ho0 (fun k_ hk_ => Or.elim hk_ (fun hs_ => fun e_ => ((((IsS72.apart HI333.out HO_7z.out (by decide))).1 k_ e_.symm).1) hs_) (fun hn_ => (Kd.fresh' (Kd.R_lt aa_9) k_ hn_)))); have n5_ := am_ (hb); clear HO_7z; clear BK326; clear HI333; clear HI339; clear HB; clear HO_5z; have HO_7z := n0_; have BK326 := n1_; have HI333 := n2_; have HI339 := n3_; have HO456 := n4_; have HB := n5_; clear n0_ n1_ n2_ n3_ n4_ n5_; (try clear hb); (try clear hkp); (try clear ho0)))
  go_meet
  case rel => exact ⟨_, (!t453), (t454), (t457), (x7z_57), (x8z_57), (v455), (.slice Ao80 x7z_57.length co80), aa_5, H', ⟨by have := HK1.out; have := HJ1.out; have := HJ22.out; have := HJ57.out; first | omega | exact Nat.le_refl _⟩, ⟨by (with_reducible repeat (first | apply Kd.R_alloc | apply Kd.R_drewN | apply Kd.R_drew)); exact HO456.out⟩, ⟨aa_9⟩, ⟨aa_3⟩, ⟨aa_6⟩, ⟨aa_4⟩, ⟨aa_1⟩⟩
 case rest =>
 as_aux_lemma =>
 clear HC69
 try clear c1
 try clear c2
 try clear p2
 try clear c3
 try clear c3b0
 try clear p3
 try clear q3
 try clear hx3
 try clear c4
 try clear c5
 try clear c5b0
 try clear c6
 try clear c6b0
 try clear c7
 try clear c8
 try clear c9
 try clear c11
 try clear c12
 try clear c13
 try clear c14
 try clear c15
 try clear c16
 try clear c17
 try clear c18
 try clear c18b0
 try clear c18b1
 try clear c20
 try clear c29
 try clear c30
 try clear c32
 try clear p32
 try clear q32
 try clear hx32
 try clear c42
 try clear c42b0
 try clear c42b1
 try clear c42b2
 try clear c43
 try clear c46
 try clear c47
 try clear c52
 try clear c52b0
 try clear c52b1
 try clear c53
 try clear c53b0
 try clear c53b1
 try clear c55
 try clear c63
 try clear c65
 try clear c66
 try clear c71
 try clear c71b0
 try clear c71b1
 try clear c71b2
 try clear c72
 try clear c73
 try clear c73b0
 try clear c73b1
 try clear c77
 try clear c77b0
 try clear c77b1
 try clear c78
 try clear c78b0
 try clear c78b1
 try clear hcz10_0
 try clear hcz10_1
 try clear hcz10_2
 try clear hcz10_3
 try clear hcz10_4
 try clear hcz25_0
 try clear hcz25_1
 try clear hcz25_2
 try clear hcz25_3
 try clear hcz25_4
 try clear hcz27_0
 try clear hcz27_1
 try clear hcz27_2
 try clear hcz27_3
 try clear hcz27_4
 try clear hcz31_0
 try clear hcz31_1
 try clear hcz31_2
 try clear hcz31_3
 try clear hcz31_4
 try clear hcz33_0
 try clear hcz33_1
 try clear hcz33_2
 try clear hcz33_3
 try clear hcz33_4
 try clear hcz37_0
 try clear hcz37_1
 try clear hcz37_2
 try clear hcz37_3
 try clear hcz37_4
 try clear hcz39_0
 try clear hcz39_1
 try clear hcz39_2
 try clear hcz39_3
 try clear hcz39_4
 try clear hcz48_0
 try clear hcz48_1
 try clear hcz48_2
 try clear hcz48_3
 try clear hcz48_4
 try clear hcz67_0
 try clear hcz67_1
 try clear hcz67_2
 try clear hcz67_3
 try clear hcz67_4
 try clear hfz10_0
 try clear hfz10_1
 try clear hfz10_2
 try clear hfz10_3
 try clear hfz10_4
 try clear hfz25_0
 try clear hfz25_1
 try clear hfz25_2
 try clear hfz25_3
 try clear hfz25_4
 try clear hfz27_0
 try clear hfz27_1
 try clear hfz27_2
 try clear hfz27_3
 try clear hfz27_4
 try clear hfz31_0
 try clear hfz31_1
 try clear hfz31_2
 try clear hfz31_3
 try clear hfz31_4
 try clear hfz33_0
 try clear hfz33_1
 try clear hfz33_2
 try clear hfz33_3
 try clear hfz33_4
 try clear hfz37_0
 try clear hfz37_1
 try clear hfz37_2
 try clear hfz37_3
 try clear hfz37_4
 try clear hfz39_0
 try clear hfz39_1
 try clear hfz39_2
 try clear hfz39_3
 try clear hfz39_4
 try clear hfz48_0
 try clear hfz48_1
 try clear hfz48_2
 try clear hfz48_3
 try clear hfz48_4
 try clear hfz67_0
 try clear hfz67_1
 try clear hfz67_2
 try clear hfz67_3
 try clear hfz67_4
 try clear hx325_0
 try clear hx325_1
 try clear hx325_2
 try clear hx325_3
 try clear hx325_4
 try clear p2
 try clear p3
 try clear p32
 try clear p325
 try clear q3
 try clear q32
 try clear q325
 obtain ⟨kq, x163_68, x5z_68, x6z_68, x7z_68, x8z_68, u5z, u7z, rfl, HA, HJ68, HO_5z, HO_7z, BK326, HI333, HI339, HB⟩ := hcut
 cases kq with
 | zero => exact absurd HA.out (by simp [j4])
 | succ kj68 =>
 have H := HA.out
 clear HA
 simp only [j4] at H
 by_cases c82 : x163_68 = true
 ·subst c82
  have H1 : (none) = some r := by rw [if_pos rfl] at H; exact H
  clear H
  have H := H1
  clear H1
  exact absurd H (by simp)
 as_aux_lemma =>
 replace c82 := Bool.eq_false_iff.mpr c82
 subst c82
 have H1 : (gangwaylaw19_IovExact.l1 kj68 l0 x3_1 false 0 0 ((rd_T26 l0 x3_1).f0) ((rd_T26 l0 x3_1).f1) ((rd_T26 l0 x3_1).f2) ((rd_T26 l0 x3_1).f3) ((rd_T26 l0 x3_1).f4)) = some r := by rw [if_neg (show ¬ (false = true) by decide)] at H; exact H
 clear H
 have H := H1
 clear H1
 have H' := am_ H
 clear H
 go_wp2
 go_loopg [17, 18, 19] kj68 (fun kq v17 v18 v19 w' => ∃ (x17_6 : Bool) (x18_6 : Int) (x19_6 : Int), v17 = .bool x17_6 ∧ v18 = .int .i64 x18_6 ∧ v19 = .int .i64 x19_6 ∧ Aside0 (gangwaylaw19_IovExact.l1 kq l0 x3_1 x17_6 x18_6 x19_6 ((rd_T26 l0 x3_1).f0) ((rd_T26 l0 x3_1).f1) ((rd_T26 l0 x3_1).f2) ((rd_T26 l0 x3_1).f3) ((rd_T26 l0 x3_1).f4) = some r) ∧ Aside0 (kq ≤ kj68) ∧ Aside0 (Kd.R (Kd.int .u8) 5 w' w.heap.size (fun k_ => some k_ ≠ (u7z : Value).ownBlock) u5z x5z_68) ∧ Aside0 (Kd.R (Kd.int .u8) 5 w' w.heap.size (fun k_ => some k_ ≠ (u5z : Value).ownBlock) u7z x7z_68) ∧ Aside0 (w'.heap[gb326]? = some (.cells #[(.slice A325_0 ((rd_T26 l0 x3_1).f0).length c325_0), .int .i64 ((rd_T26 l0 x3_1).f1), .int .i64 ((rd_T26 l0 x3_1).f2), (.slice A325_3 ((rd_T26 l0 x3_1).f3).length c325_3), (.slice A325_4 ((rd_T26 l0 x3_1).f4).length c325_4)] 26 (0, 0))) ∧ Aside0 (IsS72 w w' g333 u5z x6z_68) ∧ Aside0 (IsS57 w w' g339 u7z x8z_68) ∧ Aside0 (Below w.heap.size w w'))
 case atStart => exact ⟨(false), (0), (0), aa_5, aa_5, aa_5, H', ⟨Nat.le_refl _⟩, ⟨aa_10⟩, ⟨aa_9⟩, ⟨aa_3⟩, ⟨aa_6⟩, ⟨aa_4⟩, ⟨aa_1⟩⟩
 case round =>
 as_aux_lemma =>
 clear H'
 try clear c1
 try clear c2
 try clear p2
 try clear c3
 try clear c3b0
 try clear p3
 try clear q3
 try clear hx3
 try clear c4
 try clear c5
 try clear c5b0
 try clear c6
 try clear c6b0
 try clear c7
 try clear c8
 try clear c9
 try clear c11
 try clear c12
 try clear c13
 try clear c14
 try clear c15
 try clear c16
 try clear c17
 try clear c18
 try clear c18b0
 try clear c18b1
 try clear c20
 try clear c29
 try clear c30
 try clear c32
 try clear p32
 try clear q32
 try clear hx32
 try clear c42
 try clear c42b0
 try clear c42b1
 try clear c42b2
 try clear c43
 try clear c46
 try clear c47
 try clear c52
 try clear c52b0
 try clear c52b1
 try clear c53
 try clear c53b0
 try clear c53b1
 try clear c55
 try clear c63
 try clear c65
 try clear c66
 try clear c71
 try clear c71b0
 try clear c71b1
 try clear c71b2
 try clear c72
 try clear c73
 try clear c73b0
 try clear c73b1
 try clear c77
 try clear c77b0
 try clear c77b1
 try clear c78
 try clear c78b0
 try clear c78b1
 try clear c82
 try clear hcz10_0
 try clear hcz10_1
 try clear hcz10_2
 try clear hcz10_3
 try clear hcz10_4
 try clear hcz25_0
 try clear hcz25_1
 try clear hcz25_2
 try clear hcz25_3
 try clear hcz25_4
 try clear hcz27_0
 try clear hcz27_1
 try clear hcz27_2
 try clear hcz27_3
 try clear hcz27_4
 try clear hcz31_0
 try clear hcz31_1
 try clear hcz31_2
 try clear hcz31_3
 try clear hcz31_4
 try clear hcz33_0
 try clear hcz33_1
 try clear hcz33_2
 try clear hcz33_3
 try clear hcz33_4
 try clear hcz37_0
 try clear hcz37_1
 try clear hcz37_2
 try clear hcz37_3
 try clear hcz37_4
 try clear hcz39_0
 try clear hcz39_1
 try clear hcz39_2
 try clear hcz39_3
 try clear hcz39_4
 try clear hcz48_0
 try clear hcz48_1
 try clear hcz48_2
 try clear hcz48_3
 try clear hcz48_4
 try clear hcz67_0
 try clear hcz67_1
 try clear hcz67_2
 try clear hcz67_3
 try clear hcz67_4
 try clear hfz10_0
 try clear hfz10_1
 try clear hfz10_2
 try clear hfz10_3
 try clear hfz10_4
 try clear hfz25_0
 try clear hfz25_1
 try clear hfz25_2
 try clear hfz25_3
 try clear hfz25_4
 try clear hfz27_0
 try clear hfz27_1
 try clear hfz27_2
 try clear hfz27_3
 try clear hfz27_4
 try clear hfz31_0
 try clear hfz31_1
 try clear hfz31_2
 try clear hfz31_3
 try clear hfz31_4
 try clear hfz33_0
 try clear hfz33_1
 try clear hfz33_2
 try clear hfz33_3
 try clear hfz33_4
 try clear hfz37_0
 try clear hfz37_1
 try clear hfz37_2
 try clear hfz37_3
 try clear hfz37_4
 try clear hfz39_0
 try clear hfz39_1
 try clear hfz39_2
 try clear hfz39_3
 try clear hfz39_4
 try clear hfz48_0
 try clear hfz48_1
 try clear hfz48_2
 try clear hfz48_3
 try clear hfz48_4
 try clear hfz67_0
 try clear hfz67_1
 try clear hfz67_2
 try clear hfz67_3
 try clear hfz67_4
 try clear hx325_0
 try clear hx325_1
 try clear hx325_2
 try clear hx325_3
 try clear hx325_4
 try clear p2
 try clear p3
 try clear p32
 try clear p325
 try clear q3
 try clear q32
 try clear q325
 obtain ⟨x17_6, x18_6, x19_6, rfl, rfl, rfl, HA, HK6, HO_5z, HO_7z, BK326, HI333, HI339, HB⟩ := hrel
 cases gk with
 | zero => exact absurd HA.out (by simp [gangwaylaw19_IovExact.l1])
 | succ k6 =>
 have H := HA.out
 clear HA
 simp only [gangwaylaw19_IovExact.l1] at H
 by_cases c83 : x19_6 < (((rd_T26 l0 x3_1).f3).length : Int)
 ·as_aux_lemma =>
  rw [if_pos c83] at H
  have c83b0 : decide (x19_6 < (((rd_T26 l0 x3_1).f3).length : Int)) = true := decide_eq_true c83
  clear c83
  by_cases c84 : x17_6 = true
  ·subst c84
   have H1 : (gangwaylaw19_IovExact.l1 k6 l0 x3_1 true x18_6 (wrap64 (x19_6 + 1)) ((rd_T26 l0 x3_1).f0) ((rd_T26 l0 x3_1).f1) ((rd_T26 l0 x3_1).f2) ((rd_T26 l0 x3_1).f3) ((rd_T26 l0 x3_1).f4)) = some r := by rw [if_pos rfl] at H; exact H
   clear H
   have H := H1
   clear H1
   have H' := am_ H
   clear H
   have hnb85 := NB326_333.out
   have hnc85 := NB333_326.out
   have hnb86 := NB326_339.out
   have hnc86 := NB339_326.out
   have hcz87_0 : wr.cell? ⟨gb326, 0, none⟩ = some (.slice A325_0 ((rd_T26 l0 x3_1).f0).length c325_0) := bc BK326 0
   have hcz87_1 : wr.cell? ⟨gb326, 1, none⟩ = some (.int .i64 ((rd_T26 l0 x3_1).f1)) := bc BK326 1
   have hcz87_2 : wr.cell? ⟨gb326, 2, none⟩ = some (.int .i64 ((rd_T26 l0 x3_1).f2)) := bc BK326 2
   have hcz87_3 : wr.cell? ⟨gb326, 3, none⟩ = some (.slice A325_3 ((rd_T26 l0 x3_1).f3).length c325_3) := bc BK326 3
   have hcz87_4 : wr.cell? ⟨gb326, 4, none⟩ = some (.slice A325_4 ((rd_T26 l0 x3_1).f4).length c325_4) := bc BK326 4
   have hfz87_0 := blk_frozen BK326.out 0
   have hfz87_1 := blk_frozen BK326.out 1
   have hfz87_2 := blk_frozen BK326.out 2
   have hfz87_3 := blk_frozen BK326.out 3
   have hfz87_4 := blk_frozen BK326.out 4
   go_wp2
   go_roundg k6
   case measure => have := HK1.out; have := HJ1.out; have := HJ22.out; have := HJ57.out; have := HJ68.out; have := HK6.out; omega
   case rel => exact ⟨(true), (x18_6), (wrap64 (x19_6 + 1)), aa_5, aa_5, aa_5, H', ⟨by have := HK1.out; have := HJ1.out; have := HJ22.out; have := HJ57.out; have := HJ68.out; have := HK6.out; omega⟩, ⟨aa_10⟩, ⟨aa_9⟩, ⟨aa_3⟩, ⟨aa_6⟩, ⟨aa_4⟩, ⟨aa_1⟩⟩
  as_aux_lemma =>
  replace c84 := Bool.eq_false_iff.mpr c84
  subst c84
  have H1 : (if 0 ≤ x19_6 then (if ((rd_T50 ((rd_T26 l0 x3_1).f3) x19_6).f1) < 0 then (gangwaylaw19_IovExact.l1 k6 l0 x3_1 true x18_6 (wrap64 (x19_6 + 1)) ((rd_T26 l0 x3_1).f0) ((rd_T26 l0 x3_1).f1) ((rd_T26 l0 x3_1).f2) ((rd_T26 l0 x3_1).f3) ((rd_T26 l0 x3_1).f4)) else (if ((rd_T50 ((rd_T26 l0 x3_1).f3) x19_6).f1) > 1099511627776 then (gangwaylaw19_IovExact.l1 k6 l0 x3_1 true x18_6 (wrap64 (x19_6 + 1)) ((rd_T26 l0 x3_1).f0) ((rd_T26 l0 x3_1).f1) ((rd_T26 l0 x3_1).f2) ((rd_T26 l0 x3_1).f3) ((rd_T26 l0 x3_1).f4)) else (if x18_6 > 1099511627776 then (gangwaylaw19_IovExact.l1 k6 l0 x3_1 (decide (x18_6 > 1099511627776)) x18_6 (wrap64 (x19_6 + 1)) ((rd_T26 l0 x3_1).f0) ((rd_T26 l0 x3_1).f1) ((rd_T26 l0 x3_1).f2) ((rd_T26 l0 x3_1).f3) ((rd_T26 l0 x3_1).f4)) else (gangwaylaw19_IovExact.l1 k6 l0 x3_1 (decide (x18_6 > 1099511627776)) (wrap64 (x18_6 + ((rd_T50 ((rd_T26 l0 x3_1).f3) x19_6).f1))) (wrap64 (x19_6 + 1)) ((rd_T26 l0 x3_1).f0) ((rd_T26 l0 x3_1).f1) ((rd_T26 l0 x3_1).f2) ((rd_T26 l0 x3_1).f3) ((rd_T26 l0 x3_1).f4))))) else (none)) = some r := by rw [if_neg (show ¬ (false = true) by decide)] at H; exact H
  clear H
  have H := H1
  clear H1
  by_cases c88 : 0 ≤ x19_6
  rotate_left
  ·rw [if_neg c88] at H
   exact absurd H (by simp)
  as_aux_lemma =>
  rw [if_pos c88] at H
  have c88b0 : decide (0 ≤ x19_6) = true := decide_eq_true c88
  clear c88
  by_cases c89 : ((rd_T50 ((rd_T26 l0 x3_1).f3) x19_6).f1) < 0
  ·rw [if_pos c89] at H
   have c89b0 : decide (((rd_T50 ((rd_T26 l0 x3_1).f3) x19_6).f1) < 0) = true := decide_eq_true c89
   clear c89
   have H' := am_ H
   clear H
   have hnb90 := NB326_333.out
   have hnc90 := NB333_326.out
   have hnb91 := NB326_339.out
   have hnc91 := NB339_326.out
   have hcz92_0 : wr.cell? ⟨gb326, 0, none⟩ = some (.slice A325_0 ((rd_T26 l0 x3_1).f0).length c325_0) := bc BK326 0
   have hcz92_1 : wr.cell? ⟨gb326, 1, none⟩ = some (.int .i64 ((rd_T26 l0 x3_1).f1)) := bc BK326 1
   have hcz92_2 : wr.cell? ⟨gb326, 2, none⟩ = some (.int .i64 ((rd_T26 l0 x3_1).f2)) := bc BK326 2
   have hcz92_3 : wr.cell? ⟨gb326, 3, none⟩ = some (.slice A325_3 ((rd_T26 l0 x3_1).f3).length c325_3) := bc BK326 3
   have hcz92_4 : wr.cell? ⟨gb326, 4, none⟩ = some (.slice A325_4 ((rd_T26 l0 x3_1).f4).length c325_4) := bc BK326 4
   have hfz92_0 := blk_frozen BK326.out 0
   have hfz92_1 := blk_frozen BK326.out 1
   have hfz92_2 := blk_frozen BK326.out 2
   have hfz92_3 := blk_frozen BK326.out 3
   have hfz92_4 := blk_frozen BK326.out 4
   have p458 : 0 ≤ (x19_6 : Int) := of_decide_eq_true aa_8
   have q458 : x19_6 < (((rd_T26 l0 x3_1).f3).length : Int) := of_decide_eq_true aa_8
   obtain ⟨ad458, e458, hx458_0, hx458_1⟩ := at_T50 HR325_3.out x19_6 p458 q458
   cases e458
   replace hx458_0 := up HB hx458_0
   replace hx458_1 := up HB hx458_1
   replace p458 := eq_true p458
   replace q458 := eq_true q458
   go_wp2
   go_roundg k6
   case measure => have := HK1.out; have := HJ1.out; have := HJ22.out; have := HJ57.out; have := HJ68.out; have := HK6.out; omega
   case rel => exact ⟨(true), (x18_6), (wrap64 (x19_6 + 1)), aa_5, aa_5, aa_5, H', ⟨by have := HK1.out; have := HJ1.out; have := HJ22.out; have := HJ57.out; have := HJ68.out; have := HK6.out; omega⟩, ⟨aa_10⟩, ⟨aa_9⟩, ⟨aa_3⟩, ⟨aa_6⟩, ⟨aa_4⟩, ⟨aa_1⟩⟩
  as_aux_lemma =>
  rw [if_neg c89] at H
  have c89b0 : decide (((rd_T50 ((rd_T26 l0 x3_1).f3) x19_6).f1) < 0) = false := decide_eq_false c89
  clear c89
  by_cases c93 : ((rd_T50 ((rd_T26 l0 x3_1).f3) x19_6).f1) > 1099511627776
  ·rw [if_pos c93] at H
   have c93b0 : decide (1099511627776 < ((rd_T50 ((rd_T26 l0 x3_1).f3) x19_6).f1)) = true := decide_eq_true c93
   clear c93
   have H' := am_ H
   clear H
   have hnb94 := NB326_333.out
   have hnc94 := NB333_326.out
   have hnb95 := NB326_339.out
   have hnc95 := NB339_326.out
   have hcz96_0 : wr.cell? ⟨gb326, 0, none⟩ = some (.slice A325_0 ((rd_T26 l0 x3_1).f0).length c325_0) := bc BK326 0
   have hcz96_1 : wr.cell? ⟨gb326, 1, none⟩ = some (.int .i64 ((rd_T26 l0 x3_1).f1)) := bc BK326 1
   have hcz96_2 : wr.cell? ⟨gb326, 2, none⟩ = some (.int .i64 ((rd_T26 l0 x3_1).f2)) := bc BK326 2
   have hcz96_3 : wr.cell? ⟨gb326, 3, none⟩ = some (.slice A325_3 ((rd_T26 l0 x3_1).f3).length c325_3) := bc BK326 3
   have hcz96_4 : wr.cell? ⟨gb326, 4, none⟩ = some (.slice A325_4 ((rd_T26 l0 x3_1).f4).length c325_4) := bc BK326 4
   have hfz96_0 := blk_frozen BK326.out 0
   have hfz96_1 := blk_frozen BK326.out 1
   have hfz96_2 := blk_frozen BK326.out 2
   have hfz96_3 := blk_frozen BK326.out 3
   have hfz96_4 := blk_frozen BK326.out 4
   have p458 : 0 ≤ (x19_6 : Int) := of_decide_eq_true aa_8
   have q458 : x19_6 < (((rd_T26 l0 x3_1).f3).length : Int) := of_decide_eq_true aa_8
   obtain ⟨ad458, e458, hx458_0, hx458_1⟩ := at_T50 HR325_3.out x19_6 p458 q458
   cases e458
   replace hx458_0 := up HB hx458_0
   replace hx458_1 := up HB hx458_1
   replace p458 := eq_true p458
   replace q458 := eq_true q458
   have p459 : 0 ≤ (x19_6 : Int) := of_decide_eq_true aa_8
   have q459 : x19_6 < (((rd_T26 l0 x3_1).f3).length : Int) := of_decide_eq_true aa_8
   obtain ⟨ad459, e459, hx459_0, hx459_1⟩ := at_T50 HR325_3.out x19_6 p459 q459
   obtain rfl : ad458 = ad459 := (by injection e459)
   replace hx459_0 := up HB hx459_0
   replace hx459_1 := up HB hx459_1
   replace p459 := eq_true p459
   replace q459 := eq_true q459
   go_wp2
   go_roundg k6
   case measure => have := HK1.out; have := HJ1.out; have := HJ22.out; have := HJ57.out; have := HJ68.out; have := HK6.out; omega
   case rel => exact ⟨(true), (x18_6), (wrap64 (x19_6 + 1)), aa_5, aa_5, aa_5, H', ⟨by have := HK1.out; have := HJ1.out; have := HJ22.out; have := HJ57.out; have := HJ68.out; have := HK6.out; omega⟩, ⟨aa_10⟩, ⟨aa_9⟩, ⟨aa_3⟩, ⟨aa_6⟩, ⟨aa_4⟩, ⟨aa_1⟩⟩
  as_aux_lemma =>
  rw [if_neg c93] at H
  have c93b0 : decide (1099511627776 < ((rd_T50 ((rd_T26 l0 x3_1).f3) x19_6).f1)) = false := decide_eq_false c93
  clear c93
  by_cases c97 : x18_6 > 1099511627776
  ·rw [if_pos c97] at H
   have c97b0 : decide (1099511627776 < x18_6) = true := decide_eq_true c97
   clear c97
   have H' := am_ H
   clear H
   have hnb98 := NB326_333.out
   have hnc98 := NB333_326.out
   have hnb99 := NB326_339.out
   have hnc99 := NB339_326.out
   have hcz100_0 : wr.cell? ⟨gb326, 0, none⟩ = some (.slice A325_0 ((rd_T26 l0 x3_1).f0).length c325_0) := bc BK326 0
   have hcz100_1 : wr.cell? ⟨gb326, 1, none⟩ = some (.int .i64 ((rd_T26 l0 x3_1).f1)) := bc BK326 1
   have hcz100_2 : wr.cell? ⟨gb326, 2, none⟩ = some (.int .i64 ((rd_T26 l0 x3_1).f2)) := bc BK326 2
   have hcz100_3 : wr.cell? ⟨gb326, 3, none⟩ = some (.slice A325_3 ((rd_T26 l0 x3_1).f3).length c325_3) := bc BK326 3
   have hcz100_4 : wr.cell? ⟨gb326, 4, none⟩ = some (.slice A325_4 ((rd_T26 l0 x3_1).f4).length c325_4) := bc BK326 4
   have hfz100_0 := blk_frozen BK326.out 0
   have hfz100_1 := blk_frozen BK326.out 1
   have hfz100_2 := blk_frozen BK326.out 2
   have hfz100_3 := blk_frozen BK326.out 3
   have hfz100_4 := blk_frozen BK326.out 4
   have p458 : 0 ≤ (x19_6 : Int) := of_decide_eq_true aa_8
   have q458 : x19_6 < (((rd_T26 l0 x3_1).f3).length : Int) := of_decide_eq_true aa_8
   obtain ⟨ad458, e458, hx458_0, hx458_1⟩ := at_T50 HR325_3.out x19_6 p458 q458
   cases e458
   replace hx458_0 := up HB hx458_0
   replace hx458_1 := up HB hx458_1
   replace p458 := eq_true p458
   replace q458 := eq_true q458
   have p459 : 0 ≤ (x19_6 : Int) := of_decide_eq_true aa_8
   have q459 : x19_6 < (((rd_T26 l0 x3_1).f3).length : Int) := of_decide_eq_true aa_8
   obtain ⟨ad459, e459, hx459_0, hx459_1⟩ := at_T50 HR325_3.out x19_6 p459 q459
   obtain rfl : ad458 = ad459 := (by injection e459)
   replace hx459_0 := up HB hx459_0
   replace hx459_1 := up HB hx459_1
   replace p459 := eq_true p459
   replace q459 := eq_true q459
   go_wp2
   go_roundg k6
   case measure => have := HK1.out; have := HJ1.out; have := HJ22.out; have := HJ57.out; have := HJ68.out; have := HK6.out; omega
   case rel => exact ⟨(decide (x18_6 > 1099511627776)), (x18_6), (wrap64 (x19_6 + 1)), aa_5, aa_5, aa_5, H', ⟨by have := HK1.out; have := HJ1.out; have := HJ22.out; have := HJ57.out; have := HJ68.out; have := HK6.out; omega⟩, ⟨aa_10⟩, ⟨aa_9⟩, ⟨aa_3⟩, ⟨aa_6⟩, ⟨aa_4⟩, ⟨aa_1⟩⟩
  as_aux_lemma =>
  rw [if_neg c97] at H
  have c97b0 : decide (1099511627776 < x18_6) = false := decide_eq_false c97
  clear c97
  have H' := am_ H
  clear H
  have hnb101 := NB326_333.out
  have hnc101 := NB333_326.out
  have hnb102 := NB326_339.out
  have hnc102 := NB339_326.out
  have hcz103_0 : wr.cell? ⟨gb326, 0, none⟩ = some (.slice A325_0 ((rd_T26 l0 x3_1).f0).length c325_0) := bc BK326 0
  have hcz103_1 : wr.cell? ⟨gb326, 1, none⟩ = some (.int .i64 ((rd_T26 l0 x3_1).f1)) := bc BK326 1
  have hcz103_2 : wr.cell? ⟨gb326, 2, none⟩ = some (.int .i64 ((rd_T26 l0 x3_1).f2)) := bc BK326 2
  have hcz103_3 : wr.cell? ⟨gb326, 3, none⟩ = some (.slice A325_3 ((rd_T26 l0 x3_1).f3).length c325_3) := bc BK326 3
  have hcz103_4 : wr.cell? ⟨gb326, 4, none⟩ = some (.slice A325_4 ((rd_T26 l0 x3_1).f4).length c325_4) := bc BK326 4
  have hfz103_0 := blk_frozen BK326.out 0
  have hfz103_1 := blk_frozen BK326.out 1
  have hfz103_2 := blk_frozen BK326.out 2
  have hfz103_3 := blk_frozen BK326.out 3
  have hfz103_4 := blk_frozen BK326.out 4
  have p458 : 0 ≤ (x19_6 : Int) := of_decide_eq_true aa_8
  have q458 : x19_6 < (((rd_T26 l0 x3_1).f3).length : Int) := of_decide_eq_true aa_8
  obtain ⟨ad458, e458, hx458_0, hx458_1⟩ := at_T50 HR325_3.out x19_6 p458 q458
  cases e458
  replace hx458_0 := up HB hx458_0
  replace hx458_1 := up HB hx458_1
  replace p458 := eq_true p458
  replace q458 := eq_true q458
  have p459 : 0 ≤ (x19_6 : Int) := of_decide_eq_true aa_8
  have q459 : x19_6 < (((rd_T26 l0 x3_1).f3).length : Int) := of_decide_eq_true aa_8
  obtain ⟨ad459, e459, hx459_0, hx459_1⟩ := at_T50 HR325_3.out x19_6 p459 q459
  obtain rfl : ad458 = ad459 := (by injection e459)
  replace hx459_0 := up HB hx459_0
  replace hx459_1 := up HB hx459_1
  replace p459 := eq_true p459
  replace q459 := eq_true q459
  have p460 : 0 ≤ (x19_6 : Int) := of_decide_eq_true aa_8
  have q460 : x19_6 < (((rd_T26 l0 x3_1).f3).length : Int) := of_decide_eq_true aa_8
  obtain ⟨ad460, e460, hx460_0, hx460_1⟩ := at_T50 HR325_3.out x19_6 p460 q460
  obtain rfl : ad458 = ad460 := (by injection e460)
  replace hx460_0 := up HB hx460_0
  replace hx460_1 := up HB hx460_1
  replace p460 := eq_true p460
  replace q460 := eq_true q460
  go_wp2
  go_roundg k6
  case measure => have := HK1.out; have := HJ1.out; have := HJ22.out; have := HJ57.out; have := HJ68.out; have := HK6.out; omega
  case rel => exact ⟨(decide (x18_6 > 1099511627776)), (wrap64 (x18_6 + ((rd_T50 ((rd_T26 l0 x3_1).f3) x19_6).f1))), (wrap64 (x19_6 + 1)), aa_5, aa_5, aa_5, H', ⟨by have := HK1.out; have := HJ1.out; have := HJ22.out; have := HJ57.out; have := HJ68.out; have := HK6.out; omega⟩, ⟨aa_10⟩, ⟨aa_9⟩, ⟨aa_3⟩, ⟨aa_6⟩, ⟨aa_4⟩, ⟨aa_1⟩⟩
 as_aux_lemma =>
 rw [if_neg c83] at H
 have c83b0 : decide (x19_6 < (((rd_T26 l0 x3_1).f3).length : Int)) = false := decide_eq_false c83
 clear c83
 have HC104 := am_ H
 clear H
 have hnb105 := NB326_333.out
 have hnc105 := NB333_326.out
 have hnb106 := NB326_339.out
 have hnc106 := NB339_326.out
 have hcz107_0 : wr.cell? ⟨gb326, 0, none⟩ = some (.slice A325_0 ((rd_T26 l0 x3_1).f0).length c325_0) := bc BK326 0
 have hcz107_1 : wr.cell? ⟨gb326, 1, none⟩ = some (.int .i64 ((rd_T26 l0 x3_1).f1)) := bc BK326 1
 have hcz107_2 : wr.cell? ⟨gb326, 2, none⟩ = some (.int .i64 ((rd_T26 l0 x3_1).f2)) := bc BK326 2
 have hcz107_3 : wr.cell? ⟨gb326, 3, none⟩ = some (.slice A325_3 ((rd_T26 l0 x3_1).f3).length c325_3) := bc BK326 3
 have hcz107_4 : wr.cell? ⟨gb326, 4, none⟩ = some (.slice A325_4 ((rd_T26 l0 x3_1).f4).length c325_4) := bc BK326 4
 have hfz107_0 := blk_frozen BK326.out 0
 have hfz107_1 := blk_frozen BK326.out 1
 have hfz107_2 := blk_frozen BK326.out 2
 have hfz107_3 := blk_frozen BK326.out 3
 have hfz107_4 := blk_frozen BK326.out 4
 go_upto_region 32 with (fail)
 go_cut [17] (fun v17 wc => ∃ (kq : Nat) (x17_103 : Bool), v17 = .bool x17_103 ∧ Aside0 (j6 kq l0 x3_1 x17_103 x18_6 ((rd_T26 l0 x3_1).f0) ((rd_T26 l0 x3_1).f1) ((rd_T26 l0 x3_1).f2) ((rd_T26 l0 x3_1).f3) ((rd_T26 l0 x3_1).f4) = some r) ∧ Aside0 (kq ≤ k6) ∧ Aside0 (Kd.R (Kd.int .u8) 5 wc w.heap.size (fun k_ => some k_ ≠ (u7z : Value).ownBlock) u5z x5z_68) ∧ Aside0 (Kd.R (Kd.int .u8) 5 wc w.heap.size (fun k_ => some k_ ≠ (u5z : Value).ownBlock) u7z x7z_68) ∧ Aside0 (wc.heap[gb326]? = some (.cells #[(.slice A325_0 ((rd_T26 l0 x3_1).f0).length c325_0), .int .i64 ((rd_T26 l0 x3_1).f1), .int .i64 ((rd_T26 l0 x3_1).f2), (.slice A325_3 ((rd_T26 l0 x3_1).f3).length c325_3), (.slice A325_4 ((rd_T26 l0 x3_1).f4).length c325_4)] 26 (0, 0))) ∧ Aside0 (IsS72 w wc g333 u5z x6z_68) ∧ Aside0 (IsS57 w wc g339 u7z x8z_68) ∧ Aside0 (Below w.heap.size w wc))
 case first =>
  as_aux_lemma =>
  have H := HC104.out
  clear HC104
  by_cases c108 : x17_6 = true
  ·subst c108
   have H1 : (j6 k6 l0 x3_1 true x18_6 ((rd_T26 l0 x3_1).f0) ((rd_T26 l0 x3_1).f1) ((rd_T26 l0 x3_1).f2) ((rd_T26 l0 x3_1).f3) ((rd_T26 l0 x3_1).f4)) = some r := by rw [if_pos rfl] at H; exact H
   clear H
   have H := H1
   clear H1
   have H' := am_ H
   clear H
   go_wp2
   go_meet
   case rel => exact ⟨_, (true), aa_5, H', ⟨by have := HK1.out; have := HJ1.out; have := HJ22.out; have := HJ57.out; have := HJ68.out; have := HK6.out; first | omega | exact Nat.le_refl _⟩, ⟨aa_10⟩, ⟨aa_9⟩, ⟨aa_3⟩, ⟨aa_6⟩, ⟨aa_4⟩, ⟨aa_1⟩⟩
  replace c108 := Bool.eq_false_iff.mpr c108
  subst c108
  have H1 : (j6 k6 l0 x3_1 (decide (x18_6 > 1099511627776)) x18_6 ((rd_T26 l0 x3_1).f0) ((rd_T26 l0 x3_1).f1) ((rd_T26 l0 x3_1).f2) ((rd_T26 l0 x3_1).f3) ((rd_T26 l0 x3_1).f4)) = some r := by rw [if_neg (show ¬ (false = true) by decide)] at H; exact H
  clear H
  have H := H1
  clear H1
  have H' := am_ H
  clear H
  go_wp2
  go_meet
  case rel => exact ⟨_, (decide (x18_6 > 1099511627776)), aa_5, H', ⟨by have := HK1.out; have := HJ1.out; have := HJ22.out; have := HJ57.out; have := HJ68.out; have := HK6.out; first | omega | exact Nat.le_refl _⟩, ⟨aa_10⟩, ⟨aa_9⟩, ⟨aa_3⟩, ⟨aa_6⟩, ⟨aa_4⟩, ⟨aa_1⟩⟩
 case rest =>
 as_aux_lemma =>
 clear HC104
 try clear c1
 try clear c2
 try clear p2
 try clear c3
 try clear c3b0
 try clear p3
 try clear q3
 try clear hx3
 try clear c4
 try clear p4
 try clear q4
 try clear hx4
 try clear c5
 try clear c5b0
 try clear c6
 try clear c6b0
 try clear p6
 try clear c7
 try clear c8
 try clear c9
 try clear c10
 try clear c11
 try clear c12
 try clear c13
 try clear c14
 try clear c15
 try clear c16
 try clear c17
 try clear c18
 try clear c18b0
 try clear c18b1
 try clear c20
 try clear c29
 try clear c30
 try clear c32
 try clear p32
 try clear q32
 try clear hx32
 try clear c42
 try clear c42b0
 try clear c42b1
 try clear c42b2
 try clear c43
 try clear p45
 try clear q45
 try clear hx45
 try clear c46
 try clear p46
 try clear q46
 try clear hx46
 try clear c47
 try clear c52
 try clear c52b0
 try clear c52b1
 try clear c53
 try clear c53b0
 try clear c53b1
 try clear c55
 try clear c63
 try clear p64
 try clear c65
 try clear c66
 try clear c71
 try clear c71b0
 try clear c71b1
 try clear c71b2
 try clear c72
 try clear c73
 try clear c73b0
 try clear c73b1
 try clear c77
 try clear c77b0
 try clear c77b1
 try clear c78
 try clear c78b0
 try clear c78b1
 try clear c82
 try clear c83
 try clear c83b0
 try clear c84
 try clear c85
 try clear c86
 try clear c88
 try clear c88b0
 try clear c89
 try clear c89b0
 try clear c90
 try clear c91
 try clear c93
 try clear c93b0
 try clear c94
 try clear c95
 try clear c97
 try clear c97b0
 try clear c98
 try clear c99
 try clear c101
 try clear c102
 try clear c105
 try clear c106
 try clear c108
 try clear hcz100_0
 try clear hcz100_1
 try clear hcz100_2
 try clear hcz100_3
 try clear hcz100_4
 try clear hcz103_0
 try clear hcz103_1
 try clear hcz103_2
 try clear hcz103_3
 try clear hcz103_4
 try clear hcz107_0
 try clear hcz107_1
 try clear hcz107_2
 try clear hcz107_3
 try clear hcz107_4
 try clear hcz10_0
 try clear hcz10_1
 try clear hcz10_2
 try clear hcz10_3
 try clear hcz10_4
 try clear hcz25_0
 try clear hcz25_1
 try clear hcz25_2
 try clear hcz25_3
 try clear hcz25_4
 try clear hcz27_0
 try clear hcz27_1
 try clear hcz27_2
 try clear hcz27_3
 try clear hcz27_4
 try clear hcz31_0
 try clear hcz31_1
 try clear hcz31_2
 try clear hcz31_3
 try clear hcz31_4
 try clear hcz33_0
 try clear hcz33_1
 try clear hcz33_2
 try clear hcz33_3
 try clear hcz33_4
 try clear hcz37_0
 try clear hcz37_1
 try clear hcz37_2
 try clear hcz37_3
 try clear hcz37_4
 try clear hcz39_0
 try clear hcz39_1
 try clear hcz39_2
 try clear hcz39_3
 try clear hcz39_4
 try clear hcz48_0
 try clear hcz48_1
 try clear hcz48_2
 try clear hcz48_3
 try clear hcz48_4
 try clear hcz67_0
 try clear hcz67_1
 try clear hcz67_2
 try clear hcz67_3
 try clear hcz67_4
 try clear hcz87_0
 try clear hcz87_1
 try clear hcz87_2
 try clear hcz87_3
 try clear hcz87_4
 try clear hcz92_0
 try clear hcz92_1
 try clear hcz92_2
 try clear hcz92_3
 try clear hcz92_4
 try clear hcz96_0
 try clear hcz96_1
 try clear hcz96_2
 try clear hcz96_3
 try clear hcz96_4
 try clear hfz100_0
 try clear hfz100_1
 try clear hfz100_2
 try clear hfz100_3
 try clear hfz100_4
 try clear hfz103_0
 try clear hfz103_1
 try clear hfz103_2
 try clear hfz103_3
 try clear hfz103_4
 try clear hfz107_0
 try clear hfz107_1
 try clear hfz107_2
 try clear hfz107_3
 try clear hfz107_4
 try clear hfz10_0
 try clear hfz10_1
 try clear hfz10_2
 try clear hfz10_3
 try clear hfz10_4
 try clear hfz25_0
 try clear hfz25_1
 try clear hfz25_2
 try clear hfz25_3
 try clear hfz25_4
 try clear hfz27_0
 try clear hfz27_1
 try clear hfz27_2
 try clear hfz27_3
 try clear hfz27_4
 try clear hfz31_0
 try clear hfz31_1
 try clear hfz31_2
 try clear hfz31_3
 try clear hfz31_4
 try clear hfz33_0
 try clear hfz33_1
 try clear hfz33_2
 try clear hfz33_3
 try clear hfz33_4
 try clear hfz37_0
 try clear hfz37_1
 try clear hfz37_2
 try clear hfz37_3
 try clear hfz37_4
 try clear hfz39_0
 try clear hfz39_1
 try clear hfz39_2
 try clear hfz39_3
 try clear hfz39_4
 try clear hfz48_0
 try clear hfz48_1
 try clear hfz48_2
 try clear hfz48_3
 try clear hfz48_4
 try clear hfz67_0
 try clear hfz67_1
 try clear hfz67_2
 try clear hfz67_3
 try clear hfz67_4
 try clear hfz87_0
 try clear hfz87_1
 try clear hfz87_2
 try clear hfz87_3
 try clear hfz87_4
 try clear hfz92_0
 try clear hfz92_1
 try clear hfz92_2
 try clear hfz92_3
 try clear hfz92_4
 try clear hfz96_0
 try clear hfz96_1
 try clear hfz96_2
 try clear hfz96_3
 try clear hfz96_4
 try clear hx325_0
 try clear hx325_1
 try clear hx325_2
 try clear hx325_3
 try clear hx325_4
 try clear hx458_0
 try clear hx458_1
 try clear hx459_0
 try clear hx459_1
 try clear hx460_0
 try clear hx460_1
 try clear p2
 try clear p3
 try clear p32
 try clear p325
 try clear p458
 try clear p459
 try clear p460
 try clear q3
 try clear q32
 try clear q325
 try clear q458
 try clear q459
 try clear q460
 obtain ⟨kq, x17_103, rfl, HA, HJ103, HO_5z, HO_7z, BK326, HI333, HI339, HB⟩ := hcut
 cases kq with
 | zero => exact absurd HA.out (by simp [j6])
 | succ kj103 =>
 have H := HA.out
 clear HA
 simp only [j6] at H
 replace H := bm_ H
 obtain ⟨⟨t461, t462⟩, A1090, H⟩ := H
 replace H : ((gangwaylaw19_num.f t462).bind fun t463 => (if (x17_103 != (t463 == 100)) = true then (none) else (if x17_103 = true then (if t461 = 0 then (gangwaylaw19_IovExact.l0 kj103 l0 (wrap64 (x3_1 + 1))) else (none)) else (if t463 = 0 then (if t461 = x18_6 then (gangwaylaw19_IovExact.l0 kj103 l0 (wrap64 (x3_1 + 1))) else (none)) else (none))))) = some r := H
 have A109 := am_ A1090
 clear A1090
 replace H := bm_ H
 obtain ⟨t463, A1100, H⟩ := H
 replace H : (if (x17_103 != (t463 == 100)) = true then (none) else (if x17_103 = true then (if t461 = 0 then (gangwaylaw19_IovExact.l0 kj103 l0 (wrap64 (x3_1 + 1))) else (none)) else (if t463 = 0 then (if t461 = x18_6 then (gangwaylaw19_IovExact.l0 kj103 l0 (wrap64 (x3_1 + 1))) else (none)) else (none)))) = some r := H
 have A110 := am_ A1100
 clear A1100
 by_cases c111 : (x17_103 != (t463 == 100)) = true
 ·rw [if_pos c111] at H
  exact absurd H (by simp)
 as_aux_lemma =>
 rw [if_neg c111] at H
 have c111b0 : (x17_103 != (t463 == 100)) = false := by simpa using c111
 (try (have c111b1 : decide (x17_103 = (t463 == 100)) = true := by simpa using c111))
 (try (have c111b2 : (x17_103 == (t463 == 100)) = true := by simpa using c111))
 clear c111
 by_cases c112 : x17_103 = true
 ·subst c112
  have H1 : (if t461 = 0 then (gangwaylaw19_IovExact.l0 kj103 l0 (wrap64 (x3_1 + 1))) else (none)) = some r := by rw [if_pos rfl] at H; exact H
  clear H
  have H := H1
  clear H1
  by_cases c113 : t461 = 0
  rotate_left
  ·rw [if_neg c113] at H
   exact absurd H (by simp)
  rw [if_pos c113] at H
  have c113b0 : (t461 == 0) = true := beq_iff_eq.mpr c113
  have c113b1 : (t461 != 0) = false := bne_eq_false_iff_eq.mpr c113
  clear c113
  have H' := am_ H
  clear H
  have hnb114 := NB326_333.out
  have hnc114 := NB333_326.out
  have hnb115 := NB326_339.out
  have hnc115 := NB339_326.out
  have hcz116_0 : wc.cell? ⟨gb326, 0, none⟩ = some (.slice A325_0 ((rd_T26 l0 x3_1).f0).length c325_0) := bc BK326 0
  have hcz116_1 : wc.cell? ⟨gb326, 1, none⟩ = some (.int .i64 ((rd_T26 l0 x3_1).f1)) := bc BK326 1
  have hcz116_2 : wc.cell? ⟨gb326, 2, none⟩ = some (.int .i64 ((rd_T26 l0 x3_1).f2)) := bc BK326 2
  have hcz116_3 : wc.cell? ⟨gb326, 3, none⟩ = some (.slice A325_3 ((rd_T26 l0 x3_1).f3).length c325_3) := bc BK326 3
  have hcz116_4 : wc.cell? ⟨gb326, 4, none⟩ = some (.slice A325_4 ((rd_T26 l0 x3_1).f4).length c325_4) := bc BK326 4
  have hfz116_0 := blk_frozen BK326.out 0
  have hfz116_1 := blk_frozen BK326.out 1
  have hfz116_2 := blk_frozen BK326.out 2
  have hfz116_3 := blk_frozen BK326.out 3
  have hfz116_4 := blk_frozen BK326.out 4
  go_wp2_with (first | ((with_reducible refine gate_callee (f := 19) rfl ?_); refine goesL_ (some 212) rfl rfl Try.func19 (by kernel_rfl) rfl #[.slice A325_3 ((rd_T26 l0 x3_1).f3).length c325_3] rfl aa_0 ?_; (with_reducible refine (iov_Total.calls kj103 _ _ ((rd_T26 l0 x3_1).f3) t461 t462 _ ?side1 ?side2 A109.out).mono ?_); (case side1 => exact aa_11); (case side2 => exact HC325_3.out); rintro e w117 ⟨rfl, hb⟩; refine ⟨_, rfl, ?_⟩; have n0_ := am_ (Kd.R_below (by (with_reducible repeat (first | apply Kd.R_alloc | apply Kd.R_drewN | apply Kd.R_drew)); exact HO_5z.out) hb); have n1_ := am_ (Kd.R_below aa_9 hb); have n2_ := am_ (bbelow BK326 aa_3 hb); have n3_ := am_ (IsS72.below aa_6 hb); have n4_ := am_ (IsS57.below aa_4 hb); have n5_ := am_ (below_step aa_1 hb); clear HO_5z; clear HO_7z; clear BK326; clear HI333; clear HI339; clear HB; have HO_5z := n0_; have HO_7z := n1_; have BK326 := n2_; have HI333 := n3_; have HI339 := n4_; have HB := n5_; clear n0_ n1_ n2_ n3_ n4_ n5_; (try clear hb); (try clear hb2); (try clear hk); (try clear hi)) | ((with_reducible refine gate_callee (f := 9) rfl ?_); refine goesL_ (some 217) rfl rfl Try.func9 (by kernel_rfl) rfl #[.int .i64 t462] rfl aa_0 ?_; (with_reducible refine (gangwaylaw19_num.calls t462 t463 _ A110.out).mono ?_); rintro e w' ⟨rfl, ⟨nd, rfl⟩⟩; refine ⟨_, rfl, ?_⟩))
  go_roundg kj103
  case measure => have := HK1.out; have := HJ1.out; have := HJ22.out; have := HJ57.out; have := HJ68.out; have := HK6.out; have := HJ103.out; omega
  case rel => exact ⟨(wrap64 (x3_1 + 1)), aa_5, H', ⟨by have := HK1.out; have := HJ1.out; have := HJ22.out; have := HJ57.out; have := HJ68.out; have := HK6.out; have := HJ103.out; omega⟩, ⟨aa_1⟩⟩
 replace c112 := Bool.eq_false_iff.mpr c112
 subst c112
 have H1 : (if t463 = 0 then (if t461 = x18_6 then (gangwaylaw19_IovExact.l0 kj103 l0 (wrap64 (x3_1 + 1))) else (none)) else (none)) = some r := by rw [if_neg (show ¬ (false = true) by decide)] at H; exact H
 clear H
 have H := H1
 clear H1
 by_cases c118 : t463 = 0
 rotate_left
 ·rw [if_neg c118] at H
  exact absurd H (by simp)
 rw [if_pos c118] at H
 have c118b0 : (t463 == 0) = true := beq_iff_eq.mpr c118
 have c118b1 : (t463 != 0) = false := bne_eq_false_iff_eq.mpr c118
 clear c118
 by_cases c119 : t461 = x18_6
 rotate_left
 ·rw [if_neg c119] at H
  exact absurd H (by simp)
 rw [if_pos c119] at H
 have c119b0 : (t461 == x18_6) = true := beq_iff_eq.mpr c119
 have c119b1 : (t461 != x18_6) = false := bne_eq_false_iff_eq.mpr c119
 clear c119
 have H' := am_ H
 clear H
 have hnb120 := NB326_333.out
 have hnc120 := NB333_326.out
 have hnb121 := NB326_339.out
 have hnc121 := NB339_326.out
 have hcz122_0 : wc.cell? ⟨gb326, 0, none⟩ = some (.slice A325_0 ((rd_T26 l0 x3_1).f0).length c325_0) := bc BK326 0
 have hcz122_1 : wc.cell? ⟨gb326, 1, none⟩ = some (.int .i64 ((rd_T26 l0 x3_1).f1)) := bc BK326 1
 have hcz122_2 : wc.cell? ⟨gb326, 2, none⟩ = some (.int .i64 ((rd_T26 l0 x3_1).f2)) := bc BK326 2
 have hcz122_3 : wc.cell? ⟨gb326, 3, none⟩ = some (.slice A325_3 ((rd_T26 l0 x3_1).f3).length c325_3) := bc BK326 3
 have hcz122_4 : wc.cell? ⟨gb326, 4, none⟩ = some (.slice A325_4 ((rd_T26 l0 x3_1).f4).length c325_4) := bc BK326 4
 have hfz122_0 := blk_frozen BK326.out 0
 have hfz122_1 := blk_frozen BK326.out 1
 have hfz122_2 := blk_frozen BK326.out 2
 have hfz122_3 := blk_frozen BK326.out 3
 have hfz122_4 := blk_frozen BK326.out 4
 go_wp2_with (first | ((with_reducible refine gate_callee (f := 19) rfl ?_); refine goesL_ (some 212) rfl rfl Try.func19 (by kernel_rfl) rfl #[.slice A325_3 ((rd_T26 l0 x3_1).f3).length c325_3] rfl aa_0 ?_; (with_reducible refine (iov_Total.calls kj103 _ _ ((rd_T26 l0 x3_1).f3) t461 t462 _ ?side1 ?side2 A109.out).mono ?_); (case side1 => exact aa_11); (case side2 => exact HC325_3.out); rintro e w123 ⟨rfl, hb⟩; refine ⟨_, rfl, ?_⟩; have n0_ := am_ (Kd.R_below (by (with_reducible repeat (first | apply Kd.R_alloc | apply Kd.R_drewN | apply Kd.R_drew)); exact HO_5z.out) hb); have n1_ := am_ (Kd.R_below aa_9 hb); have n2_ := am_ (bbelow BK326 aa_3 hb); have n3_ := am_ (IsS72.below aa_6 hb); have n4_ := am_ (IsS57.below aa_4 hb); have n5_ := am_ (below_step aa_1 hb); clear HO_5z; clear HO_7z; clear BK326; clear HI333; clear HI339; clear HB; have HO_5z := n0_; have HO_7z := n1_; have BK326 := n2_; have HI333 := n3_; have HI339 := n4_; have HB := n5_; clear n0_ n1_ n2_ n3_ n4_ n5_; (try clear hb); (try clear hb2); (try clear hk); (try clear hi)) | ((with_reducible refine gate_callee (f := 9) rfl ?_); refine goesL_ (some 217) rfl rfl Try.func9 (by kernel_rfl) rfl #[.int .i64 t462] rfl aa_0 ?_; (with_reducible refine (gangwaylaw19_num.calls t462 t463 _ A110.out).mono ?_); rintro e w' ⟨rfl, ⟨nd, rfl⟩⟩; refine ⟨_, rfl, ?_⟩) | (go_at_call 9; (with_reducible refine (gangwaylaw19_num.calls t462 t463 _ A110.out).mono ?_); rintro e w' ⟨rfl, ⟨nd, rfl⟩⟩))
 go_roundg kj103
 case measure => have := HK1.out; have := HJ1.out; have := HJ22.out; have := HJ57.out; have := HJ68.out; have := HK6.out; have := HJ103.out; omega
 case rel => exact ⟨(wrap64 (x3_1 + 1)), aa_5, H', ⟨by have := HK1.out; have := HJ1.out; have := HJ22.out; have := HJ57.out; have := HJ68.out; have := HK6.out; have := HJ103.out; omega⟩, ⟨aa_1⟩⟩
/-- THE ONE PURE STATEMENT of gangwaylaw19_IovExact: yours. -/
def gangwaylaw19_IovExact.Pure : Prop := ∀ (x0 : List (S26)), (x0.length * 88 ≤ 140737488351232 ∧ ∀ y475 ∈ x0, okT26 y475) → ∃ k, gangwaylaw19_IovExact.f k x0 = some true
theorem gangwaylaw19_IovExact.walk (P : gangwaylaw19_IovExact.Pure) (w : World) (x0 : List (S26)) (A0 : Option Addr) (c0 : Nat) (hr0 : Kd.C k26 w A0 x0.length x0) (hc0 : x0.length ≤ c0) (hok0 : (x0.length * 88 ≤ 140737488351232 ∧ ∀ y476 ∈ x0, okT26 y476)) :
  Calls Try.prog 3 #[.slice A0 x0.length c0] w fun e w' => e = .returned (.bool true) ∧ Below w.heap.size w w' := by
 obtain ⟨k, h⟩ := P x0 hok0
 refine (gangwaylaw19_IovExact.calls k _ _ x0 true w hr0 hc0 h).mono ?_
 rintro e w' ⟨rfl, hd⟩
 exact ⟨rfl, hd⟩

end Go.Proofs.Ytdoaininjfbemaa.PAll
