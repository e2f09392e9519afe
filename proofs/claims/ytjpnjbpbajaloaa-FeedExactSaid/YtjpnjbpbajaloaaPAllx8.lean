/- Printed by a copy of the printer that was turned for this claim: functions as plain Lean functions, with proofs that their calls come to these; or words that such proofs use. -/
import Derived.Test.YtjpnjbpbajaloaaPAllx0
import Derived.Test.YtjpnjbpbajaloaaPAllx1
import Derived.Test.YtjpnjbpbajaloaaPAllx2
import Derived.Test.YtjpnjbpbajaloaaPAllx3
import Derived.Test.YtjpnjbpbajaloaaPAllx4
import Derived.Test.YtjpnjbpbajaloaaPAllx5
import Derived.Test.YtjpnjbpbajaloaaPAllx6
import Derived.Test.YtjpnjbpbajaloaaPAllx7
namespace Go.Proofs.Ytjpnjbpbajaloaa.PAll
open Go.RowKit Go.Proofs.YtjpnjbpbajaloaaW.PrintWords Go.Proofs.YtjpnjbpbajaloaaW.PrintLast Go.Proofs.YtjpnjbpbajaloaaW.PrintMore
attribute [local go_sem] max2_int min2_int max_two min_two max_three min_three max_four min_four   -- for this text's walks alone
set_option linter.unusedVariables false
set_option linter.unusedSimpArgs false

/-! ### gangwaylaw23_FeedExact: function 4 -/
def gangwaylaw23_FeedExact.putsW (g : Nat) : World → Nat → List Value → World
 | w, _, [] => w
 | w, i, u :: us => gangwaylaw23_FeedExact.putsW g (w.setCell ⟨g, i, none⟩ u) (i + 1) us
theorem gangwaylaw23_FeedExact.putsL {g : Nat} {t : TypeId} : ∀ (us pre post : List Value) (w : World), w.heap[g]? = some (.cells (pre ++ post).toArray t (0, 0)) → post.length = us.length → (gangwaylaw23_FeedExact.putsW g w pre.length us).heap[g]? = some (.cells (pre ++ us).toArray t (0, 0))
 | [], pre, [], w, h, _ => h
 | u :: us, pre, [], w, h, e => by simp at e
 | [], pre, z :: post, w, h, e => by simp at e
 | u :: us, pre, z :: post, w, h, e => by
  have h1 := blk_put h pre.length u (cs' := ((pre ++ [u]) ++ post).toArray) (by simp)
  have h2 := gangwaylaw23_FeedExact.putsL us (pre ++ [u]) post _ h1 (by simpa using e)
  simpa [gangwaylaw23_FeedExact.putsW] using h2
theorem gangwaylaw23_FeedExact.puts {w : World} {g : Nat} {t : TypeId} {cs : Array Value} (us : List Value) (h : w.heap[g]? = some (.cells cs t (0, 0))) (e : cs.toList.length = us.length) : (gangwaylaw23_FeedExact.putsW g w 0 us).heap[g]? = some (.cells us.toArray t (0, 0)) := gangwaylaw23_FeedExact.putsL us [] cs.toList w h e
theorem gangwaylaw23_FeedExact.up {w w' : World} {a : Addr} {v : Value} (hb : Aside0 (Below w.heap.size w w')) (h : w.cell? a = some v) : w'.cell? a = some v := (hb.out.cell (World.block_lt_of_cell? w _ h)).trans h
mutual
def gangwaylaw23_FeedExact.l0 : Nat → Int → List Int → List Int → List Int → List (S45) → List Int → List Int → List Int → List Int → List Int → List Int → Int → Int → Int → Option (Bool)
 | 0, _, _, _, _, _, _, _, _, _, _, _, _, _, _ => none
 | k + 1, x7, x314000, x314001, x314002, x314003, x336000, x336001, x336002, x419000, x419001, x419002, x419003, x419004, x419005 => if x7 < (x314003.length : Int) then (gangwaylaw23_FeedExact.j1 k x7 (decide (x7 < 40)) x314000 x314001 x314002 x314003 x336000 x336001 x336002 x419000 x419001 x419002 x419003 x419004 x419005) else (gangwaylaw23_FeedExact.j1 k x7 false x314000 x314001 x314002 x314003 x336000 x336001 x336002 x419000 x419001 x419002 x419003 x419004 x419005)
def gangwaylaw23_FeedExact.j1 : Nat → Int → Bool → List Int → List Int → List Int → List (S45) → List Int → List Int → List Int → List Int → List Int → List Int → Int → Int → Int → Option (Bool)
 | 0, _, _, _, _, _, _, _, _, _, _, _, _, _, _, _ => none
 | k + 1, x7, x68, x314000, x314001, x314002, x314003, x336000, x336001, x336002, x419000, x419001, x419002, x419003, x419004, x419005 => if x68 = true then (if 0 ≤ x7 then (if x7 < (x314003.length : Int) then (if ((rd_T45 x314003 x7).f1) < 0 then (gangwaylaw23_FeedExact.j2 k x7 ((rd_T45 x314003 x7).f1) 0 true x314000 x314001 x314002 x314003 x336000 x336001 x336002 x419000 x419001 x419002 x419003 x419004 x419005) else (gangwaylaw23_FeedExact.j2 k x7 ((rd_T45 x314003 x7).f1) 0 (decide (((rd_T45 x314003 x7).f1) > 1048576)) x314000 x314001 x314002 x314003 x336000 x336001 x336002 x419000 x419001 x419002 x419003 x419004 x419005)) else (none)) else (none)) else ((gangwaylaw23_wakes.f k).bind fun t419 => (some t419))
def gangwaylaw23_FeedExact.j2 : Nat → Int → Int → Int → Bool → List Int → List Int → List Int → List (S45) → List Int → List Int → List Int → List Int → List Int → List Int → Int → Int → Int → Option (Bool)
 | 0, _, _, _, _, _, _, _, _, _, _, _, _, _, _, _, _, _ => none
 | k + 1, x7, x8, x9, x82, x314000, x314001, x314002, x314003, x336000, x336001, x336002, x419000, x419001, x419002, x419003, x419004, x419005 => if x82 = true then (gangwaylaw23_FeedExact.j3 k x7 x8 100 x314000 x314001 x314002 x314003 x336000 x336001 x336002 x419000 x419001 x419002 x419003 x419004 x419005) else (gangwaylaw23_FeedExact.j3 k x7 x8 x9 x314000 x314001 x314002 x314003 x336000 x336001 x336002 x419000 x419001 x419002 x419003 x419004 x419005)
def gangwaylaw23_FeedExact.j3 : Nat → Int → Int → Int → List Int → List Int → List Int → List (S45) → List Int → List Int → List Int → List Int → List Int → List Int → Int → Int → Int → Option (Bool)
 | 0, _, _, _, _, _, _, _, _, _, _, _, _, _, _, _, _ => none
 | k + 1, x7, x8, x9, x314000, x314001, x314002, x314003, x336000, x336001, x336002, x419000, x419001, x419002, x419003, x419004, x419005 => if 0 ≤ x7 then (if x7 < (x314003.length : Int) then ((gangwaylaw0_Within.f ((rd_T45 x314003 x7).f0) 6).bind fun t422 => (if t422 = 0 then (gangwaylaw23_FeedExact.j4 k x7 x8 x9 t422 (t422 == 0) x314000 x314001 x314002 x314003 x336000 x336001 x336002 x419000 x419001 x419002 x419003 x419004 x419005) else (gangwaylaw23_FeedExact.j4 k x7 x8 x9 t422 (t422 == 1) x314000 x314001 x314002 x314003 x336000 x336001 x336002 x419000 x419001 x419002 x419003 x419004 x419005))) else (none)) else (none)
def gangwaylaw23_FeedExact.j8 : Nat → Int → List Int → List Int → List Int → List (S45) → List Int → List Int → List Int → List Int → List Int → List Int → Int → Int → Int → Option (Bool)
 | 0, _, _, _, _, _, _, _, _, _, _, _, _, _, _ => none
 | k + 1, x7, x314000, x314001, x314002, x314003, x336000, x336001, x336002, x419000, x419001, x419002, x419003, x419004, x419005 => (feed_Feed_Left.f x336000 x336001 x336002).bind fun bt482 => ((gangwayref23_Feed_Left.f x419000 x419001 x419002 x419003 x419004 x419005).bind fun bt492 => (if bt482.1 = bt492.1 then (gangwaylaw23_FeedExact.l0 k (wrap64 (x7 + 1)) x314000 x314001 x314002 x314003 bt482.2.1 bt482.2.2.1 bt482.2.2.2 x419000 x419001 x419002 bt492.2.1 bt492.2.2.1 bt492.2.2.2) else (none)))
def gangwaylaw23_FeedExact.j4 : Nat → Int → Int → Int → Int → Bool → List Int → List Int → List Int → List (S45) → List Int → List Int → List Int → List Int → List Int → List Int → Int → Int → Int → Option (Bool)
 | 0, _, _, _, _, _, _, _, _, _, _, _, _, _, _, _, _, _, _ => none
 | k + 1, x7, x8, x9, x89, x113, x314000, x314001, x314002, x314003, x336000, x336001, x336002, x419000, x419001, x419002, x419003, x419004, x419005 => if x113 = true then ((feed_Feed_Clock.f x336000 x336001 x336002).bind fun bt423 => ((gangwayref23_Feed_Now.f x419000 x419001 x419002 x419003 x419004 x419005).bind fun bt433 => (if bt423.1 = bt433.1 then ((gangwayref23_Feed_Tick.f x419000 x419001 x419002 bt433.2.1 bt433.2.2.1 bt433.2.2.2).bind fun bt437 => (gangwaylaw23_FeedExact.j8 k x7 x314000 x314001 x314002 x314003 bt423.2.1 bt423.2.2.1 bt423.2.2.2 x419000 x419001 x419002 bt437.1 bt437.2.1 bt437.2.2)) else (none)))) else (if x89 = 2 then (gangwaylaw23_FeedExact.j5 k x7 x8 x9 (x89 == 2) x314000 x314001 x314002 x314003 x336000 x336001 x336002 x419000 x419001 x419002 x419003 x419004 x419005) else (gangwaylaw23_FeedExact.j5 k x7 x8 x9 (x89 == 3) x314000 x314001 x314002 x314003 x336000 x336001 x336002 x419000 x419001 x419002 x419003 x419004 x419005))
def gangwaylaw23_FeedExact.j5 : Nat → Int → Int → Int → Bool → List Int → List Int → List Int → List (S45) → List Int → List Int → List Int → List Int → List Int → List Int → Int → Int → Int → Option (Bool)
 | 0, _, _, _, _, _, _, _, _, _, _, _, _, _, _, _, _, _ => none
 | k + 1, x7, x8, x9, x123, x314000, x314001, x314002, x314003, x336000, x336001, x336002, x419000, x419001, x419002, x419003, x419004, x419005 => if x123 = true then (if x9 = 0 then ((gangwayref23_Feed_Random.f k x419000 x419001 x419002 x419003 x419004 x419005 x8).bind fun bt440 => (gangwaylaw23_FeedExact.j6 k x7 x8 x9 bt440.1 x314000 x314001 x314002 x314003 x336000 x336001 x336002 x419000 x419001 x419002 bt440.2.1 bt440.2.2.1 bt440.2.2.2)) else (gangwaylaw23_FeedExact.j6 k x7 x8 x9 ([] : List Int) x314000 x314001 x314002 x314003 x336000 x336001 x336002 x419000 x419001 x419002 x419003 x419004 x419005)) else (if x9 = 0 then ((gangwayref23_Feed_Stdin.f k x419000 x419001 x419002 x419003 x419004 x419005 x8).bind fun bt461 => (gangwaylaw23_FeedExact.j7 k x7 x8 x9 bt461.1 x314000 x314001 x314002 x314003 x336000 x336001 x336002 x419000 x419001 x419002 bt461.2.1 bt461.2.2.1 bt461.2.2.2)) else (gangwaylaw23_FeedExact.j7 k x7 x8 x9 ([] : List Int) x314000 x314001 x314002 x314003 x336000 x336001 x336002 x419000 x419001 x419002 x419003 x419004 x419005))
def gangwaylaw23_FeedExact.j6 : Nat → Int → Int → Int → List Int → List Int → List Int → List Int → List (S45) → List Int → List Int → List Int → List Int → List Int → List Int → Int → Int → Int → Option (Bool)
 | 0, _, _, _, _, _, _, _, _, _, _, _, _, _, _, _, _, _ => none
 | k + 1, x7, x8, x9, x10, x314000, x314001, x314002, x314003, x336000, x336001, x336002, x419000, x419001, x419002, x419003, x419004, x419005 => (feed_Feed_Random.f x336000 x336001 x336002 x8).bind fun bt446 => ((gangwaylaw23_num.f bt446.2.1).bind fun t459 => (if t459 = x9 then ((gangwayref0_EqBytes.f k bt446.1 x10).bind fun t460 => (if t460 = true then ((gangwaylaw0_Bytes.f k bt446.1).bind fun _ => (gangwaylaw23_FeedExact.j8 k x7 x314000 x314001 x314002 x314003 bt446.2.2.1 bt446.2.2.2.1 bt446.2.2.2.2 x419000 x419001 x419002 x419003 x419004 x419005)) else (none))) else (none)))
def gangwaylaw23_FeedExact.j7 : Nat → Int → Int → Int → List Int → List Int → List Int → List Int → List (S45) → List Int → List Int → List Int → List Int → List Int → List Int → Int → Int → Int → Option (Bool)
 | 0, _, _, _, _, _, _, _, _, _, _, _, _, _, _, _, _, _ => none
 | k + 1, x7, x8, x9, x13, x314000, x314001, x314002, x314003, x336000, x336001, x336002, x419000, x419001, x419002, x419003, x419004, x419005 => (feed_Feed_Stdin.f x336000 x336001 x336002 x8).bind fun bt467 => ((gangwaylaw23_num.f bt467.2.1).bind fun t480 => (if t480 = x9 then ((gangwayref0_EqBytes.f k bt467.1 x13).bind fun t481 => (if t481 = true then ((gangwaylaw0_Bytes.f k bt467.1).bind fun _ => (gangwaylaw23_FeedExact.j8 k x7 x314000 x314001 x314002 x314003 bt467.2.2.1 bt467.2.2.2.1 bt467.2.2.2.2 x419000 x419001 x419002 x419003 x419004 x419005)) else (none))) else (none)))
end
def gangwaylaw23_FeedExact.f (k : Nat) (l0_0 : List Int) (l0_1 : List Int) (l0_2 : List Int) (l0_3 : List (S45)) : Option (Bool) := (gangwaylaw23_heavy.f k l0_0 l0_1 l0_2 l0_3).bind fun t314 => (if t314 = true then (some true) else ((gangwayref0_CopyScript.f k l0_0 l0_1 l0_2).bind fun bt315 => ((feed_New.f k bt315.1 bt315.2.1 bt315.2.2).bind fun bt325 => (if bt325.1 = true then ((gangwaylaw0_Longs.f k bt315.1).bind fun _ => ((gangwaylaw0_Bytes.f k bt315.2.1).bind fun _ => ((gangwaylaw0_Bytes.f k bt315.2.2).bind fun _ => ((gangwayref23_May.f k l0_0 l0_1 l0_2).bind fun t337 => (if t337 = true then ((gangwaylaw23_num.f bt325.2.2.2.2).bind fun t339 => (if t339 = 0 then (gangwaylaw23_FeedExact.l0 k 0 l0_0 l0_1 l0_2 l0_3 bt325.2.1 bt325.2.2.1 bt325.2.2.2.1 l0_0 l0_1 l0_2 0 0 0) else (none))) else (none)))))) else ((gangwaylaw0_Longs.f k bt315.1).bind fun _ => ((gangwaylaw0_Bytes.f k bt315.2.1).bind fun _ => ((gangwaylaw0_Bytes.f k bt315.2.2).bind fun _ => ((gangwayref23_May.f k l0_0 l0_1 l0_2).bind fun t496 => (if t496 = true then (none) else ((gangwaylaw23_num.f bt325.2.2.2.2).bind fun t497 => (if t497 = 100 then ((gangwaylaw23_wakes.f k).bind fun t498 => (some t498)) else (none))))))))))))
theorem gangwaylaw23_FeedExact.mono_l : ∀ k, (∀ y0 y1 y2 y3 y4 y5 y6 y7 y8 y9 y10 y11 y12 y13, LeO (gangwaylaw23_FeedExact.l0 k y0 y1 y2 y3 y4 y5 y6 y7 y8 y9 y10 y11 y12 y13) (gangwaylaw23_FeedExact.l0 (k + 1) y0 y1 y2 y3 y4 y5 y6 y7 y8 y9 y10 y11 y12 y13)) ∧ (∀ y0 y1 y2 y3 y4 y5 y6 y7 y8 y9 y10 y11 y12 y13 y14, LeO (gangwaylaw23_FeedExact.j1 k y0 y1 y2 y3 y4 y5 y6 y7 y8 y9 y10 y11 y12 y13 y14) (gangwaylaw23_FeedExact.j1 (k + 1) y0 y1 y2 y3 y4 y5 y6 y7 y8 y9 y10 y11 y12 y13 y14)) ∧ (∀ y0 y1 y2 y3 y4 y5 y6 y7 y8 y9 y10 y11 y12 y13 y14 y15 y16, LeO (gangwaylaw23_FeedExact.j2 k y0 y1 y2 y3 y4 y5 y6 y7 y8 y9 y10 y11 y12 y13 y14 y15 y16) (gangwaylaw23_FeedExact.j2 (k + 1) y0 y1 y2 y3 y4 y5 y6 y7 y8 y9 y10 y11 y12 y13 y14 y15 y16)) ∧ (∀ y0 y1 y2 y3 y4 y5 y6 y7 y8 y9 y10 y11 y12 y13 y14 y15, LeO (gangwaylaw23_FeedExact.j3 k y0 y1 y2 y3 y4 y5 y6 y7 y8 y9 y10 y11 y12 y13 y14 y15) (gangwaylaw23_FeedExact.j3 (k + 1) y0 y1 y2 y3 y4 y5 y6 y7 y8 y9 y10 y11 y12 y13 y14 y15)) ∧ (∀ y0 y1 y2 y3 y4 y5 y6 y7 y8 y9 y10 y11 y12 y13, LeO (gangwaylaw23_FeedExact.j8 k y0 y1 y2 y3 y4 y5 y6 y7 y8 y9 y10 y11 y12 y13) (gangwaylaw23_FeedExact.j8 (k + 1) y0 y1 y2 y3 y4 y5 y6 y7 y8 y9 y10 y11 y12 y13)) ∧ (∀ y0 y1 y2 y3 y4 y5 y6 y7 y8 y9 y10 y11 y12 y13 y14 y15 y16 y17, LeO (gangwaylaw23_FeedExact.j4 k y0 y1 y2 y3 y4 y5 y6 y7 y8 y9 y10 y11 y12 y13 y14 y15 y16 y17) (gangwaylaw23_FeedExact.j4 (k + 1) y0 y1 y2 y3 y4 y5 y6 y7 y8 y9 y10 y11 y12 y13 y14 y15 y16 y17)) ∧ (∀ y0 y1 y2 y3 y4 y5 y6 y7 y8 y9 y10 y11 y12 y13 y14 y15 y16, LeO (gangwaylaw23_FeedExact.j5 k y0 y1 y2 y3 y4 y5 y6 y7 y8 y9 y10 y11 y12 y13 y14 y15 y16) (gangwaylaw23_FeedExact.j5 (k + 1) y0 y1 y2 y3 y4 y5 y6 y7 y8 y9 y10 y11 y12 y13 y14 y15 y16)) ∧ (∀ y0 y1 y2 y3 y4 y5 y6 y7 y8 y9 y10 y11 y12 y13 y14 y15 y16, LeO (gangwaylaw23_FeedExact.j6 k y0 y1 y2 y3 y4 y5 y6 y7 y8 y9 y10 y11 y12 y13 y14 y15 y16) (gangwaylaw23_FeedExact.j6 (k + 1) y0 y1 y2 y3 y4 y5 y6 y7 y8 y9 y10 y11 y12 y13 y14 y15 y16)) ∧ (∀ y0 y1 y2 y3 y4 y5 y6 y7 y8 y9 y10 y11 y12 y13 y14 y15 y16, LeO (gangwaylaw23_FeedExact.j7 k y0 y1 y2 y3 y4 y5 y6 y7 y8 y9 y10 y11 y12 y13 y14 y15 y16) (gangwaylaw23_FeedExact.j7 (k + 1) y0 y1 y2 y3 y4 y5 y6 y7 y8 y9 y10 y11 y12 y13 y14 y15 y16))
 | 0 => ⟨fun _ _ _ _ _ _ _ _ _ _ _ _ _ _ r h => by simp [gangwaylaw23_FeedExact.l0] at h, fun _ _ _ _ _ _ _ _ _ _ _ _ _ _ _ r h => by simp [gangwaylaw23_FeedExact.j1] at h, fun _ _ _ _ _ _ _ _ _ _ _ _ _ _ _ _ _ r h => by simp [gangwaylaw23_FeedExact.j2] at h, fun _ _ _ _ _ _ _ _ _ _ _ _ _ _ _ _ r h => by simp [gangwaylaw23_FeedExact.j3] at h, fun _ _ _ _ _ _ _ _ _ _ _ _ _ _ r h => by simp [gangwaylaw23_FeedExact.j8] at h, fun _ _ _ _ _ _ _ _ _ _ _ _ _ _ _ _ _ _ r h => by simp [gangwaylaw23_FeedExact.j4] at h, fun _ _ _ _ _ _ _ _ _ _ _ _ _ _ _ _ _ r h => by simp [gangwaylaw23_FeedExact.j5] at h, fun _ _ _ _ _ _ _ _ _ _ _ _ _ _ _ _ _ r h => by simp [gangwaylaw23_FeedExact.j6] at h, fun _ _ _ _ _ _ _ _ _ _ _ _ _ _ _ _ _ r h => by simp [gangwaylaw23_FeedExact.j7] at h⟩
 | k + 1 => by
  obtain ⟨ih0, ih1, ih2, ih3, ih4, ih5, ih6, ih7, ih8⟩ := gangwaylaw23_FeedExact.mono_l k
  refine ⟨?_, ?_, ?_, ?_, ?_, ?_, ?_, ?_, ?_⟩
  ·intro y0 y1 y2 y3 y4 y5 y6 y7 y8 y9 y10 y11 y12 y13
   unfold gangwaylaw23_FeedExact.l0
   repeat' first
   | (with_reducible exact ih0 _ _ _ _ _ _ _ _ _ _ _ _ _ _)
   | (with_reducible exact ih1 _ _ _ _ _ _ _ _ _ _ _ _ _ _ _)
   | (with_reducible exact ih2 _ _ _ _ _ _ _ _ _ _ _ _ _ _ _ _ _)
   | (with_reducible exact ih3 _ _ _ _ _ _ _ _ _ _ _ _ _ _ _ _)
   | (with_reducible exact ih4 _ _ _ _ _ _ _ _ _ _ _ _ _ _)
   | (with_reducible exact ih5 _ _ _ _ _ _ _ _ _ _ _ _ _ _ _ _ _ _)
   | (with_reducible exact ih6 _ _ _ _ _ _ _ _ _ _ _ _ _ _ _ _ _)
   | (with_reducible exact ih7 _ _ _ _ _ _ _ _ _ _ _ _ _ _ _ _ _)
   | (with_reducible exact ih8 _ _ _ _ _ _ _ _ _ _ _ _ _ _ _ _ _)
   | (with_reducible exact feed_New.mono _ _ _ _)
   | (with_reducible exact gangwaylaw0_Bytes.mono _ _)
   | (with_reducible exact gangwaylaw0_Longs.mono _ _)
   | (with_reducible exact gangwaylaw23_heavy.mono _ _ _ _ _)
   | (with_reducible exact gangwaylaw23_wakes.mono _)
   | (with_reducible exact gangwayref0_CopyScript.mono _ _ _ _)
   | (with_reducible exact gangwayref0_EqBytes.mono _ _ _)
   | (with_reducible exact gangwayref23_Feed_Random.mono _ _ _ _ _ _ _ _)
   | (with_reducible exact gangwayref23_Feed_Stdin.mono _ _ _ _ _ _ _ _)
   | (with_reducible exact gangwayref23_May.mono _ _ _ _)
   | (with_reducible exact LeO.refl _)
   | (with_reducible exact LeO.none _)
   | (with_reducible refine LeO.ite ?_ ?_)
   | (with_reducible refine LeO.bind ?_ (fun _ => ?_))
   | exact ih0 _ _ _ _ _ _ _ _ _ _ _ _ _ _
   | exact ih1 _ _ _ _ _ _ _ _ _ _ _ _ _ _ _
   | exact ih2 _ _ _ _ _ _ _ _ _ _ _ _ _ _ _ _ _
   | exact ih3 _ _ _ _ _ _ _ _ _ _ _ _ _ _ _ _
   | exact ih4 _ _ _ _ _ _ _ _ _ _ _ _ _ _
   | exact ih5 _ _ _ _ _ _ _ _ _ _ _ _ _ _ _ _ _ _
   | exact ih6 _ _ _ _ _ _ _ _ _ _ _ _ _ _ _ _ _
   | exact ih7 _ _ _ _ _ _ _ _ _ _ _ _ _ _ _ _ _
   | exact ih8 _ _ _ _ _ _ _ _ _ _ _ _ _ _ _ _ _
   | exact feed_New.mono _ _ _ _
   | exact gangwaylaw0_Bytes.mono _ _
   | exact gangwaylaw0_Longs.mono _ _
   | exact gangwaylaw23_heavy.mono _ _ _ _ _
   | exact gangwaylaw23_wakes.mono _
   | exact gangwayref0_CopyScript.mono _ _ _ _
   | exact gangwayref0_EqBytes.mono _ _ _
   | exact gangwayref23_Feed_Random.mono _ _ _ _ _ _ _ _
   | exact gangwayref23_Feed_Stdin.mono _ _ _ _ _ _ _ _
   | exact gangwayref23_May.mono _ _ _ _
   | exact LeO.none _
   | refine LeO.ite ?_ ?_
   | refine LeO.bind ?_ (fun _ => ?_)
  ·intro y0 y1 y2 y3 y4 y5 y6 y7 y8 y9 y10 y11 y12 y13 y14
   unfold gangwaylaw23_FeedExact.j1
   repeat' first
   | (with_reducible exact ih0 _ _ _ _ _ _ _ _ _ _ _ _ _ _)
   | (with_reducible exact ih1 _ _ _ _ _ _ _ _ _ _ _ _ _ _ _)
   | (with_reducible exact ih2 _ _ _ _ _ _ _ _ _ _ _ _ _ _ _ _ _)
   | (with_reducible exact ih3 _ _ _ _ _ _ _ _ _ _ _ _ _ _ _ _)
   | (with_reducible exact ih4 _ _ _ _ _ _ _ _ _ _ _ _ _ _)
   | (with_reducible exact ih5 _ _ _ _ _ _ _ _ _ _ _ _ _ _ _ _ _ _)
   | (with_reducible exact ih6 _ _ _ _ _ _ _ _ _ _ _ _ _ _ _ _ _)
   | (with_reducible exact ih7 _ _ _ _ _ _ _ _ _ _ _ _ _ _ _ _ _)
   | (with_reducible exact ih8 _ _ _ _ _ _ _ _ _ _ _ _ _ _ _ _ _)
   | (with_reducible exact feed_New.mono _ _ _ _)
   | (with_reducible exact gangwaylaw0_Bytes.mono _ _)
   | (with_reducible exact gangwaylaw0_Longs.mono _ _)
   | (with_reducible exact gangwaylaw23_heavy.mono _ _ _ _ _)
   | (with_reducible exact gangwaylaw23_wakes.mono _)
   | (with_reducible exact gangwayref0_CopyScript.mono _ _ _ _)
   | (with_reducible exact gangwayref0_EqBytes.mono _ _ _)
   | (with_reducible exact gangwayref23_Feed_Random.mono _ _ _ _ _ _ _ _)
   | (with_reducible exact gangwayref23_Feed_Stdin.mono _ _ _ _ _ _ _ _)
   | (with_reducible exact gangwayref23_May.mono _ _ _ _)
   | (with_reducible exact LeO.refl _)
   | (with_reducible exact LeO.none _)
   | (with_reducible refine LeO.ite ?_ ?_)
   | (with_reducible refine LeO.bind ?_ (fun _ => ?_))
   | exact ih0 _ _ _ _ _ _ _ _ _ _ _ _ _ _
   | exact ih1 _ _ _ _ _ _ _ _ _ _ _ _ _ _ _
   | exact ih2 _ _ _ _ _ _ _ _ _ _ _ _ _ _ _ _ _
   | exact ih3 _ _ _ _ _ _ _ _ _ _ _ _ _ _ _ _
   | exact ih4 _ _ _ _ _ _ _ _ _ _ _ _ _ _
   | exact ih5 _ _ _ _ _ _ _ _ _ _ _ _ _ _ _ _ _ _
   | exact ih6 _ _ _ _ _ _ _ _ _ _ _ _ _ _ _ _ _
   | exact ih7 _ _ _ _ _ _ _ _ _ _ _ _ _ _ _ _ _
   | exact ih8 _ _ _ _ _ _ _ _ _ _ _ _ _ _ _ _ _
   | exact feed_New.mono _ _ _ _
   | exact gangwaylaw0_Bytes.mono _ _
   | exact gangwaylaw0_Longs.mono _ _
   | exact gangwaylaw23_heavy.mono _ _ _ _ _
   | exact gangwaylaw23_wakes.mono _
   | exact gangwayref0_CopyScript.mono _ _ _ _
   | exact gangwayref0_EqBytes.mono _ _ _
   | exact gangwayref23_Feed_Random.mono _ _ _ _ _ _ _ _
   | exact gangwayref23_Feed_Stdin.mono _ _ _ _ _ _ _ _
   | exact gangwayref23_May.mono _ _ _ _
   | exact LeO.none _
   | refine LeO.ite ?_ ?_
   | refine LeO.bind ?_ (fun _ => ?_)
  ·intro y0 y1 y2 y3 y4 y5 y6 y7 y8 y9 y10 y11 y12 y13 y14 y15 y16
   unfold gangwaylaw23_FeedExact.j2
   repeat' first
   | (with_reducible exact ih0 _ _ _ _ _ _ _ _ _ _ _ _ _ _)
   | (with_reducible exact ih1 _ _ _ _ _ _ _ _ _ _ _ _ _ _ _)
   | (with_reducible exact ih2 _ _ _ _ _ _ _ _ _ _ _ _ _ _ _ _ _)
   | (with_reducible exact ih3 _ _ _ _ _ _ _ _ _ _ _ _ _ _ _ _)
   | (with_reducible exact ih4 _ _ _ _ _ _ _ _ _ _ _ _ _ _)
   | (with_reducible exact ih5 _ _ _ _ _ _ _ _ _ _ _ _ _ _ _ _ _ _)
   | (with_reducible exact ih6 _ _ _ _ _ _ _ _ _ _ _ _ _ _ _ _ _)
   | (with_reducible exact ih7 _ _ _ _ _ _ _ _ _ _ _ _ _ _ _ _ _)
   | (with_reducible exact ih8 _ _ _ _ _ _ _ _ _ _ _ _ _ _ _ _ _)
   | (with_reducible exact feed_New.mono _ _ _ _)
   | (with_reducible exact gangwaylaw0_Bytes.mono _ _)
   | (with_reducible exact gangwaylaw0_Longs.mono _ _)
   | (with_reducible exact gangwaylaw23_heavy.mono _ _ _ _ _)
   | (with_reducible exact gangwaylaw23_wakes.mono _)
   | (with_reducible exact gangwayref0_CopyScript.mono _ _ _ _)
   | (with_reducible exact gangwayref0_EqBytes.mono _ _ _)
   | (with_reducible exact gangwayref23_Feed_Random.mono _ _ _ _ _ _ _ _)
   | (with_reducible exact gangwayref23_Feed_Stdin.mono _ _ _ _ _ _ _ _)
   | (with_reducible exact gangwayref23_May.mono _ _ _ _)
   | (with_reducible exact LeO.refl _)
   | (with_reducible exact LeO.none _)
   | (with_reducible refine LeO.ite ?_ ?_)
   | (with_reducible refine LeO.bind ?_ (fun _ => ?_))
   | exact ih0 _ _ _ _ _ _ _ _ _ _ _ _ _ _
   | exact ih1 _ _ _ _ _ _ _ _ _ _ _ _ _ _ _
   | exact ih2 _ _ _ _ _ _ _ _ _ _ _ _ _ _ _ _ _
   | exact ih3 _ _ _ _ _ _ _ _ _ _ _ _ _ _ _ _
   | exact ih4 _ _ _ _ _ _ _ _ _ _ _ _ _ _
   | exact ih5 _ _ _ _ _ _ _ _ _ _ _ _ _ _ _ _ _ _
   | exact ih6 _ _ _ _ _ _ _ _ _ _ _ _ _ _ _ _ _
   | exact ih7 _ _ _ _ _ _ _ _ _ _ _ _ _ _ _ _ _
   | exact ih8 _ _ _ _ _ _ _ _ _ _ _ _ _ _ _ _ _
   | exact feed_New.mono _ _ _ _
   | exact gangwaylaw0_Bytes.mono _ _
   | exact gangwaylaw0_Longs.mono _ _
   | exact gangwaylaw23_heavy.mono _ _ _ _ _
   | exact gangwaylaw23_wakes.mono _
   | exact gangwayref0_CopyScript.mono _ _ _ _
   | exact gangwayref0_EqBytes.mono _ _ _
   | exact gangwayref23_Feed_Random.mono _ _ _ _ _ _ _ _
   | exact gangwayref23_Feed_Stdin.mono _ _ _ _ _ _ _ _
   | exact gangwayref23_May.mono _ _ _ _
   | exact LeO.none _
   | refine LeO.ite ?_ ?_
   | refine LeO.bind ?_ (fun _ => ?_)
  ·intro y0 y1 y2 y3 y4 y5 y6 y7 y8 y9 y10 y11 y12 y13 y14 y15
   unfold gangwaylaw23_FeedExact.j3
   repeat' first
   | (with_reducible exact ih0 _ _ _ _ _ _ _ _ _ _ _ _ _ _)
   | (with_reducible exact ih1 _ _ _ _ _ _ _ _ _ _ _ _ _ _ _)
   | (with_reducible exact ih2 _ _ _ _ _ _ _ _ _ _ _ _ _ _ _ _ _)
   | (with_reducible exact ih3 _ _ _ _ _ _ _ _ _ _ _ _ _ _ _ _)
   | (with_reducible exact ih4 _ _ _ _ _ _ _ _ _ _ _ _ _ _)
   | (with_reducible exact ih5 _ _ _ _ _ _ _ _ _ _ _ _ _ _ _ _ _ _)
   | (with_reducible exact ih6 _ _ _ _ _ _ _ _ _ _ _ _ _ _ _ _ _)
   | (with_reducible exact ih7 _ _ _ _ _ _ _ _ _ _ _ _ _ _ _ _ _)
   | (with_reducible exact ih8 _ _ _ _ _ _ _ _ _ _ _ _ _ _ _ _ _)
   | (with_reducible exact feed_New.mono _ _ _ _)
   | (with_reducible exact gangwaylaw0_Bytes.mono _ _)
   | (with_reducible exact gangwaylaw0_Longs.mono _ _)
   | (with_reducible exact gangwaylaw23_heavy.mono _ _ _ _ _)
   | (with_reducible exact gangwaylaw23_wakes.mono _)
   | (with_reducible exact gangwayref0_CopyScript.mono _ _ _ _)
   | (with_reducible exact gangwayref0_EqBytes.mono _ _ _)
   | (with_reducible exact gangwayref23_Feed_Random.mono _ _ _ _ _ _ _ _)
   | (with_reducible exact gangwayref23_Feed_Stdin.mono _ _ _ _ _ _ _ _)
   | (with_reducible exact gangwayref23_May.mono _ _ _ _)
   | (with_reducible exact LeO.refl _)
   | (with_reducible exact LeO.none _)
   | (with_reducible refine LeO.ite ?_ ?_)
   | (with_reducible refine LeO.bind ?_ (fun _ => ?_))
   | exact ih0 _ _ _ _ _ _ _ _ _ _ _ _ _ _
   | exact ih1 _ _ _ _ _ _ _ _ _ _ _ _ _ _ _
   | exact ih2 _ _ _ _ _ _ _ _ _ _ _ _ _ _ _ _ _
   | exact ih3 _ _ _ _ _ _ _ _ _ _ _ _ _ _ _ _
   | exact ih4 _ _ _ _ _ _ _ _ _ _ _ _ _ _
   | exact ih5 _ _ _ _ _ _ _ _ _ _ _ _ _ _ _ _ _ _
   | exact ih6 _ _ _ _ _ _ _ _ _ _ _ _ _ _ _ _ _
   | exact ih7 _ _ _ _ _ _ _ _ _ _ _ _ _ _ _ _ _
   | exact ih8 _ _ _ _ _ _ _ _ _ _ _ _ _ _ _ _ _
   | exact feed_New.mono _ _ _ _
   | exact gangwaylaw0_Bytes.mono _ _
   | exact gangwaylaw0_Longs.mono _ _
   | exact gangwaylaw23_heavy.mono _ _ _ _ _
   | exact gangwaylaw23_wakes.mono _
   | exact gangwayref0_CopyScript.mono _ _ _ _
   | exact gangwayref0_EqBytes.mono _ _ _
   | exact gangwayref23_Feed_Random.mono _ _ _ _ _ _ _ _
   | exact gangwayref23_Feed_Stdin.mono _ _ _ _ _ _ _ _
   | exact gangwayref23_May.mono _ _ _ _
   | exact LeO.none _
   | refine LeO.ite ?_ ?_
   | refine LeO.bind ?_ (fun _ => ?_)
  ·intro y0 y1 y2 y3 y4 y5 y6 y7 y8 y9 y10 y11 y12 y13
   unfold gangwaylaw23_FeedExact.j8
   repeat' first
   | (with_reducible exact ih0 _ _ _ _ _ _ _ _ _ _ _ _ _ _)
   | (with_reducible exact ih1 _ _ _ _ _ _ _ _ _ _ _ _ _ _ _)
   | (with_reducible exact ih2 _ _ _ _ _ _ _ _ _ _ _ _ _ _ _ _ _)
   | (with_reducible exact ih3 _ _ _ _ _ _ _ _ _ _ _ _ _ _ _ _)
   | (with_reducible exact ih4 _ _ _ _ _ _ _ _ _ _ _ _ _ _)
   | (with_reducible exact ih5 _ _ _ _ _ _ _ _ _ _ _ _ _ _ _ _ _ _)
   | (with_reducible exact ih6 _ _ _ _ _ _ _ _ _ _ _ _ _ _ _ _ _)
   | (with_reducible exact ih7 _ _ _ _ _ _ _ _ _ _ _ _ _ _ _ _ _)
   | (with_reducible exact ih8 _ _ _ _ _ _ _ _ _ _ _ _ _ _ _ _ _)
   | (with_reducible exact feed_New.mono _ _ _ _)
   | (with_reducible exact gangwaylaw0_Bytes.mono _ _)
   | (with_reducible exact gangwaylaw0_Longs.mono _ _)
   | (with_reducible exact gangwaylaw23_heavy.mono _ _ _ _ _)
   | (with_reducible exact gangwaylaw23_wakes.mono _)
   | (with_reducible exact gangwayref0_CopyScript.mono _ _ _ _)
   | (with_reducible exact gangwayref0_EqBytes.mono _ _ _)
   | (with_reducible exact gangwayref23_Feed_Random.mono _ _ _ _ _ _ _ _)
   | (with_reducible exact gangwayref23_Feed_Stdin.mono _ _ _ _ _ _ _ _)
   | (with_reducible exact gangwayref23_May.mono _ _ _ _)
   | (with_reducible exact LeO.refl _)
   | (with_reducible exact LeO.none _)
   | (with_reducible refine LeO.ite ?_ ?_)
   | (with_reducible refine LeO.bind ?_ (fun _ => ?_))
   | exact ih0 _ _ _ _ _ _ _ _ _ _ _ _ _ _
   | exact ih1 _ _ _ _ _ _ _ _ _ _ _ _ _ _ _
   | exact ih2 _ _ _ _ _ _ _ _ _ _ _ _ _ _ _ _ _
   | exact ih3 _ _ _ _ _ _ _ _ _ _ _ _ _ _ _ _
   | exact ih4 _ _ _ _ _ _ _ _ _ _ _ _ _ _
   | exact ih5 _ _ _ _ _ _ _ _ _ _ _ _ _ _ _ _ _ _
   | exact ih6 _ _ _ _ _ _ _ _ _ _ _ _ _ _ _ _ _
   | exact ih7 _ _ _ _ _ _ _ _ _ _ _ _ _ _ _ _ _
   | exact ih8 _ _ _ _ _ _ _ _ _ _ _ _ _ _ _ _ _
   | exact feed_New.mono _ _ _ _
   | exact gangwaylaw0_Bytes.mono _ _
   | exact gangwaylaw0_Longs.mono _ _
   | exact gangwaylaw23_heavy.mono _ _ _ _ _
   | exact gangwaylaw23_wakes.mono _
   | exact gangwayref0_CopyScript.mono _ _ _ _
   | exact gangwayref0_EqBytes.mono _ _ _
   | exact gangwayref23_Feed_Random.mono _ _ _ _ _ _ _ _
   | exact gangwayref23_Feed_Stdin.mono _ _ _ _ _ _ _ _
   | exact gangwayref23_May.mono _ _ _ _
   | exact LeO.none _
   | refine LeO.ite ?_ ?_
   | refine LeO.bind ?_ (fun _ => ?_)
  ·intro y0 y1 y2 y3 y4 y5 y6 y7 y8 y9 y10 y11 y12 y13 y14 y15 y16 y17
   unfold gangwaylaw23_FeedExact.j4
   repeat' first
   | (with_reducible exact ih0 _ _ _ _ _ _ _ _ _ _ _ _ _ _)
   | (with_reducible exact ih1 _ _ _ _ _ _ _ _ _ _ _ _ _ _ _)
   | (with_reducible exact ih2 _ _ _ _ _ _ _ _ _ _ _ _ _ _ _ _ _)
   | (with_reducible exact ih3 _ _ _ _ _ _ _ _ _ _ _ _ _ _ _ _)
   | (with_reducible exact ih4 _ _ _ _ _ _ _ _ _ _ _ _ _ _)
   | (with_reducible exact ih5 _ _ _ _ _ _ _ _ _ _ _ _ _ _ _ _ _ _)
   | (with_reducible exact ih6 _ _ _ _ _ _ _ _ _ _ _ _ _ _ _ _ _)
   | (with_reducible exact ih7 _ _ _ _ _ _ _ _ _ _ _ _ _ _ _ _ _)
   | (with_reducible exact ih8 _ _ _ _ _ _ _ _ _ _ _ _ _ _ _ _ _)
   | (with_reducible exact feed_New.mono _ _ _ _)
   | (with_reducible exact gangwaylaw0_Bytes.mono _ _)
   | (with_reducible exact gangwaylaw0_Longs.mono _ _)
   | (with_reducible exact gangwaylaw23_heavy.mono _ _ _ _ _)
   | (with_reducible exact gangwaylaw23_wakes.mono _)
   | (with_reducible exact gangwayref0_CopyScript.mono _ _ _ _)
   | (with_reducible exact gangwayref0_EqBytes.mono _ _ _)
   | (with_reducible exact gangwayref23_Feed_Random.mono _ _ _ _ _ _ _ _)
   | (with_reducible exact gangwayref23_Feed_Stdin.mono _ _ _ _ _ _ _ _)
   | (with_reducible exact gangwayref23_May.mono _ _ _ _)
   | (with_reducible exact LeO.refl _)
   | (with_reducible exact LeO.none _)
   | (with_reducible refine LeO.ite ?_ ?_)
   | (with_reducible refine LeO.bind ?_ (fun _ => ?_))
   | exact ih0 _ _ _ _ _ _ _ _ _ _ _ _ _ _
   | exact ih1 _ _ _ _ _ _ _ _ _ _ _ _ _ _ _
   | exact ih2 _ _ _ _ _ _ _ _ _ _ _ _ _ _ _ _ _
   | exact ih3 _ _ _ _ _ _ _ _ _ _ _ _ _ _ _ _
   | exact ih4 _ _ _ _ _ _ _ _ _ _ _ _ _ _
   | exact ih5 _ _ _ _ _ _ _ _ _ _ _ _ _ _ _ _ _ _
   | exact ih6 _ _ _ _ _ _ _ _ _ _ _ _ _ _ _ _ _
   | exact ih7 _ _ _ _ _ _ _ _ _ _ _ _ _ _ _ _ _
   | exact ih8 _ _ _ _ _ _ _ _ _ _ _ _ _ _ _ _ _
   | exact feed_New.mono _ _ _ _
   | exact gangwaylaw0_Bytes.mono _ _
   | exact gangwaylaw0_Longs.mono _ _
   | exact gangwaylaw23_heavy.mono _ _ _ _ _
   | exact gangwaylaw23_wakes.mono _
   | exact gangwayref0_CopyScript.mono _ _ _ _
   | exact gangwayref0_EqBytes.mono _ _ _
   | exact gangwayref23_Feed_Random.mono _ _ _ _ _ _ _ _
   | exact gangwayref23_Feed_Stdin.mono _ _ _ _ _ _ _ _
   | exact gangwayref23_May.mono _ _ _ _
   | exact LeO.none _
   | refine LeO.ite ?_ ?_
   | refine LeO.bind ?_ (fun _ => ?_)
  ·intro y0 y1 y2 y3 y4 y5 y6 y7 y8 y9 y10 y11 y12 y13 y14 y15 y16
   unfold gangwaylaw23_FeedExact.j5
   repeat' first
   | (with_reducible exact ih0 _ _ _ _ _ _ _ _ _ _ _ _ _ _)
   | (with_reducible exact ih1 _ _ _ _ _ _ _ _ _ _ _ _ _ _ _)
   | (with_reducible exact ih2 _ _ _ _ _ _ _ _ _ _ _ _ _ _ _ _ _)
   | (with_reducible exact ih3 _ _ _ _ _ _ _ _ _ _ _ _ _ _ _ _)
   | (with_reducible exact ih4 _ _ _ _ _ _ _ _ _ _ _ _ _ _)
   | (with_reducible exact ih5 _ _ _ _ _ _ _ _ _ _ _ _ _ _ _ _ _ _)
   | (with_reducible exact ih6 _ _ _ _ _ _ _ _ _ _ _ _ _ _ _ _ _)
   | (with_reducible exact ih7 _ _ _ _ _ _ _ _ _ _ _ _ _ _ _ _ _)
   | (with_reducible exact ih8 _ _ _ _ _ _ _ _ _ _ _ _ _ _ _ _ _)
   | (with_reducible exact feed_New.mono _ _ _ _)
   | (with_reducible exact gangwaylaw0_Bytes.mono _ _)
   | (with_reducible exact gangwaylaw0_Longs.mono _ _)
   | (with_reducible exact gangwaylaw23_heavy.mono _ _ _ _ _)
   | (with_reducible exact gangwaylaw23_wakes.mono _)
   | (with_reducible exact gangwayref0_CopyScript.mono _ _ _ _)
   | (with_reducible exact gangwayref0_EqBytes.mono _ _ _)
   | (with_reducible exact gangwayref23_Feed_Random.mono _ _ _ _ _ _ _ _)
   | (with_reducible exact gangwayref23_Feed_Stdin.mono _ _ _ _ _ _ _ _)
   | (with_reducible exact gangwayref23_May.mono _ _ _ _)
   | (with_reducible exact LeO.refl _)
   | (with_reducible exact LeO.none _)
   | (with_reducible refine LeO.ite ?_ ?_)
   | (with_reducible refine LeO.bind ?_ (fun _ => ?_))
   | exact ih0 _ _ _ _ _ _ _ _ _ _ _ _ _ _
   | exact ih1 _ _ _ _ _ _ _ _ _ _ _ _ _ _ _
   | exact ih2 _ _ _ _ _ _ _ _ _ _ _ _ _ _ _ _ _
   | exact ih3 _ _ _ _ _ _ _ _ _ _ _ _ _ _ _ _
   | exact ih4 _ _ _ _ _ _ _ _ _ _ _ _ _ _
   | exact ih5 _ _ _ _ _ _ _ _ _ _ _ _ _ _ _ _ _ _
   | exact ih6 _ _ _ _ _ _ _ _ _ _ _ _ _ _ _ _ _
   | exact ih7 _ _ _ _ _ _ _ _ _ _ _ _ _ _ _ _ _
   | exact ih8 _ _ _ _ _ _ _ _ _ _ _ _ _ _ _ _ _
   | exact feed_New.mono _ _ _ _
   | exact gangwaylaw0_Bytes.mono _ _
   | exact gangwaylaw0_Longs.mono _ _
   | exact gangwaylaw23_heavy.mono _ _ _ _ _
   | exact gangwaylaw23_wakes.mono _
   | exact gangwayref0_CopyScript.mono _ _ _ _
   | exact gangwayref0_EqBytes.mono _ _ _
   | exact gangwayref23_Feed_Random.mono _ _ _ _ _ _ _ _
   | exact gangwayref23_Feed_Stdin.mono _ _ _ _ _ _ _ _
   | exact gangwayref23_May.mono _ _ _ _
   | exact LeO.none _
   | refine LeO.ite ?_ ?_
   | refine LeO.bind ?_ (fun _ => ?_)
  ·intro y0 y1 y2 y3 y4 y5 y6 y7 y8 y9 y10 y11 y12 y13 y14 y15 y16
   unfold gangwaylaw23_FeedExact.j6
   repeat' first
   | (with_reducible exact ih0 _ _ _ _ _ _ _ _ _ _ _ _ _ _)
   | (with_reducible exact ih1 _ _ _ _ _ _ _ _ _ _ _ _ _ _ _)
   | (with_reducible exact ih2 _ _ _ _ _ _ _ _ _ _ _ _ _ _ _ _ _)
   | (with_reducible exact ih3 _ _ _ _ _ _ _ _ _ _ _ _ _ _ _ _)
   | (with_reducible exact ih4 _ _ _ _ _ _ _ _ _ _ _ _ _ _)
   | (with_reducible exact ih5 _ _ _ _ _ _ _ _ _ _ _ _ _ _ _ _ _ _)
   | (with_reducible exact ih6 _ _ _ _ _ _ _ _ _ _ _ _ _ _ _ _ _)
   | (with_reducible exact ih7 _ _ _ _ _ _ _ _ _ _ _ _ _ _ _ _ _)
   | (with_reducible exact ih8 _ _ _ _ _ _ _ _ _ _ _ _ _ _ _ _ _)
   | (with_reducible exact feed_New.mono _ _ _ _)
   | (with_reducible exact gangwaylaw0_Bytes.mono _ _)
   | (with_reducible exact gangwaylaw0_Longs.mono _ _)
   | (with_reducible exact gangwaylaw23_heavy.mono _ _ _ _ _)
   | (with_reducible exact gangwaylaw23_wakes.mono _)
   | (with_reducible exact gangwayref0_CopyScript.mono _ _ _ _)
   | (with_reducible exact gangwayref0_EqBytes.mono _ _ _)
   | (with_reducible exact gangwayref23_Feed_Random.mono _ _ _ _ _ _ _ _)
   | (with_reducible exact gangwayref23_Feed_Stdin.mono _ _ _ _ _ _ _ _)
   | (with_reducible exact gangwayref23_May.mono _ _ _ _)
   | (with_reducible exact LeO.refl _)
   | (with_reducible exact LeO.none _)
   | (with_reducible refine LeO.ite ?_ ?_)
   | (with_reducible refine LeO.bind ?_ (fun _ => ?_))
   | exact ih0 _ _ _ _ _ _ _ _ _ _ _ _ _ _
   | exact ih1 _ _ _ _ _ _ _ _ _ _ _ _ _ _ _
   | exact ih2 _ _ _ _ _ _ _ _ _ _ _ _ _ _ _ _ _
   | exact ih3 _ _ _ _ _ _ _ _ _ _ _ _ _ _ _ _
   | exact ih4 _ _ _ _ _ _ _ _ _ _ _ _ _ _
   | exact ih5 _ _ _ _ _ _ _ _ _ _ _ _ _ _ _ _ _ _
   | exact ih6 _ _ _ _ _ _ _ _ _ _ _ _ _ _ _ _ _
   | exact ih7 _ _ _ _ _ _ _ _ _ _ _ _ _ _ _ _ _
   | exact ih8 _ _ _ _ _ _ _ _ _ _ _ _ _ _ _ _ _
   | exact feed_New.mono _ _ _ _
   | exact gangwaylaw0_Bytes.mono _ _
   | exact gangwaylaw0_Longs.mono _ _
   | exact gangwaylaw23_heavy.mono _ _ _ _ _
   | exact gangwaylaw23_wakes.mono _
   | exact gangwayref0_CopyScript.mono _ _ _ _
   | exact gangwayref0_EqBytes.mono _ _ _
   | exact gangwayref23_Feed_Random.mono _ _ _ _ _ _ _ _
   | exact gangwayref23_Feed_Stdin.mono _ _ _ _ _ _ _ _
   | exact gangwayref23_May.mono _ _ _ _
   | exact LeO.none _
   | refine LeO.ite ?_ ?_
   | refine LeO.bind ?_ (fun _ => ?_)
  ·intro y0 y1 y2 y3 y4 y5 y6 y7 y8 y9 y10 y11 y12 y13 y14 y15 y16
   unfold gangwaylaw23_FeedExact.j7
   repeat' first
   | (with_reducible exact ih0 _ _ _ _ _ _ _ _ _ _ _ _ _ _)
   | (with_reducible exact ih1 _ _ _ _ _ _ _ _ _ _ _ _ _ _ _)
   | (with_reducible exact ih2 _ _ _ _ _ _ _ _ _ _ _ _ _ _ _ _ _)
   | (with_reducible exact ih3 _ _ _ _ _ _ _ _ _ _ _ _ _ _ _ _)
   | (with_reducible exact ih4 _ _ _ _ _ _ _ _ _ _ _ _ _ _)
   | (with_reducible exact ih5 _ _ _ _ _ _ _ _ _ _ _ _ _ _ _ _ _ _)
   | (with_reducible exact ih6 _ _ _ _ _ _ _ _ _ _ _ _ _ _ _ _ _)
   | (with_reducible exact ih7 _ _ _ _ _ _ _ _ _ _ _ _ _ _ _ _ _)
   | (with_reducible exact ih8 _ _ _ _ _ _ _ _ _ _ _ _ _ _ _ _ _)
   | (with_reducible exact feed_New.mono _ _ _ _)
   | (with_reducible exact gangwaylaw0_Bytes.mono _ _)
   | (with_reducible exact gangwaylaw0_Longs.mono _ _)
   | (with_reducible exact gangwaylaw23_heavy.mono _ _ _ _ _)
   | (with_reducible exact gangwaylaw23_wakes.mono _)
   | (with_reducible exact gangwayref0_CopyScript.mono _ _ _ _)
   | (with_reducible exact gangwayref0_EqBytes.mono _ _ _)
   | (with_reducible exact gangwayref23_Feed_Random.mono _ _ _ _ _ _ _ _)
   | (with_reducible exact gangwayref23_Feed_Stdin.mono _ _ _ _ _ _ _ _)
   | (with_reducible exact gangwayref23_May.mono _ _ _ _)
   | (with_reducible exact LeO.refl _)
   | (with_reducible exact LeO.none _)
   | (with_reducible refine LeO.ite ?_ ?_)
   | (with_reducible refine LeO.bind ?_ (fun _ => ?_))
   | exact ih0 _ _ _ _ _ _ _ _ _ _ _ _ _ _
   | exact ih1 _ _ _ _ _ _ _ _ _ _ _ _ _ _ _
   | exact ih2 _ _ _ _ _ _ _ _ _ _ _ _ _ _ _ _ _
   | exact ih3 _ _ _ _ _ _ _ _ _ _ _ _ _ _ _ _
   | exact ih4 _ _ _ _ _ _ _ _ _ _ _ _ _ _
   | exact ih5 _ _ _ _ _ _ _ _ _ _ _ _ _ _ _ _ _ _
   | exact ih6 _ _ _ _ _ _ _ _ _ _ _ _ _ _ _ _ _
   | exact ih7 _ _ _ _ _ _ _ _ _ _ _ _ _ _ _ _ _
   | exact ih8 _ _ _ _ _ _ _ _ _ _ _ _ _ _ _ _ _
   | exact feed_New.mono _ _ _ _
   | exact gangwaylaw0_Bytes.mono _ _
   | exact gangwaylaw0_Longs.mono _ _
   | exact gangwaylaw23_heavy.mono _ _ _ _ _
   | exact gangwaylaw23_wakes.mono _
   | exact gangwayref0_CopyScript.mono _ _ _ _
   | exact gangwayref0_EqBytes.mono _ _ _
   | exact gangwayref23_Feed_Random.mono _ _ _ _ _ _ _ _
   | exact gangwayref23_Feed_Stdin.mono _ _ _ _ _ _ _ _
   | exact gangwayref23_May.mono _ _ _ _
   | exact LeO.none _
   | refine LeO.ite ?_ ?_
   | refine LeO.bind ?_ (fun _ => ?_)
theorem gangwaylaw23_FeedExact.mono : ∀ a0 a1 a2 a3 k, LeO (gangwaylaw23_FeedExact.f k a0 a1 a2 a3) (gangwaylaw23_FeedExact.f (k + 1) a0 a1 a2 a3) := by
 intro a0 a1 a2 a3 k
 obtain ⟨ih0, ih1, ih2, ih3, ih4, ih5, ih6, ih7, ih8⟩ := gangwaylaw23_FeedExact.mono_l k
 unfold gangwaylaw23_FeedExact.f
 repeat' first
   | (with_reducible exact ih0 _ _ _ _ _ _ _ _ _ _ _ _ _ _)
   | (with_reducible exact ih1 _ _ _ _ _ _ _ _ _ _ _ _ _ _ _)
   | (with_reducible exact ih2 _ _ _ _ _ _ _ _ _ _ _ _ _ _ _ _ _)
   | (with_reducible exact ih3 _ _ _ _ _ _ _ _ _ _ _ _ _ _ _ _)
   | (with_reducible exact ih4 _ _ _ _ _ _ _ _ _ _ _ _ _ _)
   | (with_reducible exact ih5 _ _ _ _ _ _ _ _ _ _ _ _ _ _ _ _ _ _)
   | (with_reducible exact ih6 _ _ _ _ _ _ _ _ _ _ _ _ _ _ _ _ _)
   | (with_reducible exact ih7 _ _ _ _ _ _ _ _ _ _ _ _ _ _ _ _ _)
   | (with_reducible exact ih8 _ _ _ _ _ _ _ _ _ _ _ _ _ _ _ _ _)
   | (with_reducible exact feed_New.mono _ _ _ _)
   | (with_reducible exact gangwaylaw0_Bytes.mono _ _)
   | (with_reducible exact gangwaylaw0_Longs.mono _ _)
   | (with_reducible exact gangwaylaw23_heavy.mono _ _ _ _ _)
   | (with_reducible exact gangwaylaw23_wakes.mono _)
   | (with_reducible exact gangwayref0_CopyScript.mono _ _ _ _)
   | (with_reducible exact gangwayref0_EqBytes.mono _ _ _)
   | (with_reducible exact gangwayref23_Feed_Random.mono _ _ _ _ _ _ _ _)
   | (with_reducible exact gangwayref23_Feed_Stdin.mono _ _ _ _ _ _ _ _)
   | (with_reducible exact gangwayref23_May.mono _ _ _ _)
   | (with_reducible exact LeO.refl _)
   | (with_reducible exact LeO.none _)
   | (with_reducible refine LeO.ite ?_ ?_)
   | (with_reducible refine LeO.bind ?_ (fun _ => ?_))
   | exact ih0 _ _ _ _ _ _ _ _ _ _ _ _ _ _
   | exact ih1 _ _ _ _ _ _ _ _ _ _ _ _ _ _ _
   | exact ih2 _ _ _ _ _ _ _ _ _ _ _ _ _ _ _ _ _
   | exact ih3 _ _ _ _ _ _ _ _ _ _ _ _ _ _ _ _
   | exact ih4 _ _ _ _ _ _ _ _ _ _ _ _ _ _
   | exact ih5 _ _ _ _ _ _ _ _ _ _ _ _ _ _ _ _ _ _
   | exact ih6 _ _ _ _ _ _ _ _ _ _ _ _ _ _ _ _ _
   | exact ih7 _ _ _ _ _ _ _ _ _ _ _ _ _ _ _ _ _
   | exact ih8 _ _ _ _ _ _ _ _ _ _ _ _ _ _ _ _ _
   | exact feed_New.mono _ _ _ _
   | exact gangwaylaw0_Bytes.mono _ _
   | exact gangwaylaw0_Longs.mono _ _
   | exact gangwaylaw23_heavy.mono _ _ _ _ _
   | exact gangwaylaw23_wakes.mono _
   | exact gangwayref0_CopyScript.mono _ _ _ _
   | exact gangwayref0_EqBytes.mono _ _ _
   | exact gangwayref23_Feed_Random.mono _ _ _ _ _ _ _ _
   | exact gangwayref23_Feed_Stdin.mono _ _ _ _ _ _ _ _
   | exact gangwayref23_May.mono _ _ _ _
   | exact LeO.none _
   | refine LeO.ite ?_ ?_
   | refine LeO.bind ?_ (fun _ => ?_)
set_option maxHeartbeats 8000000 in
set_option maxRecDepth 100000 in
theorem gangwaylaw23_FeedExact.calls (k : Nat) (A0_0 : Option Addr) (c0_0 : Nat) (l0_0 : List Int) (A0_1 : Option Addr) (c0_1 : Nat) (l0_1 : List Int) (A0_2 : Option Addr) (c0_2 : Nat) (l0_2 : List Int) (A0_3 : Option Addr) (c0_3 : Nat) (l0_3 : List (S45)) (r : Bool) (w : World) (hr0_0 : Kd.C (Kd.int .i64) w A0_0 l0_0.length l0_0) (hc0_0 : l0_0.length ≤ c0_0) (hr0_1 : Kd.C (Kd.int .u8) w A0_1 l0_1.length l0_1) (hc0_1 : l0_1.length ≤ c0_1) (hr0_2 : Kd.C (Kd.int .u8) w A0_2 l0_2.length l0_2) (hc0_2 : l0_2.length ≤ c0_2) (hr0_3 : Kd.C k45 w A0_3 l0_3.length l0_3) (hc0_3 : l0_3.length ≤ c0_3) (h : gangwaylaw23_FeedExact.f k l0_0 l0_1 l0_2 l0_3 = some r) :
  Calls Try.prog 4 #[.agg #[.slice A0_0 l0_0.length c0_0, .slice A0_1 l0_1.length c0_1, .slice A0_2 l0_2.length c0_2, .slice A0_3 l0_3.length c0_3]] w fun e w' => e = .returned (.bool r) ∧ Below w.heap.size w w' := by
 have hu28 := Try.underlying28
 have hu25 := Try.underlying25
 have hu43 := Try.underlying43
 have HR0_0 := Aside0.mk hr0_0
 have HC0_0 := Aside0.mk hc0_0
 clear hr0_0 hc0_0
 have HR0_1 := Aside0.mk hr0_1
 have HC0_1 := Aside0.mk hc0_1
 clear hr0_1 hc0_1
 have HR0_2 := Aside0.mk hr0_2
 have HC0_2 := Aside0.mk hc0_2
 clear hr0_2 hc0_2
 have HR0_3 := Aside0.mk hr0_3
 have HC0_3 := Aside0.mk hc0_3
 clear hr0_3 hc0_3
 have HB := Aside0.mk (Below.refl w.heap.size w)
 have H : ((gangwaylaw23_heavy.f k l0_0 l0_1 l0_2 l0_3).bind fun t314 => (if t314 = true then (some true) else ((gangwayref0_CopyScript.f k l0_0 l0_1 l0_2).bind fun bt315 => ((feed_New.f k bt315.1 bt315.2.1 bt315.2.2).bind fun bt325 => (if bt325.1 = true then ((gangwaylaw0_Longs.f k bt315.1).bind fun _ => ((gangwaylaw0_Bytes.f k bt315.2.1).bind fun _ => ((gangwaylaw0_Bytes.f k bt315.2.2).bind fun _ => ((gangwayref23_May.f k l0_0 l0_1 l0_2).bind fun t337 => (if t337 = true then ((gangwaylaw23_num.f bt325.2.2.2.2).bind fun t339 => (if t339 = 0 then (gangwaylaw23_FeedExact.l0 k 0 l0_0 l0_1 l0_2 l0_3 bt325.2.1 bt325.2.2.1 bt325.2.2.2.1 l0_0 l0_1 l0_2 0 0 0) else (none))) else (none)))))) else ((gangwaylaw0_Longs.f k bt315.1).bind fun _ => ((gangwaylaw0_Bytes.f k bt315.2.1).bind fun _ => ((gangwaylaw0_Bytes.f k bt315.2.2).bind fun _ => ((gangwayref23_May.f k l0_0 l0_1 l0_2).bind fun t496 => (if t496 = true then (none) else ((gangwaylaw23_num.f bt325.2.2.2.2).bind fun t497 => (if t497 = 100 then ((gangwaylaw23_wakes.f k).bind fun t498 => (some t498)) else (none))))))))))))) = some r := h
 clear h
 replace H := Option.bind_eq_some_iff.mp H
 obtain ⟨t314, A20, H⟩ := H
 replace H : (if t314 = true then (some true) else ((gangwayref0_CopyScript.f k l0_0 l0_1 l0_2).bind fun bt315 => ((feed_New.f k bt315.1 bt315.2.1 bt315.2.2).bind fun bt325 => (if bt325.1 = true then ((gangwaylaw0_Longs.f k bt315.1).bind fun _ => ((gangwaylaw0_Bytes.f k bt315.2.1).bind fun _ => ((gangwaylaw0_Bytes.f k bt315.2.2).bind fun _ => ((gangwayref23_May.f k l0_0 l0_1 l0_2).bind fun t337 => (if t337 = true then ((gangwaylaw23_num.f bt325.2.2.2.2).bind fun t339 => (if t339 = 0 then (gangwaylaw23_FeedExact.l0 k 0 l0_0 l0_1 l0_2 l0_3 bt325.2.1 bt325.2.2.1 bt325.2.2.2.1 l0_0 l0_1 l0_2 0 0 0) else (none))) else (none)))))) else ((gangwaylaw0_Longs.f k bt315.1).bind fun _ => ((gangwaylaw0_Bytes.f k bt315.2.1).bind fun _ => ((gangwaylaw0_Bytes.f k bt315.2.2).bind fun _ => ((gangwayref23_May.f k l0_0 l0_1 l0_2).bind fun t496 => (if t496 = true then (none) else ((gangwaylaw23_num.f bt325.2.2.2.2).bind fun t497 => (if t497 = 100 then ((gangwaylaw23_wakes.f k).bind fun t498 => (some t498)) else (none)))))))))))) = some r := H
 have A2 := Aside0.mk A20
 clear A20
 by_cases c3 : t314 = true
 ·subst c3
  have H1 : (some true) = some r := by rw [if_pos rfl] at H; exact H
  clear H
  have H := H1
  clear H1
  obtain rfl := Option.some.inj H
  go_enter Try.func4, Try.ntmps4
  go_wp2_with (first | ((with_reducible refine gate_dst (N := 1) rfl ?_); refine box_event ?hg (N := 1) ?hd (cs := #[.slice A0_0 l0_0.length c0_0, .slice A0_1 l0_1.length c0_1, .slice A0_2 l0_2.length c0_2, .slice A0_3 l0_3.length c0_3]) (t := 28) ?hr ?_; (case hd => rfl); (case hg => rfl); (case hr => first | (go_simp; done) | (go_simp; rfl)); intro gb313 hg w4 hbox hb; have n0_ := Aside0.mk (below_step (by repeat (first | (with_reducible first | exact HB.out | apply below_alloc | apply pw_below_drewN | apply below_drew1) | exact HB.out)) hb); have n1_ := Aside0.mk (hbox); have n2_ := Aside0.mk ((by rw [hg]; exact (below_size (by repeat (first | (with_reducible first | exact HB.out | apply below_alloc | apply pw_below_drewN | apply below_drew1) | exact HB.out))) : w.heap.size ≤ gb313)); have n3_ := Aside0.mk ((by rw [hg]; exact (below_size (by repeat (first | (with_reducible first | exact HB.out | apply below_alloc | apply pw_below_drewN | apply below_drew1) | exact HB.out))) : w.heap.size ≤ gb313)); clear HB; have HB := n0_; have BK313 := n1_; have GW313 := n2_; have GE313 := n3_; clear n0_ n1_ n2_ n3_; clear hb hbox hg; have hcz5_0 : w4.cell? ⟨gb313, 0, none⟩ = some (.slice A0_0 l0_0.length c0_0) := (blk_cell BK313.out 0).trans rfl; have hcz5_1 : w4.cell? ⟨gb313, 1, none⟩ = some (.slice A0_1 l0_1.length c0_1) := (blk_cell BK313.out 1).trans rfl; have hcz5_2 : w4.cell? ⟨gb313, 2, none⟩ = some (.slice A0_2 l0_2.length c0_2) := (blk_cell BK313.out 2).trans rfl; have hcz5_3 : w4.cell? ⟨gb313, 3, none⟩ = some (.slice A0_3 l0_3.length c0_3) := (blk_cell BK313.out 3).trans rfl; have hfz5_0 := blk_frozen BK313.out 0; have hfz5_1 := blk_frozen BK313.out 1; have hfz5_2 := blk_frozen BK313.out 2; have hfz5_3 := blk_frozen BK313.out 3) | ((with_reducible refine gate_callee (f := 6) rfl ?_); refine goesL_ (some 17) rfl rfl Try.func6 (by kernel_rfl) rfl #[.agg #[.slice A0_0 l0_0.length c0_0, .slice A0_1 l0_1.length c0_1, .slice A0_2 l0_2.length c0_2, .slice A0_3 l0_3.length c0_3]] rfl (by (try simp only [List.map_toArray, List.map_cons, List.map_nil]); first | done | rfl | (simp only [List.length_drop, List.length_take]; rfl)) ?_; (with_reducible refine (gangwaylaw23_heavy.calls k _ _ l0_0 _ _ l0_1 _ _ l0_2 _ _ l0_3 true _ ?side1 ?side2 ?side3 ?side4 ?side5 ?side6 ?side7 ?side8 A2.out).mono ?_); (case side1 => repeat (first | exact (Kd.C_below HR0_0.out HB.out) | (with_reducible refine Kd.C_alloc ?_ _) | (with_reducible refine Kd.C_drewN ?_ _) | (with_reducible refine Kd.C_drew ?_))); (case side2 => exact HC0_0.out); (case side3 => repeat (first | exact (Kd.C_below HR0_1.out HB.out) | (with_reducible refine Kd.C_alloc ?_ _) | (with_reducible refine Kd.C_drewN ?_ _) | (with_reducible refine Kd.C_drew ?_))); (case side4 => exact HC0_1.out); (case side5 => repeat (first | exact (Kd.C_below HR0_2.out HB.out) | (with_reducible refine Kd.C_alloc ?_ _) | (with_reducible refine Kd.C_drewN ?_ _) | (with_reducible refine Kd.C_drew ?_))); (case side6 => exact HC0_2.out); (case side7 => repeat (first | exact (Kd.C_below HR0_3.out HB.out) | (with_reducible refine Kd.C_alloc ?_ _) | (with_reducible refine Kd.C_drewN ?_ _) | (with_reducible refine Kd.C_drew ?_))); (case side8 => exact HC0_3.out); rintro e w6 ⟨rfl, hb⟩; refine ⟨_, rfl, ?_⟩; have n0_ := Aside0.mk (blk_below (g := gb313) (o := .cells #[.slice A0_0 l0_0.length c0_0, .slice A0_1 l0_1.length c0_1, .slice A0_2 l0_2.length c0_2, .slice A0_3 l0_3.length c0_3] 28 (0, 0)) (by (with_reducible repeat (first | refine blk_drewN ?_ _ | refine blk_drew ?_ | refine blk_alloc ?_ _)); exact BK313.out) hb); have n1_ := Aside0.mk (below_step (by repeat (first | (with_reducible first | exact HB.out | apply below_alloc | apply pw_below_drewN | apply below_drew1 | refine below_set ?_ GE313.out) | exact HB.out)) hb); clear BK313; clear HB; have BK313 := n0_; have HB := n1_; clear n0_ n1_; (try clear hb); (try clear hb2); (try clear hk); (try clear hi)))
  go_ret
  exact ⟨by first | rfl | (simp [errW_none, errW_some] <;> rfl) | (simp [*, errW_none, errW_some] <;> rfl), by repeat (first | (with_reducible first | exact HB.out | apply below_alloc | apply pw_below_drewN | apply below_drew1 | refine below_set ?_ GE313.out) | exact HB.out)⟩
 replace c3 := Bool.eq_false_iff.mpr c3
 subst c3
 have H1 : ((gangwayref0_CopyScript.f k l0_0 l0_1 l0_2).bind fun bt315 => ((feed_New.f k bt315.1 bt315.2.1 bt315.2.2).bind fun bt325 => (if bt325.1 = true then ((gangwaylaw0_Longs.f k bt315.1).bind fun _ => ((gangwaylaw0_Bytes.f k bt315.2.1).bind fun _ => ((gangwaylaw0_Bytes.f k bt315.2.2).bind fun _ => ((gangwayref23_May.f k l0_0 l0_1 l0_2).bind fun t337 => (if t337 = true then ((gangwaylaw23_num.f bt325.2.2.2.2).bind fun t339 => (if t339 = 0 then (gangwaylaw23_FeedExact.l0 k 0 l0_0 l0_1 l0_2 l0_3 bt325.2.1 bt325.2.2.1 bt325.2.2.2.1 l0_0 l0_1 l0_2 0 0 0) else (none))) else (none)))))) else ((gangwaylaw0_Longs.f k bt315.1).bind fun _ => ((gangwaylaw0_Bytes.f k bt315.2.1).bind fun _ => ((gangwaylaw0_Bytes.f k bt315.2.2).bind fun _ => ((gangwayref23_May.f k l0_0 l0_1 l0_2).bind fun t496 => (if t496 = true then (none) else ((gangwaylaw23_num.f bt325.2.2.2.2).bind fun t497 => (if t497 = 100 then ((gangwaylaw23_wakes.f k).bind fun t498 => (some t498)) else (none))))))))))) = some r := by rw [if_neg (show ¬ (false = true) by decide)] at H; exact H
 clear H
 have H := H1
 clear H1
 replace H := Option.bind_eq_some_iff.mp H
 obtain ⟨⟨t315, t318, t321⟩, A70, H⟩ := H
 replace H : ((feed_New.f k t315 t318 t321).bind fun bt325 => (if bt325.1 = true then ((gangwaylaw0_Longs.f k t315).bind fun _ => ((gangwaylaw0_Bytes.f k t318).bind fun _ => ((gangwaylaw0_Bytes.f k t321).bind fun _ => ((gangwayref23_May.f k l0_0 l0_1 l0_2).bind fun t337 => (if t337 = true then ((gangwaylaw23_num.f bt325.2.2.2.2).bind fun t339 => (if t339 = 0 then (gangwaylaw23_FeedExact.l0 k 0 l0_0 l0_1 l0_2 l0_3 bt325.2.1 bt325.2.2.1 bt325.2.2.2.1 l0_0 l0_1 l0_2 0 0 0) else (none))) else (none)))))) else ((gangwaylaw0_Longs.f k t315).bind fun _ => ((gangwaylaw0_Bytes.f k t318).bind fun _ => ((gangwaylaw0_Bytes.f k t321).bind fun _ => ((gangwayref23_May.f k l0_0 l0_1 l0_2).bind fun t496 => (if t496 = true then (none) else ((gangwaylaw23_num.f bt325.2.2.2.2).bind fun t497 => (if t497 = 100 then ((gangwaylaw23_wakes.f k).bind fun t498 => (some t498)) else (none)))))))))) = some r := H
 have A7 := Aside0.mk A70
 clear A70
 replace H := Option.bind_eq_some_iff.mp H
 obtain ⟨⟨t325, t326, t329, t332, t336⟩, A80, H⟩ := H
 replace H : (if t325 = true then ((gangwaylaw0_Longs.f k t315).bind fun _ => ((gangwaylaw0_Bytes.f k t318).bind fun _ => ((gangwaylaw0_Bytes.f k t321).bind fun _ => ((gangwayref23_May.f k l0_0 l0_1 l0_2).bind fun t337 => (if t337 = true then ((gangwaylaw23_num.f t336).bind fun t339 => (if t339 = 0 then (gangwaylaw23_FeedExact.l0 k 0 l0_0 l0_1 l0_2 l0_3 t326 t329 t332 l0_0 l0_1 l0_2 0 0 0) else (none))) else (none)))))) else ((gangwaylaw0_Longs.f k t315).bind fun _ => ((gangwaylaw0_Bytes.f k t318).bind fun _ => ((gangwaylaw0_Bytes.f k t321).bind fun _ => ((gangwayref23_May.f k l0_0 l0_1 l0_2).bind fun t496 => (if t496 = true then (none) else ((gangwaylaw23_num.f t336).bind fun t497 => (if t497 = 100 then ((gangwaylaw23_wakes.f k).bind fun t498 => (some t498)) else (none))))))))) = some r := H
 have A8 := Aside0.mk A80
 clear A80
 by_cases c9 : t325 = true
 rotate_left
 ·replace c9 := Bool.eq_false_iff.mpr c9
  subst c9
  have H1 : ((gangwaylaw0_Longs.f k t315).bind fun _ => ((gangwaylaw0_Bytes.f k t318).bind fun _ => ((gangwaylaw0_Bytes.f k t321).bind fun _ => ((gangwayref23_May.f k l0_0 l0_1 l0_2).bind fun t496 => (if t496 = true then (none) else ((gangwaylaw23_num.f t336).bind fun t497 => (if t497 = 100 then ((gangwaylaw23_wakes.f k).bind fun t498 => (some t498)) else (none)))))))) = some r := by rw [if_neg (show ¬ (false = true) by decide)] at H; exact H
  clear H
  have H := H1
  clear H1
  replace H := Option.bind_eq_some_iff.mp H
  obtain ⟨_, A1140, H⟩ := H
  replace H : ((gangwaylaw0_Bytes.f k t318).bind fun _ => ((gangwaylaw0_Bytes.f k t321).bind fun _ => ((gangwayref23_May.f k l0_0 l0_1 l0_2).bind fun t496 => (if t496 = true then (none) else ((gangwaylaw23_num.f t336).bind fun t497 => (if t497 = 100 then ((gangwaylaw23_wakes.f k).bind fun t498 => (some t498)) else (none))))))) = some r := H
  have A114 := Aside0.mk A1140
  clear A1140
  replace H := Option.bind_eq_some_iff.mp H
  obtain ⟨_, A1150, H⟩ := H
  replace H : ((gangwaylaw0_Bytes.f k t321).bind fun _ => ((gangwayref23_May.f k l0_0 l0_1 l0_2).bind fun t496 => (if t496 = true then (none) else ((gangwaylaw23_num.f t336).bind fun t497 => (if t497 = 100 then ((gangwaylaw23_wakes.f k).bind fun t498 => (some t498)) else (none)))))) = some r := H
  have A115 := Aside0.mk A1150
  clear A1150
  replace H := Option.bind_eq_some_iff.mp H
  obtain ⟨_, A1160, H⟩ := H
  replace H : ((gangwayref23_May.f k l0_0 l0_1 l0_2).bind fun t496 => (if t496 = true then (none) else ((gangwaylaw23_num.f t336).bind fun t497 => (if t497 = 100 then ((gangwaylaw23_wakes.f k).bind fun t498 => (some t498)) else (none))))) = some r := H
  have A116 := Aside0.mk A1160
  clear A1160
  replace H := Option.bind_eq_some_iff.mp H
  obtain ⟨t496, A1170, H⟩ := H
  replace H : (if t496 = true then (none) else ((gangwaylaw23_num.f t336).bind fun t497 => (if t497 = 100 then ((gangwaylaw23_wakes.f k).bind fun t498 => (some t498)) else (none)))) = some r := H
  have A117 := Aside0.mk A1170
  clear A1170
  by_cases c118 : t496 = true
  ·subst c118
   have H1 : (none) = some r := by rw [if_pos rfl] at H; exact H
   clear H
   have H := H1
   clear H1
   exact absurd H (by simp)
  replace c118 := Bool.eq_false_iff.mpr c118
  subst c118
  have H1 : ((gangwaylaw23_num.f t336).bind fun t497 => (if t497 = 100 then ((gangwaylaw23_wakes.f k).bind fun t498 => (some t498)) else (none))) = some r := by rw [if_neg (show ¬ (false = true) by decide)] at H; exact H
  clear H
  have H := H1
  clear H1
  replace H := Option.bind_eq_some_iff.mp H
  obtain ⟨t497, A1190, H⟩ := H
  replace H : (if t497 = 100 then ((gangwaylaw23_wakes.f k).bind fun t498 => (some t498)) else (none)) = some r := H
  have A119 := Aside0.mk A1190
  clear A1190
  by_cases c120 : t497 = 100
  rotate_left
  ·rw [if_neg c120] at H
   exact absurd H (by simp)
  rw [if_pos c120] at H
  have c120b0 : (t497 == 100) = true := beq_iff_eq.mpr c120
  have c120b1 : (t497 != 100) = false := bne_eq_false_iff_eq.mpr c120
  clear c120
  replace H := Option.bind_eq_some_iff.mp H
  obtain ⟨t498, A1210, H⟩ := H
  replace H : (some t498) = some r := H
  have A121 := Aside0.mk A1210
  clear A1210
  obtain rfl := Option.some.inj H
  go_enter Try.func4, Try.ntmps4
  go_wp2_with (first | ((with_reducible refine gate_dst (N := 1) rfl ?_); refine box_event ?hg (N := 1) ?hd (cs := #[.slice A0_0 l0_0.length c0_0, .slice A0_1 l0_1.length c0_1, .slice A0_2 l0_2.length c0_2, .slice A0_3 l0_3.length c0_3]) (t := 28) ?hr ?_; (case hd => rfl); (case hg => rfl); (case hr => first | (go_simp; done) | (go_simp; rfl)); intro gb313 hg w122 hbox hb; have n0_ := Aside0.mk (below_step (by repeat (first | (with_reducible first | exact HB.out | apply below_alloc | apply pw_below_drewN | apply below_drew1) | exact HB.out)) hb); have n1_ := Aside0.mk (hbox); have n2_ := Aside0.mk ((by rw [hg]; exact (below_size (by repeat (first | (with_reducible first | exact HB.out | apply below_alloc | apply pw_below_drewN | apply below_drew1) | exact HB.out))) : w.heap.size ≤ gb313)); have n3_ := Aside0.mk ((by rw [hg]; exact (below_size (by repeat (first | (with_reducible first | exact HB.out | apply below_alloc | apply pw_below_drewN | apply below_drew1) | exact HB.out))) : w.heap.size ≤ gb313)); clear HB; have HB := n0_; have BK313 := n1_; have GW313 := n2_; have GE313 := n3_; clear n0_ n1_ n2_ n3_; clear hb hbox hg; have hcz123_0 : w122.cell? ⟨gb313, 0, none⟩ = some (.slice A0_0 l0_0.length c0_0) := (blk_cell BK313.out 0).trans rfl; have hcz123_1 : w122.cell? ⟨gb313, 1, none⟩ = some (.slice A0_1 l0_1.length c0_1) := (blk_cell BK313.out 1).trans rfl; have hcz123_2 : w122.cell? ⟨gb313, 2, none⟩ = some (.slice A0_2 l0_2.length c0_2) := (blk_cell BK313.out 2).trans rfl; have hcz123_3 : w122.cell? ⟨gb313, 3, none⟩ = some (.slice A0_3 l0_3.length c0_3) := (blk_cell BK313.out 3).trans rfl; have hfz123_0 := blk_frozen BK313.out 0; have hfz123_1 := blk_frozen BK313.out 1; have hfz123_2 := blk_frozen BK313.out 2; have hfz123_3 := blk_frozen BK313.out 3) | ((with_reducible refine gate_callee (f := 6) rfl ?_); refine goesL_ (some 17) rfl rfl Try.func6 (by kernel_rfl) rfl #[.agg #[.slice A0_0 l0_0.length c0_0, .slice A0_1 l0_1.length c0_1, .slice A0_2 l0_2.length c0_2, .slice A0_3 l0_3.length c0_3]] rfl (by (try simp only [List.map_toArray, List.map_cons, List.map_nil]); first | done | rfl | (simp only [List.length_drop, List.length_take]; rfl)) ?_; (with_reducible refine (gangwaylaw23_heavy.calls k _ _ l0_0 _ _ l0_1 _ _ l0_2 _ _ l0_3 false _ ?side1 ?side2 ?side3 ?side4 ?side5 ?side6 ?side7 ?side8 A2.out).mono ?_); (case side1 => repeat (first | exact (Kd.C_below HR0_0.out HB.out) | (with_reducible refine Kd.C_alloc ?_ _) | (with_reducible refine Kd.C_drewN ?_ _) | (with_reducible refine Kd.C_drew ?_))); (case side2 => exact HC0_0.out); (case side3 => repeat (first | exact (Kd.C_below HR0_1.out HB.out) | (with_reducible refine Kd.C_alloc ?_ _) | (with_reducible refine Kd.C_drewN ?_ _) | (with_reducible refine Kd.C_drew ?_))); (case side4 => exact HC0_1.out); (case side5 => repeat (first | exact (Kd.C_below HR0_2.out HB.out) | (with_reducible refine Kd.C_alloc ?_ _) | (with_reducible refine Kd.C_drewN ?_ _) | (with_reducible refine Kd.C_drew ?_))); (case side6 => exact HC0_2.out); (case side7 => repeat (first | exact (Kd.C_below HR0_3.out HB.out) | (with_reducible refine Kd.C_alloc ?_ _) | (with_reducible refine Kd.C_drewN ?_ _) | (with_reducible refine Kd.C_drew ?_))); (case side8 => exact HC0_3.out); rintro e w124 ⟨rfl, hb⟩; refine ⟨_, rfl, ?_⟩; have n0_ := Aside0.mk (blk_below (g := gb313) (o := .cells #[.slice A0_0 l0_0.length c0_0, .slice A0_1 l0_1.length c0_1, .slice A0_2 l0_2.length c0_2, .slice A0_3 l0_3.length c0_3] 28 (0, 0)) (by (with_reducible repeat (first | refine blk_drewN ?_ _ | refine blk_drew ?_ | refine blk_alloc ?_ _)); exact BK313.out) hb); have n1_ := Aside0.mk (below_step (by repeat (first | (with_reducible first | exact HB.out | apply below_alloc | apply pw_below_drewN | apply below_drew1 | refine below_set ?_ GE313.out) | exact HB.out)) hb); clear BK313; clear HB; have BK313 := n0_; have HB := n1_; clear n0_ n1_; (try clear hb); (try clear hb2); (try clear hk); (try clear hi); have hcz125_0 : w124.cell? ⟨gb313, 0, none⟩ = some (.slice A0_0 l0_0.length c0_0) := (blk_cell BK313.out 0).trans rfl; have hcz125_1 : w124.cell? ⟨gb313, 1, none⟩ = some (.slice A0_1 l0_1.length c0_1) := (blk_cell BK313.out 1).trans rfl; have hcz125_2 : w124.cell? ⟨gb313, 2, none⟩ = some (.slice A0_2 l0_2.length c0_2) := (blk_cell BK313.out 2).trans rfl; have hcz125_3 : w124.cell? ⟨gb313, 3, none⟩ = some (.slice A0_3 l0_3.length c0_3) := (blk_cell BK313.out 3).trans rfl; have hfz125_0 := blk_frozen BK313.out 0; have hfz125_1 := blk_frozen BK313.out 1; have hfz125_2 := blk_frozen BK313.out 2; have hfz125_3 := blk_frozen BK313.out 3) | ((with_reducible refine gate_callee (f := 11) rfl ?_); refine goesL_ (some 20) rfl rfl Try.func11 (by kernel_rfl) rfl #[.agg #[.slice A0_0 l0_0.length c0_0, .slice A0_1 l0_1.length c0_1, .slice A0_2 l0_2.length c0_2]] rfl (by (try simp only [List.map_toArray, List.map_cons, List.map_nil]); first | done | rfl | (simp only [List.length_drop, List.length_take]; rfl)) ?_; (with_reducible refine (gangwayref0_CopyScript.calls k _ _ l0_0 _ _ l0_1 _ _ l0_2 t315 t318 t321 _ ?side1 ?side2 ?side3 ?side4 ?side5 ?side6 A7.out).mono ?_); (case side1 => repeat (first | exact (Kd.C_below HR0_0.out HB.out) | (with_reducible refine Kd.C_alloc ?_ _) | (with_reducible refine Kd.C_drewN ?_ _) | (with_reducible refine Kd.C_drew ?_))); (case side2 => exact HC0_0.out); (case side3 => repeat (first | exact (Kd.C_below HR0_1.out HB.out) | (with_reducible refine Kd.C_alloc ?_ _) | (with_reducible refine Kd.C_drewN ?_ _) | (with_reducible refine Kd.C_drew ?_))); (case side4 => exact HC0_1.out); (case side5 => repeat (first | exact (Kd.C_below HR0_2.out HB.out) | (with_reducible refine Kd.C_alloc ?_ _) | (with_reducible refine Kd.C_drewN ?_ _) | (with_reducible refine Kd.C_drew ?_))); (case side6 => exact HC0_2.out); rintro e w126 ⟨v316, v319, v322, rfl, ho0, ho1, ho2, hb⟩; refine ⟨_, rfl, ?_⟩; have n0_ := Aside0.mk (Kd.R_lower ho0 (below_size (by repeat (first | (with_reducible first | exact HB.out | apply below_alloc | apply pw_below_drewN | apply below_drew1 | refine below_set ?_ GE313.out) | exact HB.out)))); have n1_ := Aside0.mk (Kd.R_lower ho1 (below_size (by repeat (first | (with_reducible first | exact HB.out | apply below_alloc | apply pw_below_drewN | apply below_drew1 | refine below_set ?_ GE313.out) | exact HB.out)))); have n2_ := Aside0.mk (Kd.R_lower ho2 (below_size (by repeat (first | (with_reducible first | exact HB.out | apply below_alloc | apply pw_below_drewN | apply below_drew1 | refine below_set ?_ GE313.out) | exact HB.out)))); have n3_ := Aside0.mk (blk_below (g := gb313) (o := .cells #[.slice A0_0 l0_0.length c0_0, .slice A0_1 l0_1.length c0_1, .slice A0_2 l0_2.length c0_2, .slice A0_3 l0_3.length c0_3] 28 (0, 0)) (by (with_reducible repeat (first | refine blk_drewN ?_ _ | refine blk_drew ?_ | refine blk_alloc ?_ _)); exact BK313.out) hb); have n4_ := Aside0.mk (below_step (by repeat (first | (with_reducible first | exact HB.out | apply below_alloc | apply pw_below_drewN | apply below_drew1 | refine below_set ?_ GE313.out) | exact HB.out)) hb); clear BK313; clear HB; have HO317 := n0_; have HO320 := n1_; have HO323 := n2_; have BK313 := n3_; have HB := n4_; clear n0_ n1_ n2_ n3_ n4_; (try clear hb); (try clear hb2); (try clear hk); (try clear hi); (try clear ho0); (try clear ho1); (try clear ho2)) | ((with_reducible refine gate_dst (N := 3) rfl ?_); refine box_event ?hg (N := 3) ?hd (cs := #[.slice none 0 0, .slice none 0 0, .slice none 0 0]) (t := 25) ?hr ?_; (case hd => rfl); (case hg => rfl); (case hr => first | (go_simp; done) | (go_simp; rfl)); intro gb324 hg w127 hbox hb; have n0_ := Aside0.mk (Kd.R_below (by (with_reducible repeat (first | apply Kd.R_alloc | apply Kd.R_drewN | apply Kd.R_drew)); exact HO317.out) hb); have n1_ := Aside0.mk (Kd.R_below (by (with_reducible repeat (first | apply Kd.R_alloc | apply Kd.R_drewN | apply Kd.R_drew)); exact HO320.out) hb); have n2_ := Aside0.mk (Kd.R_below (by (with_reducible repeat (first | apply Kd.R_alloc | apply Kd.R_drewN | apply Kd.R_drew)); exact HO323.out) hb); have n3_ := Aside0.mk (blk_below (g := gb313) (o := .cells #[.slice A0_0 l0_0.length c0_0, .slice A0_1 l0_1.length c0_1, .slice A0_2 l0_2.length c0_2, .slice A0_3 l0_3.length c0_3] 28 (0, 0)) (by (with_reducible repeat (first | refine blk_drewN ?_ _ | refine blk_drew ?_ | refine blk_alloc ?_ _)); exact BK313.out) hb); have n4_ := Aside0.mk (below_step (by repeat (first | (with_reducible first | exact HB.out | apply below_alloc | apply pw_below_drewN | apply below_drew1 | refine below_set ?_ GE313.out) | exact HB.out)) hb); have n5_ := Aside0.mk (hbox); have n6_ := Aside0.mk ((by rw [hg]; exact (below_size (by repeat (first | (with_reducible first | exact HB.out | apply below_alloc | apply pw_below_drewN | apply below_drew1 | refine below_set ?_ GE313.out) | exact HB.out))) : w.heap.size ≤ gb324)); have n7_ := Aside0.mk ((by rw [hg]; exact (below_size (by repeat (first | (with_reducible first | exact HB.out | apply below_alloc | apply pw_below_drewN | apply below_drew1 | refine below_set ?_ GE313.out) | exact HB.out))) : w.heap.size ≤ gb324)); have n8_ := Aside0.mk ((by rw [hg]; exact Nat.ne_of_lt (blk_lt (g := gb313) (o := .cells #[.slice A0_0 l0_0.length c0_0, .slice A0_1 l0_1.length c0_1, .slice A0_2 l0_2.length c0_2, .slice A0_3 l0_3.length c0_3] 28 (0, 0)) (by (with_reducible repeat (first | refine blk_drewN ?_ _ | refine blk_drew ?_ | refine blk_alloc ?_ _)); exact BK313.out)) : gb313 ≠ gb324)); have n9_ := Aside0.mk ((by rw [hg]; exact Nat.ne_of_gt (blk_lt (g := gb313) (o := .cells #[.slice A0_0 l0_0.length c0_0, .slice A0_1 l0_1.length c0_1, .slice A0_2 l0_2.length c0_2, .slice A0_3 l0_3.length c0_3] 28 (0, 0)) (by (with_reducible repeat (first | refine blk_drewN ?_ _ | refine blk_drew ?_ | refine blk_alloc ?_ _)); exact BK313.out)) : gb324 ≠ gb313)); clear HO317; clear HO320; clear HO323; clear BK313; clear HB; have HO317 := n0_; have HO320 := n1_; have HO323 := n2_; have BK313 := n3_; have HB := n4_; have BK324 := n5_; have GW324 := n6_; have GE324 := n7_; have NB313_324 := n8_; have NB324_313 := n9_; clear n0_ n1_ n2_ n3_ n4_ n5_ n6_ n7_ n8_ n9_; clear hb hbox hg; obtain ⟨Ao128, co128, eo128⟩ := Kd.R_slice HO317.out; subst eo128; have hnb129 := NB324_313.out; have hnc129 := NB313_324.out; have hcz130_0 : w127.cell? ⟨gb324, 0, none⟩ = some (.slice none 0 0) := (blk_cell BK324.out 0).trans rfl; have hcz130_1 : w127.cell? ⟨gb324, 1, none⟩ = some (.slice none 0 0) := (blk_cell BK324.out 1).trans rfl; have hcz130_2 : w127.cell? ⟨gb324, 2, none⟩ = some (.slice none 0 0) := (blk_cell BK324.out 2).trans rfl; have hfz130_0 := blk_frozen BK324.out 0; have hfz130_1 := blk_frozen BK324.out 1; have hfz130_2 := blk_frozen BK324.out 2; obtain ⟨Ao131, co131, eo131⟩ := Kd.R_slice HO320.out; subst eo131; obtain ⟨Ao132, co132, eo132⟩ := Kd.R_slice HO323.out; subst eo132) | ((with_reducible refine gate_callee (f := 7) rfl ?_); refine goesL_ (some 23) rfl rfl Try.func7 (by kernel_rfl) rfl #[.agg #[.slice Ao128 t315.length co128, .slice Ao131 t318.length co131, .slice Ao132 t321.length co132]] rfl (by (try simp only [List.map_toArray, List.map_cons, List.map_nil]); first | done | rfl | (simp only [List.length_drop, List.length_take]; rfl)) ?_; (with_reducible refine (feed_New.calls k _ _ t315 _ _ t318 _ _ t321 false t326 t329 t332 t336 _ ?side1 ?side2 ?side3 ?side4 ?side5 ?side6 A8.out).mono ?_); (case side1 => refine (Kd.R_reads' (e := 2) (base := w.heap.size) (ok := fun k_ => True) (n := t315.length) (c := co128) ?_).2.2; exact (by (with_reducible repeat (first | apply Kd.R_alloc | apply Kd.R_drewN | apply Kd.R_drew)); exact (Kd.R_mono (Kd.R_far (p := ⟨gb324, 2, none⟩) (Kd.R_far (p := ⟨gb324, 1, none⟩) (Kd.R_far (p := ⟨gb324, 0, none⟩) (Kd.R_types HO317.out BK324.out (by decide)) (fun _ hk => hk.2) (.slice Ao128 t315.length co128)) (fun _ hk => hk.2) (.slice Ao131 t318.length co131)) (fun _ hk => hk.2) (.slice Ao132 t321.length co132)) (fun _ h_ => h_.1)))); (case side2 => exact (Kd.R_reads' HO317.out).2.1); (case side3 => refine (Kd.R_reads' (e := 5) (base := w.heap.size) (ok := fun k_ => some k_ ≠ (.slice Ao132 t321.length co132 : Value).ownBlock) (n := t318.length) (c := co131) ?_).2.2; exact (by (with_reducible repeat (first | apply Kd.R_alloc | apply Kd.R_drewN | apply Kd.R_drew)); exact (Kd.R_mono (Kd.R_far (p := ⟨gb324, 2, none⟩) (Kd.R_far (p := ⟨gb324, 1, none⟩) (Kd.R_far (p := ⟨gb324, 0, none⟩) (Kd.R_types HO320.out BK324.out (by decide)) (fun _ hk => hk.2) (.slice Ao128 t315.length co128)) (fun _ hk => hk.2) (.slice Ao131 t318.length co131)) (fun _ hk => hk.2) (.slice Ao132 t321.length co132)) (fun _ h_ => h_.1)))); (case side4 => exact (Kd.R_reads' HO320.out).2.1); (case side5 => refine (Kd.R_reads' (e := 5) (base := w.heap.size) (ok := fun k_ => some k_ ≠ (.slice Ao131 t318.length co131 : Value).ownBlock) (n := t321.length) (c := co132) ?_).2.2; exact (by (with_reducible repeat (first | apply Kd.R_alloc | apply Kd.R_drewN | apply Kd.R_drew)); exact (Kd.R_mono (Kd.R_far (p := ⟨gb324, 2, none⟩) (Kd.R_far (p := ⟨gb324, 1, none⟩) (Kd.R_far (p := ⟨gb324, 0, none⟩) (Kd.R_types HO323.out BK324.out (by decide)) (fun _ hk => hk.2) (.slice Ao128 t315.length co128)) (fun _ hk => hk.2) (.slice Ao131 t318.length co131)) (fun _ hk => hk.2) (.slice Ao132 t321.length co132)) (fun _ h_ => h_.1)))); (case side6 => exact (Kd.R_reads' HO323.out).2.1); rintro e w133 ⟨v327, v330, v333, pz335, rfl, ho0, ho1, ho2, hz335, hb⟩; refine ⟨_, rfl, ?_⟩; have n0_ := Aside0.mk (Kd.R_elder' (by (with_reducible repeat (first | apply Kd.R_alloc | apply Kd.R_drewN | apply Kd.R_drew)); exact (Kd.R_mono (Kd.R_far (p := ⟨gb324, 2, none⟩) (Kd.R_far (p := ⟨gb324, 1, none⟩) (Kd.R_far (p := ⟨gb324, 0, none⟩) (Kd.R_types HO317.out BK324.out (by decide)) (fun _ hk => hk.2) (.slice Ao128 t315.length co128)) (fun _ hk => hk.2) (.slice Ao131 t318.length co131)) (fun _ hk => hk.2) (.slice Ao132 t321.length co132)) (fun _ h_ => h_.1))) (Kd.Q_base ho0) hb); have n1_ := Aside0.mk (Kd.R_mono (Kd.R_told (Kd.R_told (Kd.R_old (by (with_reducible repeat (first | apply Kd.R_alloc | apply Kd.R_drewN | apply Kd.R_drew)); exact (Kd.R_mono (Kd.R_far (p := ⟨gb324, 2, none⟩) (Kd.R_far (p := ⟨gb324, 1, none⟩) (Kd.R_far (p := ⟨gb324, 0, none⟩) (Kd.R_types HO320.out BK324.out (by decide)) (fun _ hk => hk.2) (.slice Ao128 t315.length co128)) (fun _ hk => hk.2) (.slice Ao131 t318.length co131)) (fun _ hk => hk.2) (.slice Ao132 t321.length co132)) (fun _ h_ => h_.1))) hb) (Kd.Q_base ho1)) (Kd.Q_base ho2)) (fun _ h_ => h_.1)); have n2_ := Aside0.mk (Kd.R_mono (Kd.R_told (Kd.R_told (Kd.R_old (by (with_reducible repeat (first | apply Kd.R_alloc | apply Kd.R_drewN | apply Kd.R_drew)); exact (Kd.R_mono (Kd.R_far (p := ⟨gb324, 2, none⟩) (Kd.R_far (p := ⟨gb324, 1, none⟩) (Kd.R_far (p := ⟨gb324, 0, none⟩) (Kd.R_types HO323.out BK324.out (by decide)) (fun _ hk => hk.2) (.slice Ao128 t315.length co128)) (fun _ hk => hk.2) (.slice Ao131 t318.length co131)) (fun _ hk => hk.2) (.slice Ao132 t321.length co132)) (fun _ h_ => h_.1))) hb) (Kd.Q_base ho1)) (Kd.Q_base ho2)) (fun _ h_ => h_.1)); have n3_ := Aside0.mk (Kd.Q_lower (Kd.Q_new' ho0 (Kd.R_lt (by (with_reducible repeat (first | apply Kd.R_alloc | apply Kd.R_drewN | apply Kd.R_drew)); exact (Kd.R_mono (Kd.R_far (p := ⟨gb324, 2, none⟩) (Kd.R_far (p := ⟨gb324, 1, none⟩) (Kd.R_far (p := ⟨gb324, 0, none⟩) (Kd.R_types HO317.out BK324.out (by decide)) (fun _ hk => hk.2) (.slice Ao128 t315.length co128)) (fun _ hk => hk.2) (.slice Ao131 t318.length co131)) (fun _ hk => hk.2) (.slice Ao132 t321.length co132)) (fun _ h_ => h_.1))))) (below_size (by repeat (first | (with_reducible first | exact HB.out | apply below_alloc | apply pw_below_drewN | apply below_drew1 | refine below_set ?_ GE313.out | refine below_set ?_ GE324.out) | exact HB.out)))); have n4_ := Aside0.mk (Kd.Q_lower (Kd.Q_new' (Kd.Q_new' ho1 (Kd.R_lt (by (with_reducible repeat (first | apply Kd.R_alloc | apply Kd.R_drewN | apply Kd.R_drew)); exact (Kd.R_mono (Kd.R_far (p := ⟨gb324, 2, none⟩) (Kd.R_far (p := ⟨gb324, 1, none⟩) (Kd.R_far (p := ⟨gb324, 0, none⟩) (Kd.R_types HO320.out BK324.out (by decide)) (fun _ hk => hk.2) (.slice Ao128 t315.length co128)) (fun _ hk => hk.2) (.slice Ao131 t318.length co131)) (fun _ hk => hk.2) (.slice Ao132 t321.length co132)) (fun _ h_ => h_.1))))) (Kd.R_lt (by (with_reducible repeat (first | apply Kd.R_alloc | apply Kd.R_drewN | apply Kd.R_drew)); exact (Kd.R_mono (Kd.R_far (p := ⟨gb324, 2, none⟩) (Kd.R_far (p := ⟨gb324, 1, none⟩) (Kd.R_far (p := ⟨gb324, 0, none⟩) (Kd.R_types HO323.out BK324.out (by decide)) (fun _ hk => hk.2) (.slice Ao128 t315.length co128)) (fun _ hk => hk.2) (.slice Ao131 t318.length co131)) (fun _ hk => hk.2) (.slice Ao132 t321.length co132)) (fun _ h_ => h_.1))))) (below_size (by repeat (first | (with_reducible first | exact HB.out | apply below_alloc | apply pw_below_drewN | apply below_drew1 | refine below_set ?_ GE313.out | refine below_set ?_ GE324.out) | exact HB.out)))); have n5_ := Aside0.mk (Kd.Q_lower (Kd.Q_new' (Kd.Q_new' ho2 (Kd.R_lt (by (with_reducible repeat (first | apply Kd.R_alloc | apply Kd.R_drewN | apply Kd.R_drew)); exact (Kd.R_mono (Kd.R_far (p := ⟨gb324, 2, none⟩) (Kd.R_far (p := ⟨gb324, 1, none⟩) (Kd.R_far (p := ⟨gb324, 0, none⟩) (Kd.R_types HO320.out BK324.out (by decide)) (fun _ hk => hk.2) (.slice Ao128 t315.length co128)) (fun _ hk => hk.2) (.slice Ao131 t318.length co131)) (fun _ hk => hk.2) (.slice Ao132 t321.length co132)) (fun _ h_ => h_.1))))) (Kd.R_lt (by (with_reducible repeat (first | apply Kd.R_alloc | apply Kd.R_drewN | apply Kd.R_drew)); exact (Kd.R_mono (Kd.R_far (p := ⟨gb324, 2, none⟩) (Kd.R_far (p := ⟨gb324, 1, none⟩) (Kd.R_far (p := ⟨gb324, 0, none⟩) (Kd.R_types HO323.out BK324.out (by decide)) (fun _ hk => hk.2) (.slice Ao128 t315.length co128)) (fun _ hk => hk.2) (.slice Ao131 t318.length co131)) (fun _ hk => hk.2) (.slice Ao132 t321.length co132)) (fun _ h_ => h_.1))))) (below_size (by repeat (first | (with_reducible first | exact HB.out | apply below_alloc | apply pw_below_drewN | apply below_drew1 | refine below_set ?_ GE313.out | refine below_set ?_ GE324.out) | exact HB.out)))); have n6_ := Aside0.mk (blk_below (g := gb313) (o := .cells #[.slice A0_0 l0_0.length c0_0, .slice A0_1 l0_1.length c0_1, .slice A0_2 l0_2.length c0_2, .slice A0_3 l0_3.length c0_3] 28 (0, 0)) (by (with_reducible repeat (first | refine blk_drewN ?_ _ | refine blk_drew ?_ | refine blk_alloc ?_ _)); refine blk_far ?_ NB313_324.out _; (with_reducible repeat (first | refine blk_drewN ?_ _ | refine blk_drew ?_ | refine blk_alloc ?_ _)); refine blk_far ?_ NB313_324.out _; (with_reducible repeat (first | refine blk_drewN ?_ _ | refine blk_drew ?_ | refine blk_alloc ?_ _)); refine blk_far ?_ NB313_324.out _; (with_reducible repeat (first | refine blk_drewN ?_ _ | refine blk_drew ?_ | refine blk_alloc ?_ _)); exact BK313.out) hb); have n7_ := Aside0.mk (blk_below (g := gb324) (o := .cells #[.slice Ao128 t315.length co128, .slice Ao131 t318.length co131, .slice Ao132 t321.length co132] 25 (0, 0)) (by (with_reducible repeat (first | refine blk_drewN ?_ _ | refine blk_drew ?_ | refine blk_alloc ?_ _)); refine puts (cs := #[.slice none 0 0, .slice none 0 0, .slice none 0 0]) [_, _, _] ?_ rfl; (with_reducible repeat (first | refine blk_drewN ?_ _ | refine blk_drew ?_ | refine blk_alloc ?_ _)); exact BK324.out) hb); have n8_ := Aside0.mk ((show (false = true → ∃ g_ : Nat, pz335 = .pointer (some ⟨g_, 0, none⟩) ∧ IsS55 w w133 g_ v327 v330 v333 ∧ gb313 ≠ g_ ∧ gb324 ≠ g_) ∧ (false = false → pz335 = .pointer none) from ⟨fun h_ => (hz335.1 h_).elim fun g_ hg_ => ⟨g_, hg_.1, hg_.2.lower ((below_size (by repeat (first | (with_reducible first | exact HB.out | apply below_alloc | apply pw_below_drewN | apply below_drew1 | refine below_set ?_ GE313.out | refine below_set ?_ GE324.out) | exact HB.out)))), Nat.ne_of_lt (Nat.lt_of_lt_of_le (blk_lt (g := gb313) (o := .cells #[.slice A0_0 l0_0.length c0_0, .slice A0_1 l0_1.length c0_1, .slice A0_2 l0_2.length c0_2, .slice A0_3 l0_3.length c0_3] 28 (0, 0)) (by (with_reducible repeat (first | refine blk_drewN ?_ _ | refine blk_drew ?_ | refine blk_alloc ?_ _)); refine blk_far ?_ NB313_324.out _; (with_reducible repeat (first | refine blk_drewN ?_ _ | refine blk_drew ?_ | refine blk_alloc ?_ _)); refine blk_far ?_ NB313_324.out _; (with_reducible repeat (first | refine blk_drewN ?_ _ | refine blk_drew ?_ | refine blk_alloc ?_ _)); refine blk_far ?_ NB313_324.out _; (with_reducible repeat (first | refine blk_drewN ?_ _ | refine blk_drew ?_ | refine blk_alloc ?_ _)); exact BK313.out)) hg_.2.ge), Nat.ne_of_lt (Nat.lt_of_lt_of_le (blk_lt (g := gb324) (o := .cells #[.slice Ao128 t315.length co128, .slice Ao131 t318.length co131, .slice Ao132 t321.length co132] 25 (0, 0)) (by (with_reducible repeat (first | refine blk_drewN ?_ _ | refine blk_drew ?_ | refine blk_alloc ?_ _)); refine puts (cs := #[.slice none 0 0, .slice none 0 0, .slice none 0 0]) [_, _, _] ?_ rfl; (with_reducible repeat (first | refine blk_drewN ?_ _ | refine blk_drew ?_ | refine blk_alloc ?_ _)); exact BK324.out)) hg_.2.ge)⟩, hz335.2⟩)); have n9_ := Aside0.mk (below_step (by repeat (first | (with_reducible first | exact HB.out | apply below_alloc | apply pw_below_drewN | apply below_drew1 | refine below_set ?_ GE313.out | refine below_set ?_ GE324.out) | exact HB.out)) hb); clear HO317; clear HO320; clear HO323; clear BK313; clear BK324; clear HB; have HO317 := n0_; have HO320 := n1_; have HO323 := n2_; have HO328 := n3_; have HO331 := n4_; have HO334 := n5_; have BK313 := n6_; have BK324 := n7_; have HZ335 := n8_; have HB := n9_; clear n0_ n1_ n2_ n3_ n4_ n5_ n6_ n7_ n8_ n9_; (try clear hb); (try clear hb2); (try clear hk); (try clear hi); (try clear ho0); (try clear ho1); (try clear ho2); have e_ := HZ335.out.2 rfl; subst e_; clear HZ335; have hcz134_0 : w133.cell? ⟨gb324, 0, none⟩ = some (.slice Ao128 t315.length co128) := (blk_cell BK324.out 0).trans rfl; have hcz134_1 : w133.cell? ⟨gb324, 1, none⟩ = some (.slice Ao131 t318.length co131) := (blk_cell BK324.out 1).trans rfl; have hcz134_2 : w133.cell? ⟨gb324, 2, none⟩ = some (.slice Ao132 t321.length co132) := (blk_cell BK324.out 2).trans rfl; have hfz134_0 := blk_frozen BK324.out 0; have hfz134_1 := blk_frozen BK324.out 1; have hfz134_2 := blk_frozen BK324.out 2) | ((with_reducible refine gate_callee (f := 12) rfl ?_); refine goesL_ (some 28) rfl rfl Try.func12 (by kernel_rfl) rfl #[.slice Ao128 t315.length co128] rfl (by (try simp only [List.map_toArray, List.map_cons, List.map_nil]); first | done | rfl | (simp only [List.length_drop, List.length_take]; rfl)) ?_; (with_reducible refine (gangwaylaw0_Longs.calls k (fun k_ => some k_ = (.slice Ao128 t315.length co128 : Value).ownBlock) (.slice Ao128 t315.length co128) t315  w _ ?side1 ?side2 A114.out).mono ?_); (case side1 => repeat (first | (with_reducible first | exact HB.out | apply below_alloc | apply pw_below_drewN | apply below_drew1 | refine below_set ?_ GE313.out | refine below_set ?_ GE324.out) | exact HB.out)); (case side2 => exact Kd.R_tight rfl HO317.out); rintro e w135 ⟨rfl, hb, hkp⟩; refine ⟨_, rfl, ?_⟩; have n0_ := Aside0.mk (blk_kept (o := .cells #[.slice A0_0 l0_0.length c0_0, .slice A0_1 l0_1.length c0_1, .slice A0_2 l0_2.length c0_2, .slice A0_3 l0_3.length c0_3] 28 (0, 0)) (by (with_reducible repeat (first | refine blk_drewN ?_ _ | refine blk_drew ?_ | refine blk_alloc ?_ _)); exact BK313.out) hkp (fun hs_ => (fun e_ => (Kd.R_ne HO317.out BK313.out (by decide)) e_) hs_)); have n1_ := Aside0.mk (Kd.R_mono (ok' := fun k_ => some k_ ≠ (.slice Ao132 t321.length co132 : Value).ownBlock ∧ some k_ ≠ (v330 : Value).ownBlock ∧ some k_ ≠ (v333 : Value).ownBlock) (Kd.R_keptB ((Kd.R_apart' HO320.out (Kd.R_typed HO317.out) (by decide))) hkp (fun k_ hk_ hs_ => (hk_.2) hs_)) (fun k_ hk_ => ⟨hk_.1.1.1.1, hk_.1.1.1.2, hk_.1.1.2⟩)); have n2_ := Aside0.mk (Kd.R_mono (ok' := fun k_ => some k_ ≠ (.slice Ao131 t318.length co131 : Value).ownBlock ∧ some k_ ≠ (v330 : Value).ownBlock ∧ some k_ ≠ (v333 : Value).ownBlock) (Kd.R_keptB ((Kd.R_apart' HO323.out (Kd.R_typed HO317.out) (by decide))) hkp (fun k_ hk_ hs_ => (hk_.2) hs_)) (fun k_ hk_ => ⟨hk_.1.1.1.1, hk_.1.1.1.2, hk_.1.1.2⟩)); have n3_ := Aside0.mk (blk_kept (o := .cells #[.slice Ao128 t315.length co128, .slice Ao131 t318.length co131, .slice Ao132 t321.length co132] 25 (0, 0)) (by (with_reducible repeat (first | refine blk_drewN ?_ _ | refine blk_drew ?_ | refine blk_alloc ?_ _)); exact BK324.out) hkp (fun hs_ => (fun e_ => (Kd.R_ne HO317.out BK324.out (by decide)) e_) hs_)); have n4_ := Aside0.mk (Kd.Q_mono (ok' := fun k_ => True) (Kd.Q_keptB (HO328.out) hkp (fun k_ hk_ hs_ => (hk_.2) hs_)) (fun k_ hk_ => trivial)); have n5_ := Aside0.mk (Kd.Q_mono (ok' := fun k_ => some k_ ≠ (.slice Ao131 t318.length co131 : Value).ownBlock ∧ some k_ ≠ (.slice Ao132 t321.length co132 : Value).ownBlock ∧ some k_ ≠ (v333 : Value).ownBlock) (Kd.Q_keptB ((Kd.Q_apart' HO331.out (Kd.R_typed HO317.out) (by decide))) hkp (fun k_ hk_ hs_ => (hk_.2) hs_)) (fun k_ hk_ => ⟨hk_.1.1.1.2, hk_.1.1.2, hk_.1.1.1.1⟩)); have n6_ := Aside0.mk (Kd.Q_mono (ok' := fun k_ => some k_ ≠ (.slice Ao131 t318.length co131 : Value).ownBlock ∧ some k_ ≠ (.slice Ao132 t321.length co132 : Value).ownBlock ∧ some k_ ≠ (v330 : Value).ownBlock) (Kd.Q_keptB ((Kd.Q_apart' HO334.out (Kd.R_typed HO317.out) (by decide))) hkp (fun k_ hk_ hs_ => (hk_.2) hs_)) (fun k_ hk_ => ⟨hk_.1.1.1.2, hk_.1.1.2, hk_.1.1.1.1⟩)); have n7_ := Aside0.mk (hb); clear BK313; clear HO320; clear HO323; clear BK324; clear HO328; clear HO331; clear HO334; clear HB; clear HO317; have BK313 := n0_; have HO320 := n1_; have HO323 := n2_; have BK324 := n3_; have HO328 := n4_; have HO331 := n5_; have HO334 := n6_; have HB := n7_; clear n0_ n1_ n2_ n3_ n4_ n5_ n6_ n7_; (try clear hb); (try clear hkp); have hcz136_0 : w135.cell? ⟨gb324, 0, none⟩ = some (.slice Ao128 t315.length co128) := (blk_cell BK324.out 0).trans rfl; have hcz136_1 : w135.cell? ⟨gb324, 1, none⟩ = some (.slice Ao131 t318.length co131) := (blk_cell BK324.out 1).trans rfl; have hcz136_2 : w135.cell? ⟨gb324, 2, none⟩ = some (.slice Ao132 t321.length co132) := (blk_cell BK324.out 2).trans rfl; have hfz136_0 := blk_frozen BK324.out 0; have hfz136_1 := blk_frozen BK324.out 1; have hfz136_2 := blk_frozen BK324.out 2) | ((with_reducible refine gate_callee (f := 13) rfl ?_); refine goesL_ (some 31) rfl rfl Try.func13 (by kernel_rfl) rfl #[.slice Ao131 t318.length co131] rfl (by (try simp only [List.map_toArray, List.map_cons, List.map_nil]); first | done | rfl | (simp only [List.length_drop, List.length_take]; rfl)) ?_; (with_reducible refine (gangwaylaw0_Bytes.calls k (fun k_ => some k_ = (.slice Ao131 t318.length co131 : Value).ownBlock) (.slice Ao131 t318.length co131) t318  w _ ?side1 ?side2 A115.out).mono ?_); (case side1 => repeat (first | (with_reducible first | exact HB.out | apply below_alloc | apply pw_below_drewN | apply below_drew1 | refine below_set ?_ GE313.out | refine below_set ?_ GE324.out) | exact HB.out)); (case side2 => exact Kd.R_tight rfl HO320.out); rintro e w137 ⟨rfl, hb, hkp⟩; refine ⟨_, rfl, ?_⟩; have n0_ := Aside0.mk (blk_kept (o := .cells #[.slice A0_0 l0_0.length c0_0, .slice A0_1 l0_1.length c0_1, .slice A0_2 l0_2.length c0_2, .slice A0_3 l0_3.length c0_3] 28 (0, 0)) (by (with_reducible repeat (first | refine blk_drewN ?_ _ | refine blk_drew ?_ | refine blk_alloc ?_ _)); exact BK313.out) hkp (fun hs_ => (fun e_ => (Kd.R_ne HO320.out BK313.out (by decide)) e_) hs_)); have n1_ := Aside0.mk (Kd.R_mono (ok' := fun k_ => some k_ ≠ (v330 : Value).ownBlock ∧ some k_ ≠ (v333 : Value).ownBlock) (Kd.R_keptB (HO323.out) hkp (fun k_ hk_ hs_ => (hk_.1) hs_)) (fun k_ hk_ => ⟨hk_.1.2.1, hk_.1.2.2⟩)); have n2_ := Aside0.mk (blk_kept (o := .cells #[.slice Ao128 t315.length co128, .slice Ao131 t318.length co131, .slice Ao132 t321.length co132] 25 (0, 0)) (by (with_reducible repeat (first | refine blk_drewN ?_ _ | refine blk_drew ?_ | refine blk_alloc ?_ _)); exact BK324.out) hkp (fun hs_ => (fun e_ => (Kd.R_ne HO320.out BK324.out (by decide)) e_) hs_)); have n3_ := Aside0.mk (Kd.Q_mono (ok' := fun k_ => True) (Kd.Q_keptB ((Kd.Q_apart' HO328.out (Kd.R_typed HO320.out) (by decide))) hkp (fun k_ hk_ hs_ => (hk_.2) hs_)) (fun k_ hk_ => trivial)); have n4_ := Aside0.mk (Kd.Q_mono (ok' := fun k_ => some k_ ≠ (.slice Ao132 t321.length co132 : Value).ownBlock ∧ some k_ ≠ (v333 : Value).ownBlock) (Kd.Q_keptB (HO331.out) hkp (fun k_ hk_ hs_ => (hk_.1) hs_)) (fun k_ hk_ => ⟨hk_.1.2.1, hk_.1.2.2⟩)); have n5_ := Aside0.mk (Kd.Q_mono (ok' := fun k_ => some k_ ≠ (.slice Ao132 t321.length co132 : Value).ownBlock ∧ some k_ ≠ (v330 : Value).ownBlock) (Kd.Q_keptB (HO334.out) hkp (fun k_ hk_ hs_ => (hk_.1) hs_)) (fun k_ hk_ => ⟨hk_.1.2.1, hk_.1.2.2⟩)); have n6_ := Aside0.mk (hb); clear BK313; clear HO323; clear BK324; clear HO328; clear HO331; clear HO334; clear HB; clear HO320; have BK313 := n0_; have HO323 := n1_; have BK324 := n2_; have HO328 := n3_; have HO331 := n4_; have HO334 := n5_; have HB := n6_; clear n0_ n1_ n2_ n3_ n4_ n5_ n6_; (try clear hb); (try clear hkp); have hcz138_0 : w137.cell? ⟨gb324, 0, none⟩ = some (.slice Ao128 t315.length co128) := (blk_cell BK324.out 0).trans rfl; have hcz138_1 : w137.cell? ⟨gb324, 1, none⟩ = some (.slice Ao131 t318.length co131) := (blk_cell BK324.out 1).trans rfl; have hcz138_2 : w137.cell? ⟨gb324, 2, none⟩ = some (.slice Ao132 t321.length co132) := (blk_cell BK324.out 2).trans rfl; have hfz138_0 := blk_frozen BK324.out 0; have hfz138_1 := blk_frozen BK324.out 1; have hfz138_2 := blk_frozen BK324.out 2) | ((with_reducible refine gate_callee (f := 13) rfl ?_); refine goesL_ (some 34) rfl rfl Try.func13 (by kernel_rfl) rfl #[.slice Ao132 t321.length co132] rfl (by (try simp only [List.map_toArray, List.map_cons, List.map_nil]); first | done | rfl | (simp only [List.length_drop, List.length_take]; rfl)) ?_; (with_reducible refine (gangwaylaw0_Bytes.calls k (fun k_ => some k_ = (.slice Ao132 t321.length co132 : Value).ownBlock) (.slice Ao132 t321.length co132) t321  w _ ?side1 ?side2 A116.out).mono ?_); (case side1 => repeat (first | (with_reducible first | exact HB.out | apply below_alloc | apply pw_below_drewN | apply below_drew1 | refine below_set ?_ GE313.out | refine below_set ?_ GE324.out) | exact HB.out)); (case side2 => exact Kd.R_tight rfl HO323.out); rintro e w139 ⟨rfl, hb, hkp⟩; refine ⟨_, rfl, ?_⟩; have n0_ := Aside0.mk (blk_kept (o := .cells #[.slice A0_0 l0_0.length c0_0, .slice A0_1 l0_1.length c0_1, .slice A0_2 l0_2.length c0_2, .slice A0_3 l0_3.length c0_3] 28 (0, 0)) (by (with_reducible repeat (first | refine blk_drewN ?_ _ | refine blk_drew ?_ | refine blk_alloc ?_ _)); exact BK313.out) hkp (fun hs_ => (fun e_ => (Kd.R_ne HO323.out BK313.out (by decide)) e_) hs_)); have n1_ := Aside0.mk (blk_kept (o := .cells #[.slice Ao128 t315.length co128, .slice Ao131 t318.length co131, .slice Ao132 t321.length co132] 25 (0, 0)) (by (with_reducible repeat (first | refine blk_drewN ?_ _ | refine blk_drew ?_ | refine blk_alloc ?_ _)); exact BK324.out) hkp (fun hs_ => (fun e_ => (Kd.R_ne HO323.out BK324.out (by decide)) e_) hs_)); have n2_ := Aside0.mk (Kd.Q_mono (ok' := fun k_ => True) (Kd.Q_keptB ((Kd.Q_apart' HO328.out (Kd.R_typed HO323.out) (by decide))) hkp (fun k_ hk_ hs_ => (hk_.2) hs_)) (fun k_ hk_ => trivial)); have n3_ := Aside0.mk (Kd.Q_mono (ok' := fun k_ => some k_ ≠ (v333 : Value).ownBlock) (Kd.Q_keptB (HO331.out) hkp (fun k_ hk_ hs_ => (hk_.1) hs_)) (fun k_ hk_ => hk_.1.2)); have n4_ := Aside0.mk (Kd.Q_mono (ok' := fun k_ => some k_ ≠ (v330 : Value).ownBlock) (Kd.Q_keptB (HO334.out) hkp (fun k_ hk_ hs_ => (hk_.1) hs_)) (fun k_ hk_ => hk_.1.2)); have n5_ := Aside0.mk (hb); clear BK313; clear BK324; clear HO328; clear HO331; clear HO334; clear HB; clear HO323; have BK313 := n0_; have BK324 := n1_; have HO328 := n2_; have HO331 := n3_; have HO334 := n4_; have HB := n5_; clear n0_ n1_ n2_ n3_ n4_ n5_; (try clear hb); (try clear hkp); have hcz140_0 : w139.cell? ⟨gb313, 0, none⟩ = some (.slice A0_0 l0_0.length c0_0) := (blk_cell BK313.out 0).trans rfl; have hcz140_1 : w139.cell? ⟨gb313, 1, none⟩ = some (.slice A0_1 l0_1.length c0_1) := (blk_cell BK313.out 1).trans rfl; have hcz140_2 : w139.cell? ⟨gb313, 2, none⟩ = some (.slice A0_2 l0_2.length c0_2) := (blk_cell BK313.out 2).trans rfl; have hcz140_3 : w139.cell? ⟨gb313, 3, none⟩ = some (.slice A0_3 l0_3.length c0_3) := (blk_cell BK313.out 3).trans rfl; have hfz140_0 := blk_frozen BK313.out 0; have hfz140_1 := blk_frozen BK313.out 1; have hfz140_2 := blk_frozen BK313.out 2; have hfz140_3 := blk_frozen BK313.out 3) | ((with_reducible refine gate_callee (f := 14) rfl ?_); refine goesL_ (some 37) rfl rfl Try.func14 (by kernel_rfl) rfl #[.agg #[.slice A0_0 l0_0.length c0_0, .slice A0_1 l0_1.length c0_1, .slice A0_2 l0_2.length c0_2]] rfl (by (try simp only [List.map_toArray, List.map_cons, List.map_nil]); first | done | rfl | (simp only [List.length_drop, List.length_take]; rfl)) ?_; (with_reducible refine (gangwayref23_May.calls k _ _ l0_0 _ _ l0_1 _ _ l0_2 false _ ?side1 ?side2 ?side3 ?side4 ?side5 ?side6 A117.out).mono ?_); (case side1 => repeat (first | exact (Kd.C_below HR0_0.out HB.out) | (with_reducible refine Kd.C_alloc ?_ _) | (with_reducible refine Kd.C_drewN ?_ _) | (with_reducible refine Kd.C_drew ?_))); (case side2 => exact HC0_0.out); (case side3 => repeat (first | exact (Kd.C_below HR0_1.out HB.out) | (with_reducible refine Kd.C_alloc ?_ _) | (with_reducible refine Kd.C_drewN ?_ _) | (with_reducible refine Kd.C_drew ?_))); (case side4 => exact HC0_1.out); (case side5 => repeat (first | exact (Kd.C_below HR0_2.out HB.out) | (with_reducible refine Kd.C_alloc ?_ _) | (with_reducible refine Kd.C_drewN ?_ _) | (with_reducible refine Kd.C_drew ?_))); (case side6 => exact HC0_2.out); rintro e w141 ⟨rfl, hb⟩; refine ⟨_, rfl, ?_⟩; have n0_ := Aside0.mk (Kd.Q_below (by (with_reducible repeat (first | apply Kd.Q_alloc | apply Kd.Q_drewN | apply Kd.Q_drew)); exact HO328.out) hb); have n1_ := Aside0.mk (Kd.Q_below (by (with_reducible repeat (first | apply Kd.Q_alloc | apply Kd.Q_drewN | apply Kd.Q_drew)); exact HO331.out) hb); have n2_ := Aside0.mk (Kd.Q_below (by (with_reducible repeat (first | apply Kd.Q_alloc | apply Kd.Q_drewN | apply Kd.Q_drew)); exact HO334.out) hb); have n3_ := Aside0.mk (blk_below (g := gb313) (o := .cells #[.slice A0_0 l0_0.length c0_0, .slice A0_1 l0_1.length c0_1, .slice A0_2 l0_2.length c0_2, .slice A0_3 l0_3.length c0_3] 28 (0, 0)) (by (with_reducible repeat (first | refine blk_drewN ?_ _ | refine blk_drew ?_ | refine blk_alloc ?_ _)); exact BK313.out) hb); have n4_ := Aside0.mk (blk_below (g := gb324) (o := .cells #[.slice Ao128 t315.length co128, .slice Ao131 t318.length co131, .slice Ao132 t321.length co132] 25 (0, 0)) (by (with_reducible repeat (first | refine blk_drewN ?_ _ | refine blk_drew ?_ | refine blk_alloc ?_ _)); exact BK324.out) hb); have n5_ := Aside0.mk (below_step (by repeat (first | (with_reducible first | exact HB.out | apply below_alloc | apply pw_below_drewN | apply below_drew1 | refine below_set ?_ GE313.out | refine below_set ?_ GE324.out) | exact HB.out)) hb); clear HO328; clear HO331; clear HO334; clear BK313; clear BK324; clear HB; have HO328 := n0_; have HO331 := n1_; have HO334 := n2_; have BK313 := n3_; have BK324 := n4_; have HB := n5_; clear n0_ n1_ n2_ n3_ n4_ n5_; (try clear hb); (try clear hb2); (try clear hk); (try clear hi)) | ((with_reducible refine gate_callee (f := 8) rfl ?_); refine goesL_ (some 40) rfl rfl Try.func8 (by kernel_rfl) rfl #[.int .i64 t336] rfl (by (try simp only [List.map_toArray, List.map_cons, List.map_nil]); first | done | rfl | (simp only [List.length_drop, List.length_take]; rfl)) ?_; (with_reducible refine (gangwaylaw23_num.calls t336 t497 _ A119.out).mono ?_); rintro e w' ⟨rfl, ⟨nd, rfl⟩⟩; refine ⟨_, rfl, ?_⟩) | (go_at_call 9; (with_reducible refine (gangwaylaw23_wakes.calls k  t498 _ A121.out).mono ?_); rintro e w142 ⟨rfl, hb⟩; have n0_ := Aside0.mk (Kd.Q_below (by (with_reducible repeat (first | apply Kd.Q_alloc | apply Kd.Q_drewN | apply Kd.Q_drew)); exact HO328.out) hb); have n1_ := Aside0.mk (Kd.Q_below (by (with_reducible repeat (first | apply Kd.Q_alloc | apply Kd.Q_drewN | apply Kd.Q_drew)); exact HO331.out) hb); have n2_ := Aside0.mk (Kd.Q_below (by (with_reducible repeat (first | apply Kd.Q_alloc | apply Kd.Q_drewN | apply Kd.Q_drew)); exact HO334.out) hb); have n3_ := Aside0.mk (blk_below (g := gb313) (o := .cells #[.slice A0_0 l0_0.length c0_0, .slice A0_1 l0_1.length c0_1, .slice A0_2 l0_2.length c0_2, .slice A0_3 l0_3.length c0_3] 28 (0, 0)) (by (with_reducible repeat (first | refine blk_drewN ?_ _ | refine blk_drew ?_ | refine blk_alloc ?_ _)); exact BK313.out) hb); have n4_ := Aside0.mk (blk_below (g := gb324) (o := .cells #[.slice Ao128 t315.length co128, .slice Ao131 t318.length co131, .slice Ao132 t321.length co132] 25 (0, 0)) (by (with_reducible repeat (first | refine blk_drewN ?_ _ | refine blk_drew ?_ | refine blk_alloc ?_ _)); exact BK324.out) hb); have n5_ := Aside0.mk (below_step (by repeat (first | (with_reducible first | exact HB.out | apply below_alloc | apply pw_below_drewN | apply below_drew1 | refine below_set ?_ GE313.out | refine below_set ?_ GE324.out) | exact HB.out)) hb); clear HO328; clear HO331; clear HO334; clear BK313; clear BK324; clear HB; have HO328 := n0_; have HO331 := n1_; have HO334 := n2_; have BK313 := n3_; have BK324 := n4_; have HB := n5_; clear n0_ n1_ n2_ n3_ n4_ n5_; (try clear hb); (try clear hb2); (try clear hk); (try clear hi)))
  go_ret
  exact ⟨by first | rfl | (simp [errW_none, errW_some] <;> rfl) | (simp [*, errW_none, errW_some] <;> rfl), by repeat (first | (with_reducible first | exact HB.out | apply below_alloc | apply pw_below_drewN | apply below_drew1 | refine below_set ?_ GE313.out | refine below_set ?_ GE324.out) | exact HB.out)⟩
 subst c9
 have H1 : ((gangwaylaw0_Longs.f k t315).bind fun _ => ((gangwaylaw0_Bytes.f k t318).bind fun _ => ((gangwaylaw0_Bytes.f k t321).bind fun _ => ((gangwayref23_May.f k l0_0 l0_1 l0_2).bind fun t337 => (if t337 = true then ((gangwaylaw23_num.f t336).bind fun t339 => (if t339 = 0 then (gangwaylaw23_FeedExact.l0 k 0 l0_0 l0_1 l0_2 l0_3 t326 t329 t332 l0_0 l0_1 l0_2 0 0 0) else (none))) else (none)))))) = some r := by rw [if_pos rfl] at H; exact H
 clear H
 have H := H1
 clear H1
 replace H := Option.bind_eq_some_iff.mp H
 obtain ⟨_, A100, H⟩ := H
 replace H : ((gangwaylaw0_Bytes.f k t318).bind fun _ => ((gangwaylaw0_Bytes.f k t321).bind fun _ => ((gangwayref23_May.f k l0_0 l0_1 l0_2).bind fun t337 => (if t337 = true then ((gangwaylaw23_num.f t336).bind fun t339 => (if t339 = 0 then (gangwaylaw23_FeedExact.l0 k 0 l0_0 l0_1 l0_2 l0_3 t326 t329 t332 l0_0 l0_1 l0_2 0 0 0) else (none))) else (none))))) = some r := H
 have A10 := Aside0.mk A100
 clear A100
 replace H := Option.bind_eq_some_iff.mp H
 obtain ⟨_, A110, H⟩ := H
 replace H : ((gangwaylaw0_Bytes.f k t321).bind fun _ => ((gangwayref23_May.f k l0_0 l0_1 l0_2).bind fun t337 => (if t337 = true then ((gangwaylaw23_num.f t336).bind fun t339 => (if t339 = 0 then (gangwaylaw23_FeedExact.l0 k 0 l0_0 l0_1 l0_2 l0_3 t326 t329 t332 l0_0 l0_1 l0_2 0 0 0) else (none))) else (none)))) = some r := H
 have A11 := Aside0.mk A110
 clear A110
 replace H := Option.bind_eq_some_iff.mp H
 obtain ⟨_, A120, H⟩ := H
 replace H : ((gangwayref23_May.f k l0_0 l0_1 l0_2).bind fun t337 => (if t337 = true then ((gangwaylaw23_num.f t336).bind fun t339 => (if t339 = 0 then (gangwaylaw23_FeedExact.l0 k 0 l0_0 l0_1 l0_2 l0_3 t326 t329 t332 l0_0 l0_1 l0_2 0 0 0) else (none))) else (none))) = some r := H
 have A12 := Aside0.mk A120
 clear A120
 replace H := Option.bind_eq_some_iff.mp H
 obtain ⟨t337, A130, H⟩ := H
 replace H : (if t337 = true then ((gangwaylaw23_num.f t336).bind fun t339 => (if t339 = 0 then (gangwaylaw23_FeedExact.l0 k 0 l0_0 l0_1 l0_2 l0_3 t326 t329 t332 l0_0 l0_1 l0_2 0 0 0) else (none))) else (none)) = some r := H
 have A13 := Aside0.mk A130
 clear A130
 by_cases c14 : t337 = true
 rotate_left
 ·replace c14 := Bool.eq_false_iff.mpr c14
  subst c14
  have H1 : (none) = some r := by rw [if_neg (show ¬ (false = true) by decide)] at H; exact H
  clear H
  have H := H1
  clear H1
  exact absurd H (by simp)
 subst c14
 have H1 : ((gangwaylaw23_num.f t336).bind fun t339 => (if t339 = 0 then (gangwaylaw23_FeedExact.l0 k 0 l0_0 l0_1 l0_2 l0_3 t326 t329 t332 l0_0 l0_1 l0_2 0 0 0) else (none))) = some r := by rw [if_pos rfl] at H; exact H
 clear H
 have H := H1
 clear H1
 replace H := Option.bind_eq_some_iff.mp H
 obtain ⟨t339, A150, H⟩ := H
 replace H : (if t339 = 0 then (gangwaylaw23_FeedExact.l0 k 0 l0_0 l0_1 l0_2 l0_3 t326 t329 t332 l0_0 l0_1 l0_2 0 0 0) else (none)) = some r := H
 have A15 := Aside0.mk A150
 clear A150
 by_cases c16 : t339 = 0
 rotate_left
 ·rw [if_neg c16] at H
  exact absurd H (by simp)
 rw [if_pos c16] at H
 have c16b0 : (t339 == 0) = true := beq_iff_eq.mpr c16
 have c16b1 : (t339 != 0) = false := bne_eq_false_iff_eq.mpr c16
 clear c16
 have H' := Aside0.mk H
 clear H
 go_enter Try.func4, Try.ntmps4
 go_wp2_with (first | ((with_reducible refine gate_dst (N := 1) rfl ?_); refine box_event ?hg (N := 1) ?hd (cs := #[.slice A0_0 l0_0.length c0_0, .slice A0_1 l0_1.length c0_1, .slice A0_2 l0_2.length c0_2, .slice A0_3 l0_3.length c0_3]) (t := 28) ?hr ?_; (case hd => rfl); (case hg => rfl); (case hr => first | (go_simp; done) | (go_simp; rfl)); intro gb313 hg w17 hbox hb; have n0_ := Aside0.mk (below_step (by repeat (first | (with_reducible first | exact HB.out | apply below_alloc | apply pw_below_drewN | apply below_drew1) | exact HB.out)) hb); have n1_ := Aside0.mk (hbox); have n2_ := Aside0.mk ((by rw [hg]; exact (below_size (by repeat (first | (with_reducible first | exact HB.out | apply below_alloc | apply pw_below_drewN | apply below_drew1) | exact HB.out))) : w.heap.size ≤ gb313)); have n3_ := Aside0.mk ((by rw [hg]; exact (below_size (by repeat (first | (with_reducible first | exact HB.out | apply below_alloc | apply pw_below_drewN | apply below_drew1) | exact HB.out))) : w.heap.size ≤ gb313)); clear HB; have HB := n0_; have BK313 := n1_; have GW313 := n2_; have GE313 := n3_; clear n0_ n1_ n2_ n3_; clear hb hbox hg; have hcz18_0 : w17.cell? ⟨gb313, 0, none⟩ = some (.slice A0_0 l0_0.length c0_0) := (blk_cell BK313.out 0).trans rfl; have hcz18_1 : w17.cell? ⟨gb313, 1, none⟩ = some (.slice A0_1 l0_1.length c0_1) := (blk_cell BK313.out 1).trans rfl; have hcz18_2 : w17.cell? ⟨gb313, 2, none⟩ = some (.slice A0_2 l0_2.length c0_2) := (blk_cell BK313.out 2).trans rfl; have hcz18_3 : w17.cell? ⟨gb313, 3, none⟩ = some (.slice A0_3 l0_3.length c0_3) := (blk_cell BK313.out 3).trans rfl; have hfz18_0 := blk_frozen BK313.out 0; have hfz18_1 := blk_frozen BK313.out 1; have hfz18_2 := blk_frozen BK313.out 2; have hfz18_3 := blk_frozen BK313.out 3) | ((with_reducible refine gate_callee (f := 6) rfl ?_); refine goesL_ (some 17) rfl rfl Try.func6 (by kernel_rfl) rfl #[.agg #[.slice A0_0 l0_0.length c0_0, .slice A0_1 l0_1.length c0_1, .slice A0_2 l0_2.length c0_2, .slice A0_3 l0_3.length c0_3]] rfl (by (try simp only [List.map_toArray, List.map_cons, List.map_nil]); first | done | rfl | (simp only [List.length_drop, List.length_take]; rfl)) ?_; (with_reducible refine (gangwaylaw23_heavy.calls k _ _ l0_0 _ _ l0_1 _ _ l0_2 _ _ l0_3 false _ ?side1 ?side2 ?side3 ?side4 ?side5 ?side6 ?side7 ?side8 A2.out).mono ?_); (case side1 => repeat (first | exact (Kd.C_below HR0_0.out HB.out) | (with_reducible refine Kd.C_alloc ?_ _) | (with_reducible refine Kd.C_drewN ?_ _) | (with_reducible refine Kd.C_drew ?_))); (case side2 => exact HC0_0.out); (case side3 => repeat (first | exact (Kd.C_below HR0_1.out HB.out) | (with_reducible refine Kd.C_alloc ?_ _) | (with_reducible refine Kd.C_drewN ?_ _) | (with_reducible refine Kd.C_drew ?_))); (case side4 => exact HC0_1.out); (case side5 => repeat (first | exact (Kd.C_below HR0_2.out HB.out) | (with_reducible refine Kd.C_alloc ?_ _) | (with_reducible refine Kd.C_drewN ?_ _) | (with_reducible refine Kd.C_drew ?_))); (case side6 => exact HC0_2.out); (case side7 => repeat (first | exact (Kd.C_below HR0_3.out HB.out) | (with_reducible refine Kd.C_alloc ?_ _) | (with_reducible refine Kd.C_drewN ?_ _) | (with_reducible refine Kd.C_drew ?_))); (case side8 => exact HC0_3.out); rintro e w19 ⟨rfl, hb⟩; refine ⟨_, rfl, ?_⟩; have n0_ := Aside0.mk (blk_below (g := gb313) (o := .cells #[.slice A0_0 l0_0.length c0_0, .slice A0_1 l0_1.length c0_1, .slice A0_2 l0_2.length c0_2, .slice A0_3 l0_3.length c0_3] 28 (0, 0)) (by (with_reducible repeat (first | refine blk_drewN ?_ _ | refine blk_drew ?_ | refine blk_alloc ?_ _)); exact BK313.out) hb); have n1_ := Aside0.mk (below_step (by repeat (first | (with_reducible first | exact HB.out | apply below_alloc | apply pw_below_drewN | apply below_drew1 | refine below_set ?_ GE313.out) | exact HB.out)) hb); clear BK313; clear HB; have BK313 := n0_; have HB := n1_; clear n0_ n1_; (try clear hb); (try clear hb2); (try clear hk); (try clear hi); have hcz20_0 : w19.cell? ⟨gb313, 0, none⟩ = some (.slice A0_0 l0_0.length c0_0) := (blk_cell BK313.out 0).trans rfl; have hcz20_1 : w19.cell? ⟨gb313, 1, none⟩ = some (.slice A0_1 l0_1.length c0_1) := (blk_cell BK313.out 1).trans rfl; have hcz20_2 : w19.cell? ⟨gb313, 2, none⟩ = some (.slice A0_2 l0_2.length c0_2) := (blk_cell BK313.out 2).trans rfl; have hcz20_3 : w19.cell? ⟨gb313, 3, none⟩ = some (.slice A0_3 l0_3.length c0_3) := (blk_cell BK313.out 3).trans rfl; have hfz20_0 := blk_frozen BK313.out 0; have hfz20_1 := blk_frozen BK313.out 1; have hfz20_2 := blk_frozen BK313.out 2; have hfz20_3 := blk_frozen BK313.out 3) | ((with_reducible refine gate_callee (f := 11) rfl ?_); refine goesL_ (some 20) rfl rfl Try.func11 (by kernel_rfl) rfl #[.agg #[.slice A0_0 l0_0.length c0_0, .slice A0_1 l0_1.length c0_1, .slice A0_2 l0_2.length c0_2]] rfl (by (try simp only [List.map_toArray, List.map_cons, List.map_nil]); first | done | rfl | (simp only [List.length_drop, List.length_take]; rfl)) ?_; (with_reducible refine (gangwayref0_CopyScript.calls k _ _ l0_0 _ _ l0_1 _ _ l0_2 t315 t318 t321 _ ?side1 ?side2 ?side3 ?side4 ?side5 ?side6 A7.out).mono ?_); (case side1 => repeat (first | exact (Kd.C_below HR0_0.out HB.out) | (with_reducible refine Kd.C_alloc ?_ _) | (with_reducible refine Kd.C_drewN ?_ _) | (with_reducible refine Kd.C_drew ?_))); (case side2 => exact HC0_0.out); (case side3 => repeat (first | exact (Kd.C_below HR0_1.out HB.out) | (with_reducible refine Kd.C_alloc ?_ _) | (with_reducible refine Kd.C_drewN ?_ _) | (with_reducible refine Kd.C_drew ?_))); (case side4 => exact HC0_1.out); (case side5 => repeat (first | exact (Kd.C_below HR0_2.out HB.out) | (with_reducible refine Kd.C_alloc ?_ _) | (with_reducible refine Kd.C_drewN ?_ _) | (with_reducible refine Kd.C_drew ?_))); (case side6 => exact HC0_2.out); rintro e w21 ⟨v316, v319, v322, rfl, ho0, ho1, ho2, hb⟩; refine ⟨_, rfl, ?_⟩; have n0_ := Aside0.mk (Kd.R_lower ho0 (below_size (by repeat (first | (with_reducible first | exact HB.out | apply below_alloc | apply pw_below_drewN | apply below_drew1 | refine below_set ?_ GE313.out) | exact HB.out)))); have n1_ := Aside0.mk (Kd.R_lower ho1 (below_size (by repeat (first | (with_reducible first | exact HB.out | apply below_alloc | apply pw_below_drewN | apply below_drew1 | refine below_set ?_ GE313.out) | exact HB.out)))); have n2_ := Aside0.mk (Kd.R_lower ho2 (below_size (by repeat (first | (with_reducible first | exact HB.out | apply below_alloc | apply pw_below_drewN | apply below_drew1 | refine below_set ?_ GE313.out) | exact HB.out)))); have n3_ := Aside0.mk (blk_below (g := gb313) (o := .cells #[.slice A0_0 l0_0.length c0_0, .slice A0_1 l0_1.length c0_1, .slice A0_2 l0_2.length c0_2, .slice A0_3 l0_3.length c0_3] 28 (0, 0)) (by (with_reducible repeat (first | refine blk_drewN ?_ _ | refine blk_drew ?_ | refine blk_alloc ?_ _)); exact BK313.out) hb); have n4_ := Aside0.mk (below_step (by repeat (first | (with_reducible first | exact HB.out | apply below_alloc | apply pw_below_drewN | apply below_drew1 | refine below_set ?_ GE313.out) | exact HB.out)) hb); clear BK313; clear HB; have HO317 := n0_; have HO320 := n1_; have HO323 := n2_; have BK313 := n3_; have HB := n4_; clear n0_ n1_ n2_ n3_ n4_; (try clear hb); (try clear hb2); (try clear hk); (try clear hi); (try clear ho0); (try clear ho1); (try clear ho2)) | ((with_reducible refine gate_dst (N := 3) rfl ?_); refine box_event ?hg (N := 3) ?hd (cs := #[.slice none 0 0, .slice none 0 0, .slice none 0 0]) (t := 25) ?hr ?_; (case hd => rfl); (case hg => rfl); (case hr => first | (go_simp; done) | (go_simp; rfl)); intro gb324 hg w22 hbox hb; have n0_ := Aside0.mk (Kd.R_below (by (with_reducible repeat (first | apply Kd.R_alloc | apply Kd.R_drewN | apply Kd.R_drew)); exact HO317.out) hb); have n1_ := Aside0.mk (Kd.R_below (by (with_reducible repeat (first | apply Kd.R_alloc | apply Kd.R_drewN | apply Kd.R_drew)); exact HO320.out) hb); have n2_ := Aside0.mk (Kd.R_below (by (with_reducible repeat (first | apply Kd.R_alloc | apply Kd.R_drewN | apply Kd.R_drew)); exact HO323.out) hb); have n3_ := Aside0.mk (blk_below (g := gb313) (o := .cells #[.slice A0_0 l0_0.length c0_0, .slice A0_1 l0_1.length c0_1, .slice A0_2 l0_2.length c0_2, .slice A0_3 l0_3.length c0_3] 28 (0, 0)) (by (with_reducible repeat (first | refine blk_drewN ?_ _ | refine blk_drew ?_ | refine blk_alloc ?_ _)); exact BK313.out) hb); have n4_ := Aside0.mk (below_step (by repeat (first | (with_reducible first | exact HB.out | apply below_alloc | apply pw_below_drewN | apply below_drew1 | refine below_set ?_ GE313.out) | exact HB.out)) hb); have n5_ := Aside0.mk (hbox); have n6_ := Aside0.mk ((by rw [hg]; exact (below_size (by repeat (first | (with_reducible first | exact HB.out | apply below_alloc | apply pw_below_drewN | apply below_drew1 | refine below_set ?_ GE313.out) | exact HB.out))) : w.heap.size ≤ gb324)); have n7_ := Aside0.mk ((by rw [hg]; exact (below_size (by repeat (first | (with_reducible first | exact HB.out | apply below_alloc | apply pw_below_drewN | apply below_drew1 | refine below_set ?_ GE313.out) | exact HB.out))) : w.heap.size ≤ gb324)); have n8_ := Aside0.mk ((by rw [hg]; exact Nat.ne_of_lt (blk_lt (g := gb313) (o := .cells #[.slice A0_0 l0_0.length c0_0, .slice A0_1 l0_1.length c0_1, .slice A0_2 l0_2.length c0_2, .slice A0_3 l0_3.length c0_3] 28 (0, 0)) (by (with_reducible repeat (first | refine blk_drewN ?_ _ | refine blk_drew ?_ | refine blk_alloc ?_ _)); exact BK313.out)) : gb313 ≠ gb324)); have n9_ := Aside0.mk ((by rw [hg]; exact Nat.ne_of_gt (blk_lt (g := gb313) (o := .cells #[.slice A0_0 l0_0.length c0_0, .slice A0_1 l0_1.length c0_1, .slice A0_2 l0_2.length c0_2, .slice A0_3 l0_3.length c0_3] 28 (0, 0)) (by (with_reducible repeat (first | refine blk_drewN ?_ _ | refine blk_drew ?_ | refine blk_alloc ?_ _)); exact BK313.out)) : gb324 ≠ gb313)); clear HO317; clear HO320; clear HO323; clear BK313; clear HB; have HO317 := n0_; have HO320 := n1_; have HO323 := n2_; have BK313 := n3_; have HB := n4_; have BK324 := n5_; have GW324 := n6_; have GE324 := n7_; have NB313_324 := n8_; have NB324_313 := n9_; clear n0_ n1_ n2_ n3_ n4_ n5_ n6_ n7_ n8_ n9_; clear hb hbox hg; obtain ⟨Ao23, co23, eo23⟩ := Kd.R_slice HO317.out; subst eo23; have hnb24 := NB324_313.out; have hnc24 := NB313_324.out; have hcz25_0 : w22.cell? ⟨gb324, 0, none⟩ = some (.slice none 0 0) := (blk_cell BK324.out 0).trans rfl; have hcz25_1 : w22.cell? ⟨gb324, 1, none⟩ = some (.slice none 0 0) := (blk_cell BK324.out 1).trans rfl; have hcz25_2 : w22.cell? ⟨gb324, 2, none⟩ = some (.slice none 0 0) := (blk_cell BK324.out 2).trans rfl; have hfz25_0 := blk_frozen BK324.out 0; have hfz25_1 := blk_frozen BK324.out 1; have hfz25_2 := blk_frozen BK324.out 2; obtain ⟨Ao26, co26, eo26⟩ := Kd.R_slice HO320.out; subst eo26; obtain ⟨Ao27, co27, eo27⟩ := Kd.R_slice HO323.out; subst eo27) | ((with_reducible refine gate_callee (f := 7) rfl ?_); refine goesL_ (some 23) rfl rfl Try.func7 (by kernel_rfl) rfl #[.agg #[.slice Ao23 t315.length co23, .slice Ao26 t318.length co26, .slice Ao27 t321.length co27]] rfl (by (try simp only [List.map_toArray, List.map_cons, List.map_nil]); first | done | rfl | (simp only [List.length_drop, List.length_take]; rfl)) ?_; (with_reducible refine (feed_New.calls k _ _ t315 _ _ t318 _ _ t321 true t326 t329 t332 t336 _ ?side1 ?side2 ?side3 ?side4 ?side5 ?side6 A8.out).mono ?_); (case side1 => refine (Kd.R_reads' (e := 2) (base := w.heap.size) (ok := fun k_ => True) (n := t315.length) (c := co23) ?_).2.2; exact (by (with_reducible repeat (first | apply Kd.R_alloc | apply Kd.R_drewN | apply Kd.R_drew)); exact (Kd.R_mono (Kd.R_far (p := ⟨gb324, 2, none⟩) (Kd.R_far (p := ⟨gb324, 1, none⟩) (Kd.R_far (p := ⟨gb324, 0, none⟩) (Kd.R_types HO317.out BK324.out (by decide)) (fun _ hk => hk.2) (.slice Ao23 t315.length co23)) (fun _ hk => hk.2) (.slice Ao26 t318.length co26)) (fun _ hk => hk.2) (.slice Ao27 t321.length co27)) (fun _ h_ => h_.1)))); (case side2 => exact (Kd.R_reads' HO317.out).2.1); (case side3 => refine (Kd.R_reads' (e := 5) (base := w.heap.size) (ok := fun k_ => some k_ ≠ (.slice Ao27 t321.length co27 : Value).ownBlock) (n := t318.length) (c := co26) ?_).2.2; exact (by (with_reducible repeat (first | apply Kd.R_alloc | apply Kd.R_drewN | apply Kd.R_drew)); exact (Kd.R_mono (Kd.R_far (p := ⟨gb324, 2, none⟩) (Kd.R_far (p := ⟨gb324, 1, none⟩) (Kd.R_far (p := ⟨gb324, 0, none⟩) (Kd.R_types HO320.out BK324.out (by decide)) (fun _ hk => hk.2) (.slice Ao23 t315.length co23)) (fun _ hk => hk.2) (.slice Ao26 t318.length co26)) (fun _ hk => hk.2) (.slice Ao27 t321.length co27)) (fun _ h_ => h_.1)))); (case side4 => exact (Kd.R_reads' HO320.out).2.1); (case side5 => refine (Kd.R_reads' (e := 5) (base := w.heap.size) (ok := fun k_ => some k_ ≠ (.slice Ao26 t318.length co26 : Value).ownBlock) (n := t321.length) (c := co27) ?_).2.2; exact (by (with_reducible repeat (first | apply Kd.R_alloc | apply Kd.R_drewN | apply Kd.R_drew)); exact (Kd.R_mono (Kd.R_far (p := ⟨gb324, 2, none⟩) (Kd.R_far (p := ⟨gb324, 1, none⟩) (Kd.R_far (p := ⟨gb324, 0, none⟩) (Kd.R_types HO323.out BK324.out (by decide)) (fun _ hk => hk.2) (.slice Ao23 t315.length co23)) (fun _ hk => hk.2) (.slice Ao26 t318.length co26)) (fun _ hk => hk.2) (.slice Ao27 t321.length co27)) (fun _ h_ => h_.1)))); (case side6 => exact (Kd.R_reads' HO323.out).2.1); rintro e w28 ⟨v327, v330, v333, pz335, rfl, ho0, ho1, ho2, hz335, hb⟩; refine ⟨_, rfl, ?_⟩; have n0_ := Aside0.mk (Kd.R_elder' (by (with_reducible repeat (first | apply Kd.R_alloc | apply Kd.R_drewN | apply Kd.R_drew)); exact (Kd.R_mono (Kd.R_far (p := ⟨gb324, 2, none⟩) (Kd.R_far (p := ⟨gb324, 1, none⟩) (Kd.R_far (p := ⟨gb324, 0, none⟩) (Kd.R_types HO317.out BK324.out (by decide)) (fun _ hk => hk.2) (.slice Ao23 t315.length co23)) (fun _ hk => hk.2) (.slice Ao26 t318.length co26)) (fun _ hk => hk.2) (.slice Ao27 t321.length co27)) (fun _ h_ => h_.1))) (Kd.Q_base ho0) hb); have n1_ := Aside0.mk (Kd.R_mono (Kd.R_told (Kd.R_told (Kd.R_old (by (with_reducible repeat (first | apply Kd.R_alloc | apply Kd.R_drewN | apply Kd.R_drew)); exact (Kd.R_mono (Kd.R_far (p := ⟨gb324, 2, none⟩) (Kd.R_far (p := ⟨gb324, 1, none⟩) (Kd.R_far (p := ⟨gb324, 0, none⟩) (Kd.R_types HO320.out BK324.out (by decide)) (fun _ hk => hk.2) (.slice Ao23 t315.length co23)) (fun _ hk => hk.2) (.slice Ao26 t318.length co26)) (fun _ hk => hk.2) (.slice Ao27 t321.length co27)) (fun _ h_ => h_.1))) hb) (Kd.Q_base ho1)) (Kd.Q_base ho2)) (fun _ h_ => h_.1)); have n2_ := Aside0.mk (Kd.R_mono (Kd.R_told (Kd.R_told (Kd.R_old (by (with_reducible repeat (first | apply Kd.R_alloc | apply Kd.R_drewN | apply Kd.R_drew)); exact (Kd.R_mono (Kd.R_far (p := ⟨gb324, 2, none⟩) (Kd.R_far (p := ⟨gb324, 1, none⟩) (Kd.R_far (p := ⟨gb324, 0, none⟩) (Kd.R_types HO323.out BK324.out (by decide)) (fun _ hk => hk.2) (.slice Ao23 t315.length co23)) (fun _ hk => hk.2) (.slice Ao26 t318.length co26)) (fun _ hk => hk.2) (.slice Ao27 t321.length co27)) (fun _ h_ => h_.1))) hb) (Kd.Q_base ho1)) (Kd.Q_base ho2)) (fun _ h_ => h_.1)); have n3_ := Aside0.mk (Kd.Q_lower (Kd.Q_new' ho0 (Kd.R_lt (by (with_reducible repeat (first | apply Kd.R_alloc | apply Kd.R_drewN | apply Kd.R_drew)); exact (Kd.R_mono (Kd.R_far (p := ⟨gb324, 2, none⟩) (Kd.R_far (p := ⟨gb324, 1, none⟩) (Kd.R_far (p := ⟨gb324, 0, none⟩) (Kd.R_types HO317.out BK324.out (by decide)) (fun _ hk => hk.2) (.slice Ao23 t315.length co23)) (fun _ hk => hk.2) (.slice Ao26 t318.length co26)) (fun _ hk => hk.2) (.slice Ao27 t321.length co27)) (fun _ h_ => h_.1))))) (below_size (by repeat (first | (with_reducible first | exact HB.out | apply below_alloc | apply pw_below_drewN | apply below_drew1 | refine below_set ?_ GE313.out | refine below_set ?_ GE324.out) | exact HB.out)))); have n4_ := Aside0.mk (Kd.Q_lower (Kd.Q_new' (Kd.Q_new' ho1 (Kd.R_lt (by (with_reducible repeat (first | apply Kd.R_alloc | apply Kd.R_drewN | apply Kd.R_drew)); exact (Kd.R_mono (Kd.R_far (p := ⟨gb324, 2, none⟩) (Kd.R_far (p := ⟨gb324, 1, none⟩) (Kd.R_far (p := ⟨gb324, 0, none⟩) (Kd.R_types HO320.out BK324.out (by decide)) (fun _ hk => hk.2) (.slice Ao23 t315.length co23)) (fun _ hk => hk.2) (.slice Ao26 t318.length co26)) (fun _ hk => hk.2) (.slice Ao27 t321.length co27)) (fun _ h_ => h_.1))))) (Kd.R_lt (by (with_reducible repeat (first | apply Kd.R_alloc | apply Kd.R_drewN | apply Kd.R_drew)); exact (Kd.R_mono (Kd.R_far (p := ⟨gb324, 2, none⟩) (Kd.R_far (p := ⟨gb324, 1, none⟩) (Kd.R_far (p := ⟨gb324, 0, none⟩) (Kd.R_types HO323.out BK324.out (by decide)) (fun _ hk => hk.2) (.slice Ao23 t315.length co23)) (fun _ hk => hk.2) (.slice Ao26 t318.length co26)) (fun _ hk => hk.2) (.slice Ao27 t321.length co27)) (fun _ h_ => h_.1))))) (below_size (by repeat (first | (with_reducible first | exact HB.out | apply below_alloc | apply pw_below_drewN | apply below_drew1 | refine below_set ?_ GE313.out | refine below_set ?_ GE324.out) | exact HB.out)))); have n5_ := Aside0.mk (Kd.Q_lower (Kd.Q_new' (Kd.Q_new' ho2 (Kd.R_lt (by (with_reducible repeat (first | apply Kd.R_alloc | apply Kd.R_drewN | apply Kd.R_drew)); exact (Kd.R_mono (Kd.R_far (p := ⟨gb324, 2, none⟩) (Kd.R_far (p := ⟨gb324, 1, none⟩) (Kd.R_far (p := ⟨gb324, 0, none⟩) (Kd.R_types HO320.out BK324.out (by decide)) (fun _ hk => hk.2) (.slice Ao23 t315.length co23)) (fun _ hk => hk.2) (.slice Ao26 t318.length co26)) (fun _ hk => hk.2) (.slice Ao27 t321.length co27)) (fun _ h_ => h_.1))))) (Kd.R_lt (by (with_reducible repeat (first | apply Kd.R_alloc | apply Kd.R_drewN | apply Kd.R_drew)); exact (Kd.R_mono (Kd.R_far (p := ⟨gb324, 2, none⟩) (Kd.R_far (p := ⟨gb324, 1, none⟩) (Kd.R_far (p := ⟨gb324, 0, none⟩) (Kd.R_types HO323.out BK324.out (by decide)) (fun _ hk => hk.2) (.slice Ao23 t315.length co23)) (fun _ hk => hk.2) (.slice Ao26 t318.length co26)) (fun _ hk => hk.2) (.slice Ao27 t321.length co27)) (fun _ h_ => h_.1))))) (below_size (by repeat (first | (with_reducible first | exact HB.out | apply below_alloc | apply pw_below_drewN | apply below_drew1 | refine below_set ?_ GE313.out | refine below_set ?_ GE324.out) | exact HB.out)))); have n6_ := Aside0.mk (blk_below (g := gb313) (o := .cells #[.slice A0_0 l0_0.length c0_0, .slice A0_1 l0_1.length c0_1, .slice A0_2 l0_2.length c0_2, .slice A0_3 l0_3.length c0_3] 28 (0, 0)) (by (with_reducible repeat (first | refine blk_drewN ?_ _ | refine blk_drew ?_ | refine blk_alloc ?_ _)); refine blk_far ?_ NB313_324.out _; (with_reducible repeat (first | refine blk_drewN ?_ _ | refine blk_drew ?_ | refine blk_alloc ?_ _)); refine blk_far ?_ NB313_324.out _; (with_reducible repeat (first | refine blk_drewN ?_ _ | refine blk_drew ?_ | refine blk_alloc ?_ _)); refine blk_far ?_ NB313_324.out _; (with_reducible repeat (first | refine blk_drewN ?_ _ | refine blk_drew ?_ | refine blk_alloc ?_ _)); exact BK313.out) hb); have n7_ := Aside0.mk (blk_below (g := gb324) (o := .cells #[.slice Ao23 t315.length co23, .slice Ao26 t318.length co26, .slice Ao27 t321.length co27] 25 (0, 0)) (by (with_reducible repeat (first | refine blk_drewN ?_ _ | refine blk_drew ?_ | refine blk_alloc ?_ _)); refine puts (cs := #[.slice none 0 0, .slice none 0 0, .slice none 0 0]) [_, _, _] ?_ rfl; (with_reducible repeat (first | refine blk_drewN ?_ _ | refine blk_drew ?_ | refine blk_alloc ?_ _)); exact BK324.out) hb); have n8_ := Aside0.mk ((show (true = true → ∃ g_ : Nat, pz335 = .pointer (some ⟨g_, 0, none⟩) ∧ IsS55 w w28 g_ v327 v330 v333 ∧ gb313 ≠ g_ ∧ gb324 ≠ g_) ∧ (true = false → pz335 = .pointer none) from ⟨fun h_ => (hz335.1 h_).elim fun g_ hg_ => ⟨g_, hg_.1, hg_.2.lower ((below_size (by repeat (first | (with_reducible first | exact HB.out | apply below_alloc | apply pw_below_drewN | apply below_drew1 | refine below_set ?_ GE313.out | refine below_set ?_ GE324.out) | exact HB.out)))), Nat.ne_of_lt (Nat.lt_of_lt_of_le (blk_lt (g := gb313) (o := .cells #[.slice A0_0 l0_0.length c0_0, .slice A0_1 l0_1.length c0_1, .slice A0_2 l0_2.length c0_2, .slice A0_3 l0_3.length c0_3] 28 (0, 0)) (by (with_reducible repeat (first | refine blk_drewN ?_ _ | refine blk_drew ?_ | refine blk_alloc ?_ _)); refine blk_far ?_ NB313_324.out _; (with_reducible repeat (first | refine blk_drewN ?_ _ | refine blk_drew ?_ | refine blk_alloc ?_ _)); refine blk_far ?_ NB313_324.out _; (with_reducible repeat (first | refine blk_drewN ?_ _ | refine blk_drew ?_ | refine blk_alloc ?_ _)); refine blk_far ?_ NB313_324.out _; (with_reducible repeat (first | refine blk_drewN ?_ _ | refine blk_drew ?_ | refine blk_alloc ?_ _)); exact BK313.out)) hg_.2.ge), Nat.ne_of_lt (Nat.lt_of_lt_of_le (blk_lt (g := gb324) (o := .cells #[.slice Ao23 t315.length co23, .slice Ao26 t318.length co26, .slice Ao27 t321.length co27] 25 (0, 0)) (by (with_reducible repeat (first | refine blk_drewN ?_ _ | refine blk_drew ?_ | refine blk_alloc ?_ _)); refine puts (cs := #[.slice none 0 0, .slice none 0 0, .slice none 0 0]) [_, _, _] ?_ rfl; (with_reducible repeat (first | refine blk_drewN ?_ _ | refine blk_drew ?_ | refine blk_alloc ?_ _)); exact BK324.out)) hg_.2.ge)⟩, hz335.2⟩)); have n9_ := Aside0.mk (below_step (by repeat (first | (with_reducible first | exact HB.out | apply below_alloc | apply pw_below_drewN | apply below_drew1 | refine below_set ?_ GE313.out | refine below_set ?_ GE324.out) | exact HB.out)) hb); clear HO317; clear HO320; clear HO323; clear BK313; clear BK324; clear HB; have HO317 := n0_; have HO320 := n1_; have HO323 := n2_; have HO328 := n3_; have HO331 := n4_; have HO334 := n5_; have BK313 := n6_; have BK324 := n7_; have HZ335 := n8_; have HB := n9_; clear n0_ n1_ n2_ n3_ n4_ n5_ n6_ n7_ n8_ n9_; (try clear hb); (try clear hb2); (try clear hk); (try clear hi); (try clear ho0); (try clear ho1); (try clear ho2); obtain ⟨g335, e_, hi_, hn0_, hn1_⟩ := HZ335.out.1 rfl; subst e_; have HI335 := Aside0.mk hi_; clear hi_ HZ335; have NB313_335 := Aside0.mk hn0_; have NB335_313 := Aside0.mk (Ne.symm hn0_); clear hn0_; have NB324_335 := Aside0.mk hn1_; have NB335_324 := Aside0.mk (Ne.symm hn1_); clear hn1_; have hnb29 := NB324_335.out; have hnc29 := NB335_324.out; have hcz30_0 : w28.cell? ⟨gb324, 0, none⟩ = some (.slice Ao23 t315.length co23) := (blk_cell BK324.out 0).trans rfl; have hcz30_1 : w28.cell? ⟨gb324, 1, none⟩ = some (.slice Ao26 t318.length co26) := (blk_cell BK324.out 1).trans rfl; have hcz30_2 : w28.cell? ⟨gb324, 2, none⟩ = some (.slice Ao27 t321.length co27) := (blk_cell BK324.out 2).trans rfl; have hfz30_0 := blk_frozen BK324.out 0; have hfz30_1 := blk_frozen BK324.out 1; have hfz30_2 := blk_frozen BK324.out 2) | ((with_reducible refine gate_callee (f := 12) rfl ?_); refine goesL_ (some 28) rfl rfl Try.func12 (by kernel_rfl) rfl #[.slice Ao23 t315.length co23] rfl (by (try simp only [List.map_toArray, List.map_cons, List.map_nil]); first | done | rfl | (simp only [List.length_drop, List.length_take]; rfl)) ?_; (with_reducible refine (gangwaylaw0_Longs.calls k (fun k_ => some k_ = (.slice Ao23 t315.length co23 : Value).ownBlock) (.slice Ao23 t315.length co23) t315  w _ ?side1 ?side2 A10.out).mono ?_); (case side1 => repeat (first | (with_reducible first | exact HB.out | apply below_alloc | apply pw_below_drewN | apply below_drew1 | refine below_set ?_ (IsS55.ge HI335.out) | refine below_set ?_ GE313.out | refine below_set ?_ GE324.out) | exact HB.out)); (case side2 => exact Kd.R_tight rfl HO317.out); rintro e w31 ⟨rfl, hb, hkp⟩; refine ⟨_, rfl, ?_⟩; have n0_ := Aside0.mk (blk_kept (o := .cells #[.slice A0_0 l0_0.length c0_0, .slice A0_1 l0_1.length c0_1, .slice A0_2 l0_2.length c0_2, .slice A0_3 l0_3.length c0_3] 28 (0, 0)) (by (with_reducible repeat (first | refine blk_drewN ?_ _ | refine blk_drew ?_ | refine blk_alloc ?_ _)); exact BK313.out) hkp (fun hs_ => (fun e_ => (Kd.R_ne HO317.out BK313.out (by decide)) e_) hs_)); have n1_ := Aside0.mk (Kd.R_mono (ok' := fun k_ => some k_ ≠ (.slice Ao27 t321.length co27 : Value).ownBlock ∧ some k_ ≠ (v330 : Value).ownBlock ∧ some k_ ≠ (v333 : Value).ownBlock) (Kd.R_keptB ((Kd.R_apart' HO320.out (Kd.R_typed HO317.out) (by decide))) hkp (fun k_ hk_ hs_ => (hk_.2) hs_)) (fun k_ hk_ => ⟨hk_.1.1.1.1, hk_.1.1.1.2, hk_.1.1.2⟩)); have n2_ := Aside0.mk (Kd.R_mono (ok' := fun k_ => some k_ ≠ (.slice Ao26 t318.length co26 : Value).ownBlock ∧ some k_ ≠ (v330 : Value).ownBlock ∧ some k_ ≠ (v333 : Value).ownBlock) (Kd.R_keptB ((Kd.R_apart' HO323.out (Kd.R_typed HO317.out) (by decide))) hkp (fun k_ hk_ hs_ => (hk_.2) hs_)) (fun k_ hk_ => ⟨hk_.1.1.1.1, hk_.1.1.1.2, hk_.1.1.2⟩)); have n3_ := Aside0.mk (blk_kept (o := .cells #[.slice Ao23 t315.length co23, .slice Ao26 t318.length co26, .slice Ao27 t321.length co27] 25 (0, 0)) (by (with_reducible repeat (first | refine blk_drewN ?_ _ | refine blk_drew ?_ | refine blk_alloc ?_ _)); exact BK324.out) hkp (fun hs_ => (fun e_ => (Kd.R_ne HO317.out BK324.out (by decide)) e_) hs_)); have n4_ := Aside0.mk (Kd.Q_mono (ok' := fun k_ => True) (Kd.Q_keptB (HO328.out) hkp (fun k_ hk_ hs_ => (hk_.2) hs_)) (fun k_ hk_ => trivial)); have n5_ := Aside0.mk (Kd.Q_mono (ok' := fun k_ => some k_ ≠ (.slice Ao26 t318.length co26 : Value).ownBlock ∧ some k_ ≠ (.slice Ao27 t321.length co27 : Value).ownBlock ∧ some k_ ≠ (v333 : Value).ownBlock) (Kd.Q_keptB ((Kd.Q_apart' HO331.out (Kd.R_typed HO317.out) (by decide))) hkp (fun k_ hk_ hs_ => (hk_.2) hs_)) (fun k_ hk_ => ⟨hk_.1.1.1.2, hk_.1.1.2, hk_.1.1.1.1⟩)); have n6_ := Aside0.mk (Kd.Q_mono (ok' := fun k_ => some k_ ≠ (.slice Ao26 t318.length co26 : Value).ownBlock ∧ some k_ ≠ (.slice Ao27 t321.length co27 : Value).ownBlock ∧ some k_ ≠ (v330 : Value).ownBlock) (Kd.Q_keptB ((Kd.Q_apart' HO334.out (Kd.R_typed HO317.out) (by decide))) hkp (fun k_ hk_ hs_ => (hk_.2) hs_)) (fun k_ hk_ => ⟨hk_.1.1.1.2, hk_.1.1.2, hk_.1.1.1.1⟩)); have n7_ := Aside0.mk (IsS55.kept (by repeat (first | (with_reducible first | exact HI335.out | apply IsS55.alloc | apply IsS55.drewN | apply IsS55.drew | apply IsS55.set_0 | apply IsS55.set_1 | apply IsS55.set_2 | refine IsS55.far ?_ NB335_313.out _ | refine IsS55.far ?_ NB335_324.out _) | exact HI335.out)) hkp (fun hs_ => (fun e_ => (IsS55.own_ne HI335.out HO317.out (by decide)) e_) hs_)); have n8_ := Aside0.mk (hb); clear BK313; clear HO320; clear HO323; clear BK324; clear HO328; clear HO331; clear HO334; clear HI335; clear HB; clear HO317; have BK313 := n0_; have HO320 := n1_; have HO323 := n2_; have BK324 := n3_; have HO328 := n4_; have HO331 := n5_; have HO334 := n6_; have HI335 := n7_; have HB := n8_; clear n0_ n1_ n2_ n3_ n4_ n5_ n6_ n7_ n8_; (try clear hb); (try clear hkp); have hcz32_0 : w31.cell? ⟨gb324, 0, none⟩ = some (.slice Ao23 t315.length co23) := (blk_cell BK324.out 0).trans rfl; have hcz32_1 : w31.cell? ⟨gb324, 1, none⟩ = some (.slice Ao26 t318.length co26) := (blk_cell BK324.out 1).trans rfl; have hcz32_2 : w31.cell? ⟨gb324, 2, none⟩ = some (.slice Ao27 t321.length co27) := (blk_cell BK324.out 2).trans rfl; have hfz32_0 := blk_frozen BK324.out 0; have hfz32_1 := blk_frozen BK324.out 1; have hfz32_2 := blk_frozen BK324.out 2) | ((with_reducible refine gate_callee (f := 13) rfl ?_); refine goesL_ (some 31) rfl rfl Try.func13 (by kernel_rfl) rfl #[.slice Ao26 t318.length co26] rfl (by (try simp only [List.map_toArray, List.map_cons, List.map_nil]); first | done | rfl | (simp only [List.length_drop, List.length_take]; rfl)) ?_; (with_reducible refine (gangwaylaw0_Bytes.calls k (fun k_ => some k_ = (.slice Ao26 t318.length co26 : Value).ownBlock) (.slice Ao26 t318.length co26) t318  w _ ?side1 ?side2 A11.out).mono ?_); (case side1 => repeat (first | (with_reducible first | exact HB.out | apply below_alloc | apply pw_below_drewN | apply below_drew1 | refine below_set ?_ (IsS55.ge HI335.out) | refine below_set ?_ GE313.out | refine below_set ?_ GE324.out) | exact HB.out)); (case side2 => exact Kd.R_tight rfl HO320.out); rintro e w33 ⟨rfl, hb, hkp⟩; refine ⟨_, rfl, ?_⟩; have n0_ := Aside0.mk (blk_kept (o := .cells #[.slice A0_0 l0_0.length c0_0, .slice A0_1 l0_1.length c0_1, .slice A0_2 l0_2.length c0_2, .slice A0_3 l0_3.length c0_3] 28 (0, 0)) (by (with_reducible repeat (first | refine blk_drewN ?_ _ | refine blk_drew ?_ | refine blk_alloc ?_ _)); exact BK313.out) hkp (fun hs_ => (fun e_ => (Kd.R_ne HO320.out BK313.out (by decide)) e_) hs_)); have n1_ := Aside0.mk (Kd.R_mono (ok' := fun k_ => some k_ ≠ (v330 : Value).ownBlock ∧ some k_ ≠ (v333 : Value).ownBlock) (Kd.R_keptB (HO323.out) hkp (fun k_ hk_ hs_ => (hk_.1) hs_)) (fun k_ hk_ => ⟨hk_.1.2.1, hk_.1.2.2⟩)); have n2_ := Aside0.mk (blk_kept (o := .cells #[.slice Ao23 t315.length co23, .slice Ao26 t318.length co26, .slice Ao27 t321.length co27] 25 (0, 0)) (by (with_reducible repeat (first | refine blk_drewN ?_ _ | refine blk_drew ?_ | refine blk_alloc ?_ _)); exact BK324.out) hkp (fun hs_ => (fun e_ => (Kd.R_ne HO320.out BK324.out (by decide)) e_) hs_)); have n3_ := Aside0.mk (Kd.Q_mono (ok' := fun k_ => True) (Kd.Q_keptB ((Kd.Q_apart' HO328.out (Kd.R_typed HO320.out) (by decide))) hkp (fun k_ hk_ hs_ => (hk_.2) hs_)) (fun k_ hk_ => trivial)); have n4_ := Aside0.mk (Kd.Q_mono (ok' := fun k_ => some k_ ≠ (.slice Ao27 t321.length co27 : Value).ownBlock ∧ some k_ ≠ (v333 : Value).ownBlock) (Kd.Q_keptB (HO331.out) hkp (fun k_ hk_ hs_ => (hk_.1) hs_)) (fun k_ hk_ => ⟨hk_.1.2.1, hk_.1.2.2⟩)); have n5_ := Aside0.mk (Kd.Q_mono (ok' := fun k_ => some k_ ≠ (.slice Ao27 t321.length co27 : Value).ownBlock ∧ some k_ ≠ (v330 : Value).ownBlock) (Kd.Q_keptB (HO334.out) hkp (fun k_ hk_ hs_ => (hk_.1) hs_)) (fun k_ hk_ => ⟨hk_.1.2.1, hk_.1.2.2⟩)); have n6_ := Aside0.mk (IsS55.kept (by repeat (first | (with_reducible first | exact HI335.out | apply IsS55.alloc | apply IsS55.drewN | apply IsS55.drew | apply IsS55.set_0 | apply IsS55.set_1 | apply IsS55.set_2 | refine IsS55.far ?_ NB335_313.out _ | refine IsS55.far ?_ NB335_324.out _) | exact HI335.out)) hkp (fun hs_ => (fun e_ => (IsS55.own_ne HI335.out HO320.out (by decide)) e_) hs_)); have n7_ := Aside0.mk (hb); clear BK313; clear HO323; clear BK324; clear HO328; clear HO331; clear HO334; clear HI335; clear HB; clear HO320; have BK313 := n0_; have HO323 := n1_; have BK324 := n2_; have HO328 := n3_; have HO331 := n4_; have HO334 := n5_; have HI335 := n6_; have HB := n7_; clear n0_ n1_ n2_ n3_ n4_ n5_ n6_ n7_; (try clear hb); (try clear hkp); have hcz34_0 : w33.cell? ⟨gb324, 0, none⟩ = some (.slice Ao23 t315.length co23) := (blk_cell BK324.out 0).trans rfl; have hcz34_1 : w33.cell? ⟨gb324, 1, none⟩ = some (.slice Ao26 t318.length co26) := (blk_cell BK324.out 1).trans rfl; have hcz34_2 : w33.cell? ⟨gb324, 2, none⟩ = some (.slice Ao27 t321.length co27) := (blk_cell BK324.out 2).trans rfl; have hfz34_0 := blk_frozen BK324.out 0; have hfz34_1 := blk_frozen BK324.out 1; have hfz34_2 := blk_frozen BK324.out 2) | ((with_reducible refine gate_callee (f := 13) rfl ?_); refine goesL_ (some 34) rfl rfl Try.func13 (by kernel_rfl) rfl #[.slice Ao27 t321.length co27] rfl (by (try simp only [List.map_toArray, List.map_cons, List.map_nil]); first | done | rfl | (simp only [List.length_drop, List.length_take]; rfl)) ?_; (with_reducible refine (gangwaylaw0_Bytes.calls k (fun k_ => some k_ = (.slice Ao27 t321.length co27 : Value).ownBlock) (.slice Ao27 t321.length co27) t321  w _ ?side1 ?side2 A12.out).mono ?_); (case side1 => repeat (first | (with_reducible first | exact HB.out | apply below_alloc | apply pw_below_drewN | apply below_drew1 | refine below_set ?_ (IsS55.ge HI335.out) | refine below_set ?_ GE313.out | refine below_set ?_ GE324.out) | exact HB.out)); (case side2 => exact Kd.R_tight rfl HO323.out); rintro e w35 ⟨rfl, hb, hkp⟩; refine ⟨_, rfl, ?_⟩; have n0_ := Aside0.mk (blk_kept (o := .cells #[.slice A0_0 l0_0.length c0_0, .slice A0_1 l0_1.length c0_1, .slice A0_2 l0_2.length c0_2, .slice A0_3 l0_3.length c0_3] 28 (0, 0)) (by (with_reducible repeat (first | refine blk_drewN ?_ _ | refine blk_drew ?_ | refine blk_alloc ?_ _)); exact BK313.out) hkp (fun hs_ => (fun e_ => (Kd.R_ne HO323.out BK313.out (by decide)) e_) hs_)); have n1_ := Aside0.mk (blk_kept (o := .cells #[.slice Ao23 t315.length co23, .slice Ao26 t318.length co26, .slice Ao27 t321.length co27] 25 (0, 0)) (by (with_reducible repeat (first | refine blk_drewN ?_ _ | refine blk_drew ?_ | refine blk_alloc ?_ _)); exact BK324.out) hkp (fun hs_ => (fun e_ => (Kd.R_ne HO323.out BK324.out (by decide)) e_) hs_)); have n2_ := Aside0.mk (Kd.Q_mono (ok' := fun k_ => True) (Kd.Q_keptB ((Kd.Q_apart' HO328.out (Kd.R_typed HO323.out) (by decide))) hkp (fun k_ hk_ hs_ => (hk_.2) hs_)) (fun k_ hk_ => trivial)); have n3_ := Aside0.mk (Kd.Q_mono (ok' := fun k_ => some k_ ≠ (v333 : Value).ownBlock) (Kd.Q_keptB (HO331.out) hkp (fun k_ hk_ hs_ => (hk_.1) hs_)) (fun k_ hk_ => hk_.1.2)); have n4_ := Aside0.mk (Kd.Q_mono (ok' := fun k_ => some k_ ≠ (v330 : Value).ownBlock) (Kd.Q_keptB (HO334.out) hkp (fun k_ hk_ hs_ => (hk_.1) hs_)) (fun k_ hk_ => hk_.1.2)); have n5_ := Aside0.mk (IsS55.kept (by repeat (first | (with_reducible first | exact HI335.out | apply IsS55.alloc | apply IsS55.drewN | apply IsS55.drew | apply IsS55.set_0 | apply IsS55.set_1 | apply IsS55.set_2 | refine IsS55.far ?_ NB335_313.out _ | refine IsS55.far ?_ NB335_324.out _) | exact HI335.out)) hkp (fun hs_ => (fun e_ => (IsS55.own_ne HI335.out HO323.out (by decide)) e_) hs_)); have n6_ := Aside0.mk (hb); clear BK313; clear BK324; clear HO328; clear HO331; clear HO334; clear HI335; clear HB; clear HO323; have BK313 := n0_; have BK324 := n1_; have HO328 := n2_; have HO331 := n3_; have HO334 := n4_; have HI335 := n5_; have HB := n6_; clear n0_ n1_ n2_ n3_ n4_ n5_ n6_; (try clear hb); (try clear hkp); have hnb36 := NB313_335.out; have hnc36 := NB335_313.out; have hcz37_0 : w35.cell? ⟨gb313, 0, none⟩ = some (.slice A0_0 l0_0.length c0_0) := (blk_cell BK313.out 0).trans rfl; have hcz37_1 : w35.cell? ⟨gb313, 1, none⟩ = some (.slice A0_1 l0_1.length c0_1) := (blk_cell BK313.out 1).trans rfl; have hcz37_2 : w35.cell? ⟨gb313, 2, none⟩ = some (.slice A0_2 l0_2.length c0_2) := (blk_cell BK313.out 2).trans rfl; have hcz37_3 : w35.cell? ⟨gb313, 3, none⟩ = some (.slice A0_3 l0_3.length c0_3) := (blk_cell BK313.out 3).trans rfl; have hfz37_0 := blk_frozen BK313.out 0; have hfz37_1 := blk_frozen BK313.out 1; have hfz37_2 := blk_frozen BK313.out 2; have hfz37_3 := blk_frozen BK313.out 3) | ((with_reducible refine gate_callee (f := 14) rfl ?_); refine goesL_ (some 37) rfl rfl Try.func14 (by kernel_rfl) rfl #[.agg #[.slice A0_0 l0_0.length c0_0, .slice A0_1 l0_1.length c0_1, .slice A0_2 l0_2.length c0_2]] rfl (by (try simp only [List.map_toArray, List.map_cons, List.map_nil]); first | done | rfl | (simp only [List.length_drop, List.length_take]; rfl)) ?_; (with_reducible refine (gangwayref23_May.calls k _ _ l0_0 _ _ l0_1 _ _ l0_2 true _ ?side1 ?side2 ?side3 ?side4 ?side5 ?side6 A13.out).mono ?_); (case side1 => repeat (first | exact (Kd.C_below HR0_0.out HB.out) | (with_reducible refine Kd.C_alloc ?_ _) | (with_reducible refine Kd.C_drewN ?_ _) | (with_reducible refine Kd.C_drew ?_))); (case side2 => exact HC0_0.out); (case side3 => repeat (first | exact (Kd.C_below HR0_1.out HB.out) | (with_reducible refine Kd.C_alloc ?_ _) | (with_reducible refine Kd.C_drewN ?_ _) | (with_reducible refine Kd.C_drew ?_))); (case side4 => exact HC0_1.out); (case side5 => repeat (first | exact (Kd.C_below HR0_2.out HB.out) | (with_reducible refine Kd.C_alloc ?_ _) | (with_reducible refine Kd.C_drewN ?_ _) | (with_reducible refine Kd.C_drew ?_))); (case side6 => exact HC0_2.out); rintro e w38 ⟨rfl, hb⟩; refine ⟨_, rfl, ?_⟩; have n0_ := Aside0.mk (Kd.Q_below (by (with_reducible repeat (first | apply Kd.Q_alloc | apply Kd.Q_drewN | apply Kd.Q_drew)); exact HO328.out) hb); have n1_ := Aside0.mk (Kd.Q_below (by (with_reducible repeat (first | apply Kd.Q_alloc | apply Kd.Q_drewN | apply Kd.Q_drew)); exact HO331.out) hb); have n2_ := Aside0.mk (Kd.Q_below (by (with_reducible repeat (first | apply Kd.Q_alloc | apply Kd.Q_drewN | apply Kd.Q_drew)); exact HO334.out) hb); have n3_ := Aside0.mk (blk_below (g := gb313) (o := .cells #[.slice A0_0 l0_0.length c0_0, .slice A0_1 l0_1.length c0_1, .slice A0_2 l0_2.length c0_2, .slice A0_3 l0_3.length c0_3] 28 (0, 0)) (by (with_reducible repeat (first | refine blk_drewN ?_ _ | refine blk_drew ?_ | refine blk_alloc ?_ _)); exact BK313.out) hb); have n4_ := Aside0.mk (blk_below (g := gb324) (o := .cells #[.slice Ao23 t315.length co23, .slice Ao26 t318.length co26, .slice Ao27 t321.length co27] 25 (0, 0)) (by (with_reducible repeat (first | refine blk_drewN ?_ _ | refine blk_drew ?_ | refine blk_alloc ?_ _)); exact BK324.out) hb); have n5_ := Aside0.mk (IsS55.below (by repeat (first | (with_reducible first | exact HI335.out | apply IsS55.alloc | apply IsS55.drewN | apply IsS55.drew | apply IsS55.set_0 | apply IsS55.set_1 | apply IsS55.set_2 | refine IsS55.far ?_ NB335_313.out _ | refine IsS55.far ?_ NB335_324.out _) | exact HI335.out)) hb); have n6_ := Aside0.mk (below_step (by repeat (first | (with_reducible first | exact HB.out | apply below_alloc | apply pw_below_drewN | apply below_drew1 | refine below_set ?_ (IsS55.ge HI335.out) | refine below_set ?_ GE313.out | refine below_set ?_ GE324.out) | exact HB.out)) hb); clear HO328; clear HO331; clear HO334; clear BK313; clear BK324; clear HI335; clear HB; have HO328 := n0_; have HO331 := n1_; have HO334 := n2_; have BK313 := n3_; have BK324 := n4_; have HI335 := n5_; have HB := n6_; clear n0_ n1_ n2_ n3_ n4_ n5_ n6_; (try clear hb); (try clear hb2); (try clear hk); (try clear hi)) | ((with_reducible refine gate_callee (f := 8) rfl ?_); refine goesL_ (some 50) rfl rfl Try.func8 (by kernel_rfl) rfl #[.int .i64 t336] rfl (by (try simp only [List.map_toArray, List.map_cons, List.map_nil]); first | done | rfl | (simp only [List.length_drop, List.length_take]; rfl)) ?_; (with_reducible refine (gangwaylaw23_num.calls t336 t339 _ A15.out).mono ?_); rintro e w' ⟨rfl, ⟨nd, rfl⟩⟩; refine ⟨_, rfl, ?_⟩; have hcz39_0 : w38.cell? ⟨gb313, 0, none⟩ = some (.slice A0_0 l0_0.length c0_0) := (blk_cell BK313.out 0).trans rfl; have hcz39_1 : w38.cell? ⟨gb313, 1, none⟩ = some (.slice A0_1 l0_1.length c0_1) := (blk_cell BK313.out 1).trans rfl; have hcz39_2 : w38.cell? ⟨gb313, 2, none⟩ = some (.slice A0_2 l0_2.length c0_2) := (blk_cell BK313.out 2).trans rfl; have hcz39_3 : w38.cell? ⟨gb313, 3, none⟩ = some (.slice A0_3 l0_3.length c0_3) := (blk_cell BK313.out 3).trans rfl; have hfz39_0 := blk_frozen BK313.out 0; have hfz39_1 := blk_frozen BK313.out 1; have hfz39_2 := blk_frozen BK313.out 2; have hfz39_3 := blk_frozen BK313.out 3) | ((with_reducible refine gate_dst (N := 59) rfl ?_); refine box_event ?hg (N := 59) ?hd (cs := #[.slice A0_0 l0_0.length c0_0, .slice A0_1 l0_1.length c0_1, .slice A0_2 l0_2.length c0_2, .int .i64 0, .int .i64 0, .int .i64 0]) (t := 43) ?hr ?_; (case hd => rfl); (case hg => rfl); (case hr => first | (go_simp; done) | (go_simp; rfl)); intro g418 hg w40 hbox hb; have n0_ := Aside0.mk (Kd.Q_below (by (with_reducible repeat (first | apply Kd.Q_alloc | apply Kd.Q_drewN | apply Kd.Q_drew)); exact HO328.out) hb); have n1_ := Aside0.mk (Kd.Q_below (by (with_reducible repeat (first | apply Kd.Q_alloc | apply Kd.Q_drewN | apply Kd.Q_drew)); exact HO331.out) hb); have n2_ := Aside0.mk (Kd.Q_below (by (with_reducible repeat (first | apply Kd.Q_alloc | apply Kd.Q_drewN | apply Kd.Q_drew)); exact HO334.out) hb); have n3_ := Aside0.mk (blk_below (g := gb313) (o := .cells #[.slice A0_0 l0_0.length c0_0, .slice A0_1 l0_1.length c0_1, .slice A0_2 l0_2.length c0_2, .slice A0_3 l0_3.length c0_3] 28 (0, 0)) (by (with_reducible repeat (first | refine blk_drewN ?_ _ | refine blk_drew ?_ | refine blk_alloc ?_ _)); exact BK313.out) hb); have n4_ := Aside0.mk (blk_below (g := gb324) (o := .cells #[.slice Ao23 t315.length co23, .slice Ao26 t318.length co26, .slice Ao27 t321.length co27] 25 (0, 0)) (by (with_reducible repeat (first | refine blk_drewN ?_ _ | refine blk_drew ?_ | refine blk_alloc ?_ _)); exact BK324.out) hb); have n5_ := Aside0.mk (IsS55.below (by repeat (first | (with_reducible first | exact HI335.out | apply IsS55.alloc | apply IsS55.drewN | apply IsS55.drew | apply IsS55.set_0 | apply IsS55.set_1 | apply IsS55.set_2 | refine IsS55.far ?_ NB335_313.out _ | refine IsS55.far ?_ NB335_324.out _) | exact HI335.out)) hb); have n6_ := Aside0.mk ((by rw [hg]; exact Nat.ne_of_lt (blk_lt (g := gb313) (o := .cells #[.slice A0_0 l0_0.length c0_0, .slice A0_1 l0_1.length c0_1, .slice A0_2 l0_2.length c0_2, .slice A0_3 l0_3.length c0_3] 28 (0, 0)) (by (with_reducible repeat (first | refine blk_drewN ?_ _ | refine blk_drew ?_ | refine blk_alloc ?_ _)); exact BK313.out)) : gb313 ≠ g418)); have n7_ := Aside0.mk ((by rw [hg]; exact Nat.ne_of_gt (blk_lt (g := gb313) (o := .cells #[.slice A0_0 l0_0.length c0_0, .slice A0_1 l0_1.length c0_1, .slice A0_2 l0_2.length c0_2, .slice A0_3 l0_3.length c0_3] 28 (0, 0)) (by (with_reducible repeat (first | refine blk_drewN ?_ _ | refine blk_drew ?_ | refine blk_alloc ?_ _)); exact BK313.out)) : g418 ≠ gb313)); have n8_ := Aside0.mk ((by rw [hg]; exact Nat.ne_of_lt (blk_lt (g := gb324) (o := .cells #[.slice Ao23 t315.length co23, .slice Ao26 t318.length co26, .slice Ao27 t321.length co27] 25 (0, 0)) (by (with_reducible repeat (first | refine blk_drewN ?_ _ | refine blk_drew ?_ | refine blk_alloc ?_ _)); exact BK324.out)) : gb324 ≠ g418)); have n9_ := Aside0.mk ((by rw [hg]; exact Nat.ne_of_gt (blk_lt (g := gb324) (o := .cells #[.slice Ao23 t315.length co23, .slice Ao26 t318.length co26, .slice Ao27 t321.length co27] 25 (0, 0)) (by (with_reducible repeat (first | refine blk_drewN ?_ _ | refine blk_drew ?_ | refine blk_alloc ?_ _)); exact BK324.out)) : g418 ≠ gb324)); have n10_ := Aside0.mk ((by rw [hg]; exact Nat.ne_of_lt (IsS55.lt (show IsS55 w _ g335 v327 v330 v333 from by repeat (first | (with_reducible first | exact HI335.out | apply IsS55.alloc | apply IsS55.drewN | apply IsS55.drew | apply IsS55.set_0 | apply IsS55.set_1 | apply IsS55.set_2 | refine IsS55.far ?_ NB335_313.out _ | refine IsS55.far ?_ NB335_324.out _) | exact HI335.out))) : g335 ≠ g418)); have n11_ := Aside0.mk ((by rw [hg]; exact Nat.ne_of_gt (IsS55.lt (show IsS55 w _ g335 v327 v330 v333 from by repeat (first | (with_reducible first | exact HI335.out | apply IsS55.alloc | apply IsS55.drewN | apply IsS55.drew | apply IsS55.set_0 | apply IsS55.set_1 | apply IsS55.set_2 | refine IsS55.far ?_ NB335_313.out _ | refine IsS55.far ?_ NB335_324.out _) | exact HI335.out))) : g418 ≠ g335)); have n12_ := Aside0.mk (below_step (by repeat (first | (with_reducible first | exact HB.out | apply below_alloc | apply pw_below_drewN | apply below_drew1 | refine below_set ?_ (IsS55.ge HI335.out) | refine below_set ?_ GE313.out | refine below_set ?_ GE324.out) | exact HB.out)) hb); have n13_ := Aside0.mk ((show IsS43 w w40 g418 l0_0 l0_1 l0_2 0 0 0 from ⟨_, _, _, _, _, _, hbox, (by rw [hg]; exact (below_size (by repeat (first | (with_reducible first | exact HB.out | apply below_alloc | apply pw_below_drewN | apply below_drew1 | refine below_set ?_ (IsS55.ge HI335.out) | refine below_set ?_ GE313.out | refine below_set ?_ GE324.out) | exact HB.out)))), ⟨HC0_0.out, HR0_0.out⟩, ⟨HC0_1.out, HR0_1.out⟩, ⟨HC0_2.out, HR0_2.out⟩⟩)); clear HO328; clear HO331; clear HO334; clear BK313; clear BK324; clear HI335; clear HB; have HO328 := n0_; have HO331 := n1_; have HO334 := n2_; have BK313 := n3_; have BK324 := n4_; have HI335 := n5_; have NB313_418 := n6_; have NB418_313 := n7_; have NB324_418 := n8_; have NB418_324 := n9_; have NB335_418 := n10_; have NB418_335 := n11_; have HB := n12_; have HI418 := n13_; clear n0_ n1_ n2_ n3_ n4_ n5_ n6_ n7_ n8_ n9_ n10_ n11_ n12_ n13_; clear hb hbox hg))
 go_loopg [7] k (fun kq v7 w' => ∃ (x7_1 : Int) (x336000_1 : List Int) (x336001_1 : List Int) (x336002_1 : List Int) (x419003_1 : Int) (x419004_1 : Int) (x419005_1 : Int) (u336000 : Value) (u336001 : Value) (u336002 : Value), v7 = .int .i64 x7_1 ∧ Aside0 (gangwaylaw23_FeedExact.l0 kq x7_1 l0_0 l0_1 l0_2 l0_3 x336000_1 x336001_1 x336002_1 l0_0 l0_1 l0_2 x419003_1 x419004_1 x419005_1 = some r) ∧ Aside0 (kq ≤ k) ∧ Aside0 (Kd.Q (Kd.int .i64) 2 w' w.heap.size (fun _ => True) u336000 x336000_1) ∧ Aside0 (Kd.Q (Kd.int .u8) 5 w' w.heap.size (fun k_ => some k_ ≠ (u336002 : Value).ownBlock) u336001 x336001_1) ∧ Aside0 (Kd.Q (Kd.int .u8) 5 w' w.heap.size (fun k_ => some k_ ≠ (u336001 : Value).ownBlock) u336002 x336002_1) ∧ Aside0 (w'.heap[gb313]? = some (.cells #[(.slice A0_0 l0_0.length c0_0), (.slice A0_1 l0_1.length c0_1), (.slice A0_2 l0_2.length c0_2), (.slice A0_3 l0_3.length c0_3)] 28 (0, 0))) ∧ Aside0 (IsS55 w w' g335 u336000 u336001 u336002) ∧ Aside0 (IsS43 w w' g418 l0_0 l0_1 l0_2 x419003_1 x419004_1 x419005_1) ∧ Aside0 (Below w.heap.size w w'))
 case atStart => exact ⟨(0), (t326), (t329), (t332), (0), (0), (0), (v327), (v330), (v333), (by first | rfl | (simp; done) | (simp [*]; done)), H', ⟨Nat.le_refl _⟩, ⟨by (with_reducible repeat (first | apply Kd.Q_alloc | apply Kd.Q_drewN | apply Kd.Q_drew)); exact HO328.out⟩, ⟨by (with_reducible repeat (first | apply Kd.Q_alloc | apply Kd.Q_drewN | apply Kd.Q_drew)); exact HO331.out⟩, ⟨by (with_reducible repeat (first | apply Kd.Q_alloc | apply Kd.Q_drewN | apply Kd.Q_drew)); exact HO334.out⟩, ⟨by (with_reducible repeat (first | refine blk_drewN ?_ _ | refine blk_drew ?_ | refine blk_alloc ?_ _)); exact BK313.out⟩, ⟨by repeat (first | (with_reducible first | exact HI335.out | apply IsS55.alloc | apply IsS55.drewN | apply IsS55.drew | apply IsS55.set_0 | apply IsS55.set_1 | apply IsS55.set_2 | refine IsS55.far ?_ NB335_313.out _ | refine IsS55.far ?_ NB335_324.out _) | exact HI335.out)⟩, ⟨by repeat (first | (with_reducible first | exact HI418.out | apply IsS43.alloc | apply IsS43.drewN | apply IsS43.drew | apply IsS43.set_3 | apply IsS43.set_4 | apply IsS43.set_5 | refine IsS43.far ?_ NB418_313.out _ | refine IsS43.far ?_ NB418_324.out _) | exact HI418.out)⟩, ⟨by repeat (first | (with_reducible first | exact HB.out | apply below_alloc | apply pw_below_drewN | apply below_drew1 | refine below_set ?_ (IsS55.ge HI335.out) | refine below_set ?_ (IsS43.ge HI418.out) | refine below_set ?_ GE313.out | refine below_set ?_ GE324.out) | exact HB.out)⟩⟩
 case round =>
 clear H'
 try clear c1
 try clear c2
 try clear p2
 try clear c3
 try clear c4
 try clear c6
 try clear c7
 try clear c8
 try clear c9
 try clear c11
 try clear c12
 try clear c13
 try clear c14
 try clear c16
 try clear c16b0
 try clear c16b1
 try clear c24
 try clear c29
 try clear c36
 try clear hcz18_0
 try clear hcz18_1
 try clear hcz18_2
 try clear hcz18_3
 try clear hcz20_0
 try clear hcz20_1
 try clear hcz20_2
 try clear hcz20_3
 try clear hcz25_0
 try clear hcz25_1
 try clear hcz25_2
 try clear hcz30_0
 try clear hcz30_1
 try clear hcz30_2
 try clear hcz32_0
 try clear hcz32_1
 try clear hcz32_2
 try clear hcz34_0
 try clear hcz34_1
 try clear hcz34_2
 try clear hcz37_0
 try clear hcz37_1
 try clear hcz37_2
 try clear hcz37_3
 try clear hcz39_0
 try clear hcz39_1
 try clear hcz39_2
 try clear hcz39_3
 try clear hcz5_0
 try clear hcz5_1
 try clear hcz5_2
 try clear hcz5_3
 try clear hfz18_0
 try clear hfz18_1
 try clear hfz18_2
 try clear hfz18_3
 try clear hfz20_0
 try clear hfz20_1
 try clear hfz20_2
 try clear hfz20_3
 try clear hfz25_0
 try clear hfz25_1
 try clear hfz25_2
 try clear hfz30_0
 try clear hfz30_1
 try clear hfz30_2
 try clear hfz32_0
 try clear hfz32_1
 try clear hfz32_2
 try clear hfz34_0
 try clear hfz34_1
 try clear hfz34_2
 try clear hfz37_0
 try clear hfz37_1
 try clear hfz37_2
 try clear hfz37_3
 try clear hfz39_0
 try clear hfz39_1
 try clear hfz39_2
 try clear hfz39_3
 try clear hfz5_0
 try clear hfz5_1
 try clear hfz5_2
 try clear hfz5_3
 obtain ⟨x7_1, x336000_1, x336001_1, x336002_1, x419003_1, x419004_1, x419005_1, u336000, u336001, u336002, rfl, HA, HK1, HO_336000, HO_336001, HO_336002, BK313, HI335, HI418, HB⟩ := hrel
 cases gk with
 | zero => exact absurd HA.out (by simp [gangwaylaw23_FeedExact.l0])
 | succ k1 =>
 have H := HA.out
 clear HA
 simp only [gangwaylaw23_FeedExact.l0] at H
 have HC41 := Aside0.mk H
 clear H
 go_upto_region 14 with (fail)
 go_cut [68] (fun v68 wc => ∃ (kq : Nat) (x68_40 : Bool), v68 = .bool x68_40 ∧ Aside0 (gangwaylaw23_FeedExact.j1 kq x7_1 x68_40 l0_0 l0_1 l0_2 l0_3 x336000_1 x336001_1 x336002_1 l0_0 l0_1 l0_2 x419003_1 x419004_1 x419005_1 = some r) ∧ Aside0 (kq ≤ k1) ∧ Aside0 (Kd.Q (Kd.int .i64) 2 wc w.heap.size (fun _ => True) u336000 x336000_1) ∧ Aside0 (Kd.Q (Kd.int .u8) 5 wc w.heap.size (fun k_ => some k_ ≠ (u336002 : Value).ownBlock) u336001 x336001_1) ∧ Aside0 (Kd.Q (Kd.int .u8) 5 wc w.heap.size (fun k_ => some k_ ≠ (u336001 : Value).ownBlock) u336002 x336002_1) ∧ Aside0 (wc.heap[gb313]? = some (.cells #[(.slice A0_0 l0_0.length c0_0), (.slice A0_1 l0_1.length c0_1), (.slice A0_2 l0_2.length c0_2), (.slice A0_3 l0_3.length c0_3)] 28 (0, 0))) ∧ Aside0 (IsS55 w wc g335 u336000 u336001 u336002) ∧ Aside0 (IsS43 w wc g418 l0_0 l0_1 l0_2 x419003_1 x419004_1 x419005_1) ∧ Aside0 (Below w.heap.size w wc))
 case first =>
  have H := HC41.out
  clear HC41
  by_cases c42 : x7_1 < (l0_3.length : Int)
  ·rw [if_pos c42] at H
   have c42b0 : decide (x7_1 < (l0_3.length : Int)) = true := decide_eq_true c42
   clear c42
   (first | rw [c42b0] | (simp only [i64_w, i32_w]; rw [c42b0]) | skip)
   have H' := Aside0.mk H
   clear H
   have hnb43 := NB313_335.out
   have hnc43 := NB335_313.out
   have hnb44 := NB313_418.out
   have hnc44 := NB418_313.out
   have hcz45_0 : wr.cell? ⟨gb313, 0, none⟩ = some (.slice A0_0 l0_0.length c0_0) := (blk_cell BK313.out 0).trans rfl
   have hcz45_1 : wr.cell? ⟨gb313, 1, none⟩ = some (.slice A0_1 l0_1.length c0_1) := (blk_cell BK313.out 1).trans rfl
   have hcz45_2 : wr.cell? ⟨gb313, 2, none⟩ = some (.slice A0_2 l0_2.length c0_2) := (blk_cell BK313.out 2).trans rfl
   have hcz45_3 : wr.cell? ⟨gb313, 3, none⟩ = some (.slice A0_3 l0_3.length c0_3) := (blk_cell BK313.out 3).trans rfl
   have hfz45_0 := blk_frozen BK313.out 0
   have hfz45_1 := blk_frozen BK313.out 1
   have hfz45_2 := blk_frozen BK313.out 2
   have hfz45_3 := blk_frozen BK313.out 3
   go_wp2
   go_meet
   case rel => exact ⟨_, (decide (x7_1 < 40)), (by first | rfl | (simp; done) | (simp [*]; done)), H', ⟨by have := HK1.out; first | omega | exact Nat.le_refl _⟩, ⟨by (with_reducible repeat (first | apply Kd.Q_alloc | apply Kd.Q_drewN | apply Kd.Q_drew)); exact HO_336000.out⟩, ⟨by (with_reducible repeat (first | apply Kd.Q_alloc | apply Kd.Q_drewN | apply Kd.Q_drew)); exact HO_336001.out⟩, ⟨by (with_reducible repeat (first | apply Kd.Q_alloc | apply Kd.Q_drewN | apply Kd.Q_drew)); exact HO_336002.out⟩, ⟨by (with_reducible repeat (first | refine blk_drewN ?_ _ | refine blk_drew ?_ | refine blk_alloc ?_ _)); exact BK313.out⟩, ⟨by repeat (first | (with_reducible first | exact HI335.out | apply IsS55.alloc | apply IsS55.drewN | apply IsS55.drew | apply IsS55.set_0 | apply IsS55.set_1 | apply IsS55.set_2 | refine IsS55.far ?_ NB335_313.out _) | exact HI335.out)⟩, ⟨by repeat (first | (with_reducible first | exact HI418.out | apply IsS43.alloc | apply IsS43.drewN | apply IsS43.drew | apply IsS43.set_3 | apply IsS43.set_4 | apply IsS43.set_5 | refine IsS43.far ?_ NB418_313.out _) | exact HI418.out)⟩, ⟨by repeat (first | (with_reducible first | exact HB.out | apply below_alloc | apply pw_below_drewN | apply below_drew1 | refine below_set ?_ (IsS55.ge HI335.out) | refine below_set ?_ (IsS43.ge HI418.out) | refine below_set ?_ GE313.out) | exact HB.out)⟩⟩
  rw [if_neg c42] at H
  have c42b0 : decide (x7_1 < (l0_3.length : Int)) = false := decide_eq_false c42
  clear c42
  (first | rw [c42b0] | (simp only [i64_w, i32_w]; rw [c42b0]) | skip)
  have H' := Aside0.mk H
  clear H
  have hnb46 := NB313_335.out
  have hnc46 := NB335_313.out
  have hnb47 := NB313_418.out
  have hnc47 := NB418_313.out
  have hcz48_0 : wr.cell? ⟨gb313, 0, none⟩ = some (.slice A0_0 l0_0.length c0_0) := (blk_cell BK313.out 0).trans rfl
  have hcz48_1 : wr.cell? ⟨gb313, 1, none⟩ = some (.slice A0_1 l0_1.length c0_1) := (blk_cell BK313.out 1).trans rfl
  have hcz48_2 : wr.cell? ⟨gb313, 2, none⟩ = some (.slice A0_2 l0_2.length c0_2) := (blk_cell BK313.out 2).trans rfl
  have hcz48_3 : wr.cell? ⟨gb313, 3, none⟩ = some (.slice A0_3 l0_3.length c0_3) := (blk_cell BK313.out 3).trans rfl
  have hfz48_0 := blk_frozen BK313.out 0
  have hfz48_1 := blk_frozen BK313.out 1
  have hfz48_2 := blk_frozen BK313.out 2
  have hfz48_3 := blk_frozen BK313.out 3
  go_wp2
  go_meet
  case rel => exact ⟨_, (false), (by first | rfl | (simp; done) | (simp [*]; done)), H', ⟨by have := HK1.out; first | omega | exact Nat.le_refl _⟩, ⟨by (with_reducible repeat (first | apply Kd.Q_alloc | apply Kd.Q_drewN | apply Kd.Q_drew)); exact HO_336000.out⟩, ⟨by (with_reducible repeat (first | apply Kd.Q_alloc | apply Kd.Q_drewN | apply Kd.Q_drew)); exact HO_336001.out⟩, ⟨by (with_reducible repeat (first | apply Kd.Q_alloc | apply Kd.Q_drewN | apply Kd.Q_drew)); exact HO_336002.out⟩, ⟨by (with_reducible repeat (first | refine blk_drewN ?_ _ | refine blk_drew ?_ | refine blk_alloc ?_ _)); exact BK313.out⟩, ⟨by repeat (first | (with_reducible first | exact HI335.out | apply IsS55.alloc | apply IsS55.drewN | apply IsS55.drew | apply IsS55.set_0 | apply IsS55.set_1 | apply IsS55.set_2 | refine IsS55.far ?_ NB335_313.out _) | exact HI335.out)⟩, ⟨by repeat (first | (with_reducible first | exact HI418.out | apply IsS43.alloc | apply IsS43.drewN | apply IsS43.drew | apply IsS43.set_3 | apply IsS43.set_4 | apply IsS43.set_5 | refine IsS43.far ?_ NB418_313.out _) | exact HI418.out)⟩, ⟨by repeat (first | (with_reducible first | exact HB.out | apply below_alloc | apply pw_below_drewN | apply below_drew1 | refine below_set ?_ (IsS55.ge HI335.out) | refine below_set ?_ (IsS43.ge HI418.out) | refine below_set ?_ GE313.out) | exact HB.out)⟩⟩
 case rest =>
 clear HC41
 try clear c1
 try clear c2
 try clear p2
 try clear c3
 try clear c4
 try clear c6
 try clear c7
 try clear c8
 try clear c9
 try clear c11
 try clear c12
 try clear c13
 try clear c14
 try clear c16
 try clear c16b0
 try clear c16b1
 try clear c24
 try clear c29
 try clear c36
 try clear c42
 try clear c42b0
 try clear c43
 try clear c44
 try clear c46
 try clear c47
 try clear hcz18_0
 try clear hcz18_1
 try clear hcz18_2
 try clear hcz18_3
 try clear hcz20_0
 try clear hcz20_1
 try clear hcz20_2
 try clear hcz20_3
 try clear hcz25_0
 try clear hcz25_1
 try clear hcz25_2
 try clear hcz30_0
 try clear hcz30_1
 try clear hcz30_2
 try clear hcz32_0
 try clear hcz32_1
 try clear hcz32_2
 try clear hcz34_0
 try clear hcz34_1
 try clear hcz34_2
 try clear hcz37_0
 try clear hcz37_1
 try clear hcz37_2
 try clear hcz37_3
 try clear hcz39_0
 try clear hcz39_1
 try clear hcz39_2
 try clear hcz39_3
 try clear hcz45_0
 try clear hcz45_1
 try clear hcz45_2
 try clear hcz45_3
 try clear hcz48_0
 try clear hcz48_1
 try clear hcz48_2
 try clear hcz48_3
 try clear hcz5_0
 try clear hcz5_1
 try clear hcz5_2
 try clear hcz5_3
 try clear hfz18_0
 try clear hfz18_1
 try clear hfz18_2
 try clear hfz18_3
 try clear hfz20_0
 try clear hfz20_1
 try clear hfz20_2
 try clear hfz20_3
 try clear hfz25_0
 try clear hfz25_1
 try clear hfz25_2
 try clear hfz30_0
 try clear hfz30_1
 try clear hfz30_2
 try clear hfz32_0
 try clear hfz32_1
 try clear hfz32_2
 try clear hfz34_0
 try clear hfz34_1
 try clear hfz34_2
 try clear hfz37_0
 try clear hfz37_1
 try clear hfz37_2
 try clear hfz37_3
 try clear hfz39_0
 try clear hfz39_1
 try clear hfz39_2
 try clear hfz39_3
 try clear hfz45_0
 try clear hfz45_1
 try clear hfz45_2
 try clear hfz45_3
 try clear hfz48_0
 try clear hfz48_1
 try clear hfz48_2
 try clear hfz48_3
 try clear hfz5_0
 try clear hfz5_1
 try clear hfz5_2
 try clear hfz5_3
 try clear p2
 obtain ⟨kq, x68_40, rfl, HA, HJ40, HO_336000, HO_336001, HO_336002, BK313, HI335, HI418, HB⟩ := hcut
 cases kq with
 | zero => exact absurd HA.out (by simp [gangwaylaw23_FeedExact.j1])
 | succ kj40 =>
 have H := HA.out
 clear HA
 simp only [gangwaylaw23_FeedExact.j1] at H
 by_cases c49 : x68_40 = true
 rotate_left
 ·replace c49 := Bool.eq_false_iff.mpr c49
  subst c49
  have H1 : ((gangwaylaw23_wakes.f kj40).bind fun t419 => (some t419)) = some r := by rw [if_neg (show ¬ (false = true) by decide)] at H; exact H
  clear H
  have H := H1
  clear H1
  replace H := Option.bind_eq_some_iff.mp H
  obtain ⟨t419, A1120, H⟩ := H
  replace H : (some t419) = some r := H
  have A112 := Aside0.mk A1120
  clear A1120
  obtain rfl := Option.some.inj H
  go_wp2_with (first | ((with_reducible refine gate_callee (f := 9) rfl ?_); refine goesL_ (some 154) rfl rfl Try.func9 (by kernel_rfl) rfl #[] rfl (by (try simp only [List.map_toArray, List.map_cons, List.map_nil]); first | done | rfl | (simp only [List.length_drop, List.length_take]; rfl)) ?_; (with_reducible refine (gangwaylaw23_wakes.calls kj40  t419 _ A112.out).mono ?_); rintro e w113 ⟨rfl, hb⟩; refine ⟨_, rfl, ?_⟩; have n0_ := Aside0.mk (Kd.Q_below (by (with_reducible repeat (first | apply Kd.Q_alloc | apply Kd.Q_drewN | apply Kd.Q_drew)); exact HO_336000.out) hb); have n1_ := Aside0.mk (Kd.Q_below (by (with_reducible repeat (first | apply Kd.Q_alloc | apply Kd.Q_drewN | apply Kd.Q_drew)); exact HO_336001.out) hb); have n2_ := Aside0.mk (Kd.Q_below (by (with_reducible repeat (first | apply Kd.Q_alloc | apply Kd.Q_drewN | apply Kd.Q_drew)); exact HO_336002.out) hb); have n3_ := Aside0.mk (blk_below (g := gb313) (o := .cells #[.slice A0_0 l0_0.length c0_0, .slice A0_1 l0_1.length c0_1, .slice A0_2 l0_2.length c0_2, .slice A0_3 l0_3.length c0_3] 28 (0, 0)) (by (with_reducible repeat (first | refine blk_drewN ?_ _ | refine blk_drew ?_ | refine blk_alloc ?_ _)); exact BK313.out) hb); have n4_ := Aside0.mk (IsS55.below (by repeat (first | (with_reducible first | exact HI335.out | apply IsS55.alloc | apply IsS55.drewN | apply IsS55.drew | apply IsS55.set_0 | apply IsS55.set_1 | apply IsS55.set_2 | refine IsS55.far ?_ NB335_313.out _) | exact HI335.out)) hb); have n5_ := Aside0.mk (IsS43.below (by repeat (first | (with_reducible first | exact HI418.out | apply IsS43.alloc | apply IsS43.drewN | apply IsS43.drew | apply IsS43.set_3 | apply IsS43.set_4 | apply IsS43.set_5 | refine IsS43.far ?_ NB418_313.out _) | exact HI418.out)) hb); have n6_ := Aside0.mk (below_step (by repeat (first | (with_reducible first | exact HB.out | apply below_alloc | apply pw_below_drewN | apply below_drew1 | refine below_set ?_ (IsS55.ge HI335.out) | refine below_set ?_ (IsS43.ge HI418.out) | refine below_set ?_ GE313.out) | exact HB.out)) hb); clear HO_336000; clear HO_336001; clear HO_336002; clear BK313; clear HI335; clear HI418; clear HB; have HO_336000 := n0_; have HO_336001 := n1_; have HO_336002 := n2_; have BK313 := n3_; have HI335 := n4_; have HI418 := n5_; have HB := n6_; clear n0_ n1_ n2_ n3_ n4_ n5_ n6_; (try clear hb); (try clear hb2); (try clear hk); (try clear hi)))
  go_ret
  exact ⟨by first | rfl | (simp [errW_none, errW_some] <;> rfl) | (simp [*, errW_none, errW_some] <;> rfl), by repeat (first | (with_reducible first | exact HB.out | apply below_alloc | apply pw_below_drewN | apply below_drew1 | refine below_set ?_ (IsS55.ge HI335.out) | refine below_set ?_ (IsS43.ge HI418.out) | refine below_set ?_ GE313.out) | exact HB.out)⟩
 subst c49
 have H1 : (if 0 ≤ x7_1 then (if x7_1 < (l0_3.length : Int) then (if ((rd_T45 l0_3 x7_1).f1) < 0 then (gangwaylaw23_FeedExact.j2 kj40 x7_1 ((rd_T45 l0_3 x7_1).f1) 0 true l0_0 l0_1 l0_2 l0_3 x336000_1 x336001_1 x336002_1 l0_0 l0_1 l0_2 x419003_1 x419004_1 x419005_1) else (gangwaylaw23_FeedExact.j2 kj40 x7_1 ((rd_T45 l0_3 x7_1).f1) 0 (decide (((rd_T45 l0_3 x7_1).f1) > 1048576)) l0_0 l0_1 l0_2 l0_3 x336000_1 x336001_1 x336002_1 l0_0 l0_1 l0_2 x419003_1 x419004_1 x419005_1)) else (none)) else (none)) = some r := by rw [if_pos rfl] at H; exact H
 clear H
 have H := H1
 clear H1
 by_cases c50 : 0 ≤ x7_1
 rotate_left
 ·rw [if_neg c50] at H
  exact absurd H (by simp)
 rw [if_pos c50] at H
 have c50b0 : decide (0 ≤ x7_1) = true := decide_eq_true c50
 clear c50
 by_cases c51 : x7_1 < (l0_3.length : Int)
 rotate_left
 ·rw [if_neg c51] at H
  exact absurd H (by simp)
 rw [if_pos c51] at H
 have c51b0 : decide (x7_1 < (l0_3.length : Int)) = true := decide_eq_true c51
 clear c51
 have HC52 := Aside0.mk H
 clear H
 have hnb53 := NB313_335.out
 have hnc53 := NB335_313.out
 have hnb54 := NB313_418.out
 have hnc54 := NB418_313.out
 have hcz55_0 : wc.cell? ⟨gb313, 0, none⟩ = some (.slice A0_0 l0_0.length c0_0) := (blk_cell BK313.out 0).trans rfl
 have hcz55_1 : wc.cell? ⟨gb313, 1, none⟩ = some (.slice A0_1 l0_1.length c0_1) := (blk_cell BK313.out 1).trans rfl
 have hcz55_2 : wc.cell? ⟨gb313, 2, none⟩ = some (.slice A0_2 l0_2.length c0_2) := (blk_cell BK313.out 2).trans rfl
 have hcz55_3 : wc.cell? ⟨gb313, 3, none⟩ = some (.slice A0_3 l0_3.length c0_3) := (blk_cell BK313.out 3).trans rfl
 have hfz55_0 := blk_frozen BK313.out 0
 have hfz55_1 := blk_frozen BK313.out 1
 have hfz55_2 := blk_frozen BK313.out 2
 have hfz55_3 := blk_frozen BK313.out 3
 have p420 : 0 ≤ (x7_1 : Int) := of_decide_eq_true (by first | (with_reducible assumption) | assumption)
 have q420 : x7_1 < (l0_3.length : Int) := of_decide_eq_true (by first | (with_reducible assumption) | assumption)
 obtain ⟨ad420, e420, hx420_0, hx420_1⟩ := at_T45 HR0_3.out x7_1 p420 q420
 cases e420
 replace hx420_0 := up HB hx420_0
 replace hx420_1 := up HB hx420_1
 replace p420 := eq_true p420
 replace q420 := eq_true q420
 go_upto_region 18 with (fail)
 go_cut [82] (fun v82 wc => ∃ (kq : Nat) (x82_51 : Bool), v82 = .bool x82_51 ∧ Aside0 (gangwaylaw23_FeedExact.j2 kq x7_1 ((rd_T45 l0_3 x7_1).f1) 0 x82_51 l0_0 l0_1 l0_2 l0_3 x336000_1 x336001_1 x336002_1 l0_0 l0_1 l0_2 x419003_1 x419004_1 x419005_1 = some r) ∧ Aside0 (kq ≤ kj40) ∧ Aside0 (Kd.Q (Kd.int .i64) 2 wc w.heap.size (fun _ => True) u336000 x336000_1) ∧ Aside0 (Kd.Q (Kd.int .u8) 5 wc w.heap.size (fun k_ => some k_ ≠ (u336002 : Value).ownBlock) u336001 x336001_1) ∧ Aside0 (Kd.Q (Kd.int .u8) 5 wc w.heap.size (fun k_ => some k_ ≠ (u336001 : Value).ownBlock) u336002 x336002_1) ∧ Aside0 (wc.heap[gb313]? = some (.cells #[(.slice A0_0 l0_0.length c0_0), (.slice A0_1 l0_1.length c0_1), (.slice A0_2 l0_2.length c0_2), (.slice (some ad420) l0_3.length c0_3)] 28 (0, 0))) ∧ Aside0 (IsS55 w wc g335 u336000 u336001 u336002) ∧ Aside0 (IsS43 w wc g418 l0_0 l0_1 l0_2 x419003_1 x419004_1 x419005_1) ∧ Aside0 (Below w.heap.size w wc))
 case first =>
  have H := HC52.out
  clear HC52
  by_cases c56 : ((rd_T45 l0_3 x7_1).f1) < 0
  ·rw [if_pos c56] at H
   have c56b0 : decide (((rd_T45 l0_3 x7_1).f1) < 0) = true := decide_eq_true c56
   clear c56
   (first | rw [c56b0] | (simp only [i64_w, i32_w]; rw [c56b0]) | skip)
   have H' := Aside0.mk H
   clear H
   go_wp2
   go_meet
   case rel => exact ⟨_, (true), (by first | rfl | (simp; done) | (simp [*]; done)), H', ⟨by have := HK1.out; have := HJ40.out; first | omega | exact Nat.le_refl _⟩, ⟨by (with_reducible repeat (first | apply Kd.Q_alloc | apply Kd.Q_drewN | apply Kd.Q_drew)); exact HO_336000.out⟩, ⟨by (with_reducible repeat (first | apply Kd.Q_alloc | apply Kd.Q_drewN | apply Kd.Q_drew)); exact HO_336001.out⟩, ⟨by (with_reducible repeat (first | apply Kd.Q_alloc | apply Kd.Q_drewN | apply Kd.Q_drew)); exact HO_336002.out⟩, ⟨by (with_reducible repeat (first | refine blk_drewN ?_ _ | refine blk_drew ?_ | refine blk_alloc ?_ _)); exact BK313.out⟩, ⟨by repeat (first | (with_reducible first | exact HI335.out | apply IsS55.alloc | apply IsS55.drewN | apply IsS55.drew | apply IsS55.set_0 | apply IsS55.set_1 | apply IsS55.set_2 | refine IsS55.far ?_ NB335_313.out _) | exact HI335.out)⟩, ⟨by repeat (first | (with_reducible first | exact HI418.out | apply IsS43.alloc | apply IsS43.drewN | apply IsS43.drew | apply IsS43.set_3 | apply IsS43.set_4 | apply IsS43.set_5 | refine IsS43.far ?_ NB418_313.out _) | exact HI418.out)⟩, ⟨by repeat (first | (with_reducible first | exact HB.out | apply below_alloc | apply pw_below_drewN | apply below_drew1 | refine below_set ?_ (IsS55.ge HI335.out) | refine below_set ?_ (IsS43.ge HI418.out) | refine below_set ?_ GE313.out) | exact HB.out)⟩⟩
  rw [if_neg c56] at H
  have c56b0 : decide (((rd_T45 l0_3 x7_1).f1) < 0) = false := decide_eq_false c56
  clear c56
  (first | rw [c56b0] | (simp only [i64_w, i32_w]; rw [c56b0]) | skip)
  have H' := Aside0.mk H
  clear H
  go_wp2
  go_meet
  case rel => exact ⟨_, (decide (((rd_T45 l0_3 x7_1).f1) > 1048576)), (by first | rfl | (simp; done) | (simp [*]; done)), H', ⟨by have := HK1.out; have := HJ40.out; first | omega | exact Nat.le_refl _⟩, ⟨by (with_reducible repeat (first | apply Kd.Q_alloc | apply Kd.Q_drewN | apply Kd.Q_drew)); exact HO_336000.out⟩, ⟨by (with_reducible repeat (first | apply Kd.Q_alloc | apply Kd.Q_drewN | apply Kd.Q_drew)); exact HO_336001.out⟩, ⟨by (with_reducible repeat (first | apply Kd.Q_alloc | apply Kd.Q_drewN | apply Kd.Q_drew)); exact HO_336002.out⟩, ⟨by (with_reducible repeat (first | refine blk_drewN ?_ _ | refine blk_drew ?_ | refine blk_alloc ?_ _)); exact BK313.out⟩, ⟨by repeat (first | (with_reducible first | exact HI335.out | apply IsS55.alloc | apply IsS55.drewN | apply IsS55.drew | apply IsS55.set_0 | apply IsS55.set_1 | apply IsS55.set_2 | refine IsS55.far ?_ NB335_313.out _) | exact HI335.out)⟩, ⟨by repeat (first | (with_reducible first | exact HI418.out | apply IsS43.alloc | apply IsS43.drewN | apply IsS43.drew | apply IsS43.set_3 | apply IsS43.set_4 | apply IsS43.set_5 | refine IsS43.far ?_ NB418_313.out _) | exact HI418.out)⟩, ⟨by repeat (first | (with_reducible first | exact HB.out | apply below_alloc | apply pw_below_drewN | apply below_drew1 | refine below_set ?_ (IsS55.ge HI335.out) | refine below_set ?_ (IsS43.ge HI418.out) | refine below_set ?_ GE313.out) | exact HB.out)⟩⟩
 case rest =>
 clear HC52
 try clear c1
 try clear c2
 try clear p2
 try clear c3
 try clear c4
 try clear p4
 try clear q4
 try clear hx4
 try clear c5
 try clear c6
 try clear c7
 try clear c8
 try clear c9
 try clear c11
 try clear c12
 try clear c13
 try clear c14
 try clear c16
 try clear c16b0
 try clear c16b1
 try clear c24
 try clear c29
 try clear c36
 try clear c42
 try clear c42b0
 try clear p42
 try clear q42
 try clear hx42
 try clear c43
 try clear c44
 try clear c46
 try clear c47
 try clear c49
 try clear c50
 try clear c50b0
 try clear c51
 try clear c51b0
 try clear c53
 try clear c54
 try clear c56
 try clear c56b0
 try clear hcz18_0
 try clear hcz18_1
 try clear hcz18_2
 try clear hcz18_3
 try clear hcz20_0
 try clear hcz20_1
 try clear hcz20_2
 try clear hcz20_3
 try clear hcz25_0
 try clear hcz25_1
 try clear hcz25_2
 try clear hcz30_0
 try clear hcz30_1
 try clear hcz30_2
 try clear hcz32_0
 try clear hcz32_1
 try clear hcz32_2
 try clear hcz34_0
 try clear hcz34_1
 try clear hcz34_2
 try clear hcz37_0
 try clear hcz37_1
 try clear hcz37_2
 try clear hcz37_3
 try clear hcz39_0
 try clear hcz39_1
 try clear hcz39_2
 try clear hcz39_3
 try clear hcz45_0
 try clear hcz45_1
 try clear hcz45_2
 try clear hcz45_3
 try clear hcz48_0
 try clear hcz48_1
 try clear hcz48_2
 try clear hcz48_3
 try clear hcz55_0
 try clear hcz55_1
 try clear hcz55_2
 try clear hcz55_3
 try clear hcz5_0
 try clear hcz5_1
 try clear hcz5_2
 try clear hcz5_3
 try clear hfz18_0
 try clear hfz18_1
 try clear hfz18_2
 try clear hfz18_3
 try clear hfz20_0
 try clear hfz20_1
 try clear hfz20_2
 try clear hfz20_3
 try clear hfz25_0
 try clear hfz25_1
 try clear hfz25_2
 try clear hfz30_0
 try clear hfz30_1
 try clear hfz30_2
 try clear hfz32_0
 try clear hfz32_1
 try clear hfz32_2
 try clear hfz34_0
 try clear hfz34_1
 try clear hfz34_2
 try clear hfz37_0
 try clear hfz37_1
 try clear hfz37_2
 try clear hfz37_3
 try clear hfz39_0
 try clear hfz39_1
 try clear hfz39_2
 try clear hfz39_3
 try clear hfz45_0
 try clear hfz45_1
 try clear hfz45_2
 try clear hfz45_3
 try clear hfz48_0
 try clear hfz48_1
 try clear hfz48_2
 try clear hfz48_3
 try clear hfz55_0
 try clear hfz55_1
 try clear hfz55_2
 try clear hfz55_3
 try clear hfz5_0
 try clear hfz5_1
 try clear hfz5_2
 try clear hfz5_3
 try clear hx420_0
 try clear hx420_1
 try clear p2
 try clear p420
 try clear q420
 obtain ⟨kq, x82_51, rfl, HA, HJ51, HO_336000, HO_336001, HO_336002, BK313, HI335, HI418, HB⟩ := hcut
 cases kq with
 | zero => exact absurd HA.out (by simp [gangwaylaw23_FeedExact.j2])
 | succ kj51 =>
 have H := HA.out
 clear HA
 simp only [gangwaylaw23_FeedExact.j2] at H
 have HC57 := Aside0.mk H
 clear H
 go_upto_if 82 with (fail)
 go_cut [9] (fun v9 wc => ∃ (kq : Nat) (x9_56 : Int), v9 = .int .i64 x9_56 ∧ Aside0 (gangwaylaw23_FeedExact.j3 kq x7_1 ((rd_T45 l0_3 x7_1).f1) x9_56 l0_0 l0_1 l0_2 l0_3 x336000_1 x336001_1 x336002_1 l0_0 l0_1 l0_2 x419003_1 x419004_1 x419005_1 = some r) ∧ Aside0 (kq ≤ kj51) ∧ Aside0 (Kd.Q (Kd.int .i64) 2 wc w.heap.size (fun _ => True) u336000 x336000_1) ∧ Aside0 (Kd.Q (Kd.int .u8) 5 wc w.heap.size (fun k_ => some k_ ≠ (u336002 : Value).ownBlock) u336001 x336001_1) ∧ Aside0 (Kd.Q (Kd.int .u8) 5 wc w.heap.size (fun k_ => some k_ ≠ (u336001 : Value).ownBlock) u336002 x336002_1) ∧ Aside0 (wc.heap[gb313]? = some (.cells #[(.slice A0_0 l0_0.length c0_0), (.slice A0_1 l0_1.length c0_1), (.slice A0_2 l0_2.length c0_2), (.slice (some ad420) l0_3.length c0_3)] 28 (0, 0))) ∧ Aside0 (IsS55 w wc g335 u336000 u336001 u336002) ∧ Aside0 (IsS43 w wc g418 l0_0 l0_1 l0_2 x419003_1 x419004_1 x419005_1) ∧ Aside0 (Below w.heap.size w wc))
 case first =>
  have H := HC57.out
  clear HC57
  by_cases c58 : x82_51 = true
  ·subst c58
   have H1 : (gangwaylaw23_FeedExact.j3 kj51 x7_1 ((rd_T45 l0_3 x7_1).f1) 100 l0_0 l0_1 l0_2 l0_3 x336000_1 x336001_1 x336002_1 l0_0 l0_1 l0_2 x419003_1 x419004_1 x419005_1) = some r := by rw [if_pos rfl] at H; exact H
   clear H
   have H := H1
   clear H1
   have H' := Aside0.mk H
   clear H
   go_wp2
   go_meet
   case rel => exact ⟨_, (100), (by first | rfl | (simp; done) | (simp [*]; done)), H', ⟨by have := HK1.out; have := HJ40.out; have := HJ51.out; first | omega | exact Nat.le_refl _⟩, ⟨by (with_reducible repeat (first | apply Kd.Q_alloc | apply Kd.Q_drewN | apply Kd.Q_drew)); exact HO_336000.out⟩, ⟨by (with_reducible repeat (first | apply Kd.Q_alloc | apply Kd.Q_drewN | apply Kd.Q_drew)); exact HO_336001.out⟩, ⟨by (with_reducible repeat (first | apply Kd.Q_alloc | apply Kd.Q_drewN | apply Kd.Q_drew)); exact HO_336002.out⟩, ⟨by (with_reducible repeat (first | refine blk_drewN ?_ _ | refine blk_drew ?_ | refine blk_alloc ?_ _)); exact BK313.out⟩, ⟨by repeat (first | (with_reducible first | exact HI335.out | apply IsS55.alloc | apply IsS55.drewN | apply IsS55.drew | apply IsS55.set_0 | apply IsS55.set_1 | apply IsS55.set_2 | refine IsS55.far ?_ NB335_313.out _) | exact HI335.out)⟩, ⟨by repeat (first | (with_reducible first | exact HI418.out | apply IsS43.alloc | apply IsS43.drewN | apply IsS43.drew | apply IsS43.set_3 | apply IsS43.set_4 | apply IsS43.set_5 | refine IsS43.far ?_ NB418_313.out _) | exact HI418.out)⟩, ⟨by repeat (first | (with_reducible first | exact HB.out | apply below_alloc | apply pw_below_drewN | apply below_drew1 | refine below_set ?_ (IsS55.ge HI335.out) | refine below_set ?_ (IsS43.ge HI418.out) | refine below_set ?_ GE313.out) | exact HB.out)⟩⟩
  replace c58 := Bool.eq_false_iff.mpr c58
  subst c58
  have H1 : (gangwaylaw23_FeedExact.j3 kj51 x7_1 ((rd_T45 l0_3 x7_1).f1) 0 l0_0 l0_1 l0_2 l0_3 x336000_1 x336001_1 x336002_1 l0_0 l0_1 l0_2 x419003_1 x419004_1 x419005_1) = some r := by rw [if_neg (show ¬ (false = true) by decide)] at H; exact H
  clear H
  have H := H1
  clear H1
  have H' := Aside0.mk H
  clear H
  go_wp2
  go_meet
  case rel => exact ⟨_, (0), (by first | rfl | (simp; done) | (simp [*]; done)), H', ⟨by have := HK1.out; have := HJ40.out; have := HJ51.out; first | omega | exact Nat.le_refl _⟩, ⟨by (with_reducible repeat (first | apply Kd.Q_alloc | apply Kd.Q_drewN | apply Kd.Q_drew)); exact HO_336000.out⟩, ⟨by (with_reducible repeat (first | apply Kd.Q_alloc | apply Kd.Q_drewN | apply Kd.Q_drew)); exact HO_336001.out⟩, ⟨by (with_reducible repeat (first | apply Kd.Q_alloc | apply Kd.Q_drewN | apply Kd.Q_drew)); exact HO_336002.out⟩, ⟨by (with_reducible repeat (first | refine blk_drewN ?_ _ | refine blk_drew ?_ | refine blk_alloc ?_ _)); exact BK313.out⟩, ⟨by repeat (first | (with_reducible first | exact HI335.out | apply IsS55.alloc | apply IsS55.drewN | apply IsS55.drew | apply IsS55.set_0 | apply IsS55.set_1 | apply IsS55.set_2 | refine IsS55.far ?_ NB335_313.out _) | exact HI335.out)⟩, ⟨by repeat (first | (with_reducible first | exact HI418.out | apply IsS43.alloc | apply IsS43.drewN | apply IsS43.drew | apply IsS43.set_3 | apply IsS43.set_4 | apply IsS43.set_5 | refine IsS43.far ?_ NB418_313.out _) | exact HI418.out)⟩, ⟨by repeat (first | (with_reducible first | exact HB.out | apply below_alloc | apply pw_below_drewN | apply below_drew1 | refine below_set ?_ (IsS55.ge HI335.out) | refine below_set ?_ (IsS43.ge HI418.out) | refine below_set ?_ GE313.out) | exact HB.out)⟩⟩
 case rest =>
 clear HC57
 try clear c1
 try clear c2
 try clear p2
 try clear c3
 try clear c4
 try clear p4
 try clear q4
 try clear hx4
 try clear c5
 try clear c6
 try clear c7
 try clear c8
 try clear c9
 try clear c11
 try clear c12
 try clear c13
 try clear c14
 try clear c16
 try clear c16b0
 try clear c16b1
 try clear c24
 try clear c29
 try clear c36
 try clear c42
 try clear c42b0
 try clear p42
 try clear q42
 try clear hx42
 try clear c43
 try clear c44
 try clear c46
 try clear c47
 try clear c49
 try clear c50
 try clear c50b0
 try clear c51
 try clear c51b0
 try clear c53
 try clear c54
 try clear c56
 try clear c56b0
 try clear c58
 try clear hcz18_0
 try clear hcz18_1
 try clear hcz18_2
 try clear hcz18_3
 try clear hcz20_0
 try clear hcz20_1
 try clear hcz20_2
 try clear hcz20_3
 try clear hcz25_0
 try clear hcz25_1
 try clear hcz25_2
 try clear hcz30_0
 try clear hcz30_1
 try clear hcz30_2
 try clear hcz32_0
 try clear hcz32_1
 try clear hcz32_2
 try clear hcz34_0
 try clear hcz34_1
 try clear hcz34_2
 try clear hcz37_0
 try clear hcz37_1
 try clear hcz37_2
 try clear hcz37_3
 try clear hcz39_0
 try clear hcz39_1
 try clear hcz39_2
 try clear hcz39_3
 try clear hcz45_0
 try clear hcz45_1
 try clear hcz45_2
 try clear hcz45_3
 try clear hcz48_0
 try clear hcz48_1
 try clear hcz48_2
 try clear hcz48_3
 try clear hcz55_0
 try clear hcz55_1
 try clear hcz55_2
 try clear hcz55_3
 try clear hcz5_0
 try clear hcz5_1
 try clear hcz5_2
 try clear hcz5_3
 try clear hfz18_0
 try clear hfz18_1
 try clear hfz18_2
 try clear hfz18_3
 try clear hfz20_0
 try clear hfz20_1
 try clear hfz20_2
 try clear hfz20_3
 try clear hfz25_0
 try clear hfz25_1
 try clear hfz25_2
 try clear hfz30_0
 try clear hfz30_1
 try clear hfz30_2
 try clear hfz32_0
 try clear hfz32_1
 try clear hfz32_2
 try clear hfz34_0
 try clear hfz34_1
 try clear hfz34_2
 try clear hfz37_0
 try clear hfz37_1
 try clear hfz37_2
 try clear hfz37_3
 try clear hfz39_0
 try clear hfz39_1
 try clear hfz39_2
 try clear hfz39_3
 try clear hfz45_0
 try clear hfz45_1
 try clear hfz45_2
 try clear hfz45_3
 try clear hfz48_0
 try clear hfz48_1
 try clear hfz48_2
 try clear hfz48_3
 try clear hfz55_0
 try clear hfz55_1
 try clear hfz55_2
 try clear hfz55_3
 try clear hfz5_0
 try clear hfz5_1
 try clear hfz5_2
 try clear hfz5_3
 try clear hx420_0
 try clear hx420_1
 try clear p2
 try clear p4
 try clear p42
 try clear p420
 try clear q4
 try clear q42
 try clear q420
 obtain ⟨kq, x9_56, rfl, HA, HJ56, HO_336000, HO_336001, HO_336002, BK313, HI335, HI418, HB⟩ := hcut
 cases kq with
 | zero => exact absurd HA.out (by simp [gangwaylaw23_FeedExact.j3])
 | succ kj56 =>
 have H := HA.out
 clear HA
 simp only [gangwaylaw23_FeedExact.j3] at H
 by_cases c59 : 0 ≤ x7_1
 rotate_left
 ·rw [if_neg c59] at H
  exact absurd H (by simp)
 rw [if_pos c59] at H
 have c59b0 : decide (0 ≤ x7_1) = true := decide_eq_true c59
 clear c59
 by_cases c60 : x7_1 < (l0_3.length : Int)
 rotate_left
 ·rw [if_neg c60] at H
  exact absurd H (by simp)
 rw [if_pos c60] at H
 have c60b0 : decide (x7_1 < (l0_3.length : Int)) = true := decide_eq_true c60
 clear c60
 replace H := Option.bind_eq_some_iff.mp H
 obtain ⟨t422, A610, H⟩ := H
 replace H : (if t422 = 0 then (gangwaylaw23_FeedExact.j4 kj56 x7_1 ((rd_T45 l0_3 x7_1).f1) x9_56 t422 (t422 == 0) l0_0 l0_1 l0_2 l0_3 x336000_1 x336001_1 x336002_1 l0_0 l0_1 l0_2 x419003_1 x419004_1 x419005_1) else (gangwaylaw23_FeedExact.j4 kj56 x7_1 ((rd_T45 l0_3 x7_1).f1) x9_56 t422 (t422 == 1) l0_0 l0_1 l0_2 l0_3 x336000_1 x336001_1 x336002_1 l0_0 l0_1 l0_2 x419003_1 x419004_1 x419005_1)) = some r := H
 have A61 := Aside0.mk A610
 clear A610
 have HC62 := Aside0.mk H
 clear H
 have hnb63 := NB313_335.out
 have hnc63 := NB335_313.out
 have hnb64 := NB313_418.out
 have hnc64 := NB418_313.out
 have hcz65_0 : wc.cell? ⟨gb313, 0, none⟩ = some (.slice A0_0 l0_0.length c0_0) := (blk_cell BK313.out 0).trans rfl
 have hcz65_1 : wc.cell? ⟨gb313, 1, none⟩ = some (.slice A0_1 l0_1.length c0_1) := (blk_cell BK313.out 1).trans rfl
 have hcz65_2 : wc.cell? ⟨gb313, 2, none⟩ = some (.slice A0_2 l0_2.length c0_2) := (blk_cell BK313.out 2).trans rfl
 have hcz65_3 : wc.cell? ⟨gb313, 3, none⟩ = some (.slice (some ad420) l0_3.length c0_3) := (blk_cell BK313.out 3).trans rfl
 have hfz65_0 := blk_frozen BK313.out 0
 have hfz65_1 := blk_frozen BK313.out 1
 have hfz65_2 := blk_frozen BK313.out 2
 have hfz65_3 := blk_frozen BK313.out 3
 have p421 : 0 ≤ (x7_1 : Int) := of_decide_eq_true (by first | (with_reducible assumption) | assumption)
 have q421 : x7_1 < (l0_3.length : Int) := of_decide_eq_true (by first | (with_reducible assumption) | assumption)
 obtain ⟨ad421, e421, hx421_0, hx421_1⟩ := at_T45 HR0_3.out x7_1 p421 q421
 obtain rfl : ad420 = ad421 := (by injection e421)
 replace hx421_0 := up HB hx421_0
 replace hx421_1 := up HB hx421_1
 replace p421 := eq_true p421
 replace q421 := eq_true q421
 go_upto_block 2 with (first | ((with_reducible refine gate_callee (f := 15) rfl ?_); refine goesL_ (some 89) rfl rfl Try.func15 (by kernel_rfl) rfl #[.int .i64 ((rd_T45 l0_3 x7_1).f0), .int .i64 6] rfl (by (try simp only [List.map_toArray, List.map_cons, List.map_nil]); first | done | rfl | (simp only [List.length_drop, List.length_take]; rfl)) ?_; (with_reducible refine (gangwaylaw0_Within.calls ((rd_T45 l0_3 x7_1).f0) 6 t422 _ A61.out).mono ?_); rintro e w' ⟨rfl, ⟨nd, rfl⟩⟩; refine ⟨_, rfl, ?_⟩))
 (try simp only [Act.put, List.setIfInBounds_toArray, List.set_cons_zero, List.set_cons_succ])
 go_cut [] (fun wc => ∃ (kq : Nat) (x336000_61 : List Int) (x336001_61 : List Int) (x336002_61 : List Int) (x419003_61 : Int) (x419004_61 : Int) (x419005_61 : Int) (u336000 : Value) (u336001 : Value) (u336002 : Value), Aside0 (gangwaylaw23_FeedExact.j8 kq x7_1 l0_0 l0_1 l0_2 l0_3 x336000_61 x336001_61 x336002_61 l0_0 l0_1 l0_2 x419003_61 x419004_61 x419005_61 = some r) ∧ Aside0 (kq ≤ kj56) ∧ Aside0 (Kd.Q (Kd.int .i64) 2 wc w.heap.size (fun _ => True) u336000 x336000_61) ∧ Aside0 (Kd.Q (Kd.int .u8) 5 wc w.heap.size (fun k_ => some k_ ≠ (u336002 : Value).ownBlock) u336001 x336001_61) ∧ Aside0 (Kd.Q (Kd.int .u8) 5 wc w.heap.size (fun k_ => some k_ ≠ (u336001 : Value).ownBlock) u336002 x336002_61) ∧ Aside0 (wc.heap[gb313]? = some (.cells #[(.slice A0_0 l0_0.length c0_0), (.slice A0_1 l0_1.length c0_1), (.slice A0_2 l0_2.length c0_2), (.slice (some ad420) l0_3.length c0_3)] 28 (0, 0))) ∧ Aside0 (IsS55 w wc g335 u336000 u336001 u336002) ∧ Aside0 (IsS43 w wc g418 l0_0 l0_1 l0_2 x419003_61 x419004_61 x419005_61) ∧ Aside0 (Below w.heap.size w wc))
 case first =>
  have H := HC62.out
  clear HC62
  have HC66 := Aside0.mk H
  clear H
  go_upto_if 113 with (fail)
  go_cut [113] (fun v113 wc => ∃ (kq : Nat) (x113_65 : Bool), v113 = .bool x113_65 ∧ Aside0 (gangwaylaw23_FeedExact.j4 kq x7_1 ((rd_T45 l0_3 x7_1).f1) x9_56 t422 x113_65 l0_0 l0_1 l0_2 l0_3 x336000_1 x336001_1 x336002_1 l0_0 l0_1 l0_2 x419003_1 x419004_1 x419005_1 = some r) ∧ Aside0 (kq ≤ kj56) ∧ Aside0 (Kd.Q (Kd.int .i64) 2 wc w.heap.size (fun _ => True) u336000 x336000_1) ∧ Aside0 (Kd.Q (Kd.int .u8) 5 wc w.heap.size (fun k_ => some k_ ≠ (u336002 : Value).ownBlock) u336001 x336001_1) ∧ Aside0 (Kd.Q (Kd.int .u8) 5 wc w.heap.size (fun k_ => some k_ ≠ (u336001 : Value).ownBlock) u336002 x336002_1) ∧ Aside0 (wc.heap[gb313]? = some (.cells #[(.slice A0_0 l0_0.length c0_0), (.slice A0_1 l0_1.length c0_1), (.slice A0_2 l0_2.length c0_2), (.slice (some ad420) l0_3.length c0_3)] 28 (0, 0))) ∧ Aside0 (IsS55 w wc g335 u336000 u336001 u336002) ∧ Aside0 (IsS43 w wc g418 l0_0 l0_1 l0_2 x419003_1 x419004_1 x419005_1) ∧ Aside0 (Below w.heap.size w wc))
  case first =>
   have H := HC66.out
   clear HC66
   by_cases c67 : t422 = 0
   ·rw [if_pos c67] at H
    have c67b0 : (t422 == 0) = true := beq_iff_eq.mpr c67
    have c67b1 : (t422 != 0) = false := bne_eq_false_iff_eq.mpr c67
    clear c67
    (first | rw [c67b0] | (simp only [i64_w, i32_w]; rw [c67b0]) | skip)
    have H' := Aside0.mk H
    clear H
    go_wp2
    go_meet
    case rel => exact ⟨_, ((t422 == 0)), (by first | rfl | (simp; done) | (simp [*]; done)), H', ⟨by have := HK1.out; have := HJ40.out; have := HJ51.out; have := HJ56.out; first | omega | exact Nat.le_refl _⟩, ⟨by (with_reducible repeat (first | apply Kd.Q_alloc | apply Kd.Q_drewN | apply Kd.Q_drew)); exact HO_336000.out⟩, ⟨by (with_reducible repeat (first | apply Kd.Q_alloc | apply Kd.Q_drewN | apply Kd.Q_drew)); exact HO_336001.out⟩, ⟨by (with_reducible repeat (first | apply Kd.Q_alloc | apply Kd.Q_drewN | apply Kd.Q_drew)); exact HO_336002.out⟩, ⟨by (with_reducible repeat (first | refine blk_drewN ?_ _ | refine blk_drew ?_ | refine blk_alloc ?_ _)); exact BK313.out⟩, ⟨by repeat (first | (with_reducible first | exact HI335.out | apply IsS55.alloc | apply IsS55.drewN | apply IsS55.drew | apply IsS55.set_0 | apply IsS55.set_1 | apply IsS55.set_2 | refine IsS55.far ?_ NB335_313.out _) | exact HI335.out)⟩, ⟨by repeat (first | (with_reducible first | exact HI418.out | apply IsS43.alloc | apply IsS43.drewN | apply IsS43.drew | apply IsS43.set_3 | apply IsS43.set_4 | apply IsS43.set_5 | refine IsS43.far ?_ NB418_313.out _) | exact HI418.out)⟩, ⟨by repeat (first | (with_reducible first | exact HB.out | apply below_alloc | apply pw_below_drewN | apply below_drew1 | refine below_set ?_ (IsS55.ge HI335.out) | refine below_set ?_ (IsS43.ge HI418.out) | refine below_set ?_ GE313.out) | exact HB.out)⟩⟩
   rw [if_neg c67] at H
   have c67b0 : (t422 == 0) = false := beq_eq_false_iff_ne.mpr c67
   have c67b1 : (t422 != 0) = true := bne_iff_ne.mpr c67
   (first | rw [c67b0] | (simp only [i64_w, i32_w]; rw [c67b0]) | skip)
   have H' := Aside0.mk H
   clear H
   go_wp2
   go_meet
   case rel => exact ⟨_, ((t422 == 1)), (by first | rfl | (simp; done) | (simp [*]; done)), H', ⟨by have := HK1.out; have := HJ40.out; have := HJ51.out; have := HJ56.out; first | omega | exact Nat.le_refl _⟩, ⟨by (with_reducible repeat (first | apply Kd.Q_alloc | apply Kd.Q_drewN | apply Kd.Q_drew)); exact HO_336000.out⟩, ⟨by (with_reducible repeat (first | apply Kd.Q_alloc | apply Kd.Q_drewN | apply Kd.Q_drew)); exact HO_336001.out⟩, ⟨by (with_reducible repeat (first | apply Kd.Q_alloc | apply Kd.Q_drewN | apply Kd.Q_drew)); exact HO_336002.out⟩, ⟨by (with_reducible repeat (first | refine blk_drewN ?_ _ | refine blk_drew ?_ | refine blk_alloc ?_ _)); exact BK313.out⟩, ⟨by repeat (first | (with_reducible first | exact HI335.out | apply IsS55.alloc | apply IsS55.drewN | apply IsS55.drew | apply IsS55.set_0 | apply IsS55.set_1 | apply IsS55.set_2 | refine IsS55.far ?_ NB335_313.out _) | exact HI335.out)⟩, ⟨by repeat (first | (with_reducible first | exact HI418.out | apply IsS43.alloc | apply IsS43.drewN | apply IsS43.drew | apply IsS43.set_3 | apply IsS43.set_4 | apply IsS43.set_5 | refine IsS43.far ?_ NB418_313.out _) | exact HI418.out)⟩, ⟨by repeat (first | (with_reducible first | exact HB.out | apply below_alloc | apply pw_below_drewN | apply below_drew1 | refine below_set ?_ (IsS55.ge HI335.out) | refine below_set ?_ (IsS43.ge HI418.out) | refine below_set ?_ GE313.out) | exact HB.out)⟩⟩
  case rest =>
  clear HC66
  try clear c1
  try clear c2
  try clear p2
  try clear c3
  try clear c4
  try clear p4
  try clear q4
  try clear hx4
  try clear c5
  try clear c6
  try clear c7
  try clear c8
  try clear c9
  try clear c11
  try clear c12
  try clear c13
  try clear c14
  try clear c15
  try clear c16
  try clear c16b0
  try clear c16b1
  try clear c24
  try clear c29
  try clear c36
  try clear c42
  try clear c42b0
  try clear p42
  try clear q42
  try clear hx42
  try clear c43
  try clear c44
  try clear c46
  try clear c47
  try clear c49
  try clear c50
  try clear c50b0
  try clear c51
  try clear c51b0
  try clear c53
  try clear c54
  try clear c56
  try clear c56b0
  try clear c58
  try clear c59
  try clear c59b0
  try clear c60
  try clear c60b0
  try clear c63
  try clear c64
  try clear c67
  try clear c67b0
  try clear c67b1
  try clear hcz18_0
  try clear hcz18_1
  try clear hcz18_2
  try clear hcz18_3
  try clear hcz20_0
  try clear hcz20_1
  try clear hcz20_2
  try clear hcz20_3
  try clear hcz25_0
  try clear hcz25_1
  try clear hcz25_2
  try clear hcz30_0
  try clear hcz30_1
  try clear hcz30_2
  try clear hcz32_0
  try clear hcz32_1
  try clear hcz32_2
  try clear hcz34_0
  try clear hcz34_1
  try clear hcz34_2
  try clear hcz37_0
  try clear hcz37_1
  try clear hcz37_2
  try clear hcz37_3
  try clear hcz39_0
  try clear hcz39_1
  try clear hcz39_2
  try clear hcz39_3
  try clear hcz45_0
  try clear hcz45_1
  try clear hcz45_2
  try clear hcz45_3
  try clear hcz48_0
  try clear hcz48_1
  try clear hcz48_2
  try clear hcz48_3
  try clear hcz55_0
  try clear hcz55_1
  try clear hcz55_2
  try clear hcz55_3
  try clear hcz5_0
  try clear hcz5_1
  try clear hcz5_2
  try clear hcz5_3
  try clear hcz65_0
  try clear hcz65_1
  try clear hcz65_2
  try clear hcz65_3
  try clear hfz18_0
  try clear hfz18_1
  try clear hfz18_2
  try clear hfz18_3
  try clear hfz20_0
  try clear hfz20_1
  try clear hfz20_2
  try clear hfz20_3
  try clear hfz25_0
  try clear hfz25_1
  try clear hfz25_2
  try clear hfz30_0
  try clear hfz30_1
  try clear hfz30_2
  try clear hfz32_0
  try clear hfz32_1
  try clear hfz32_2
  try clear hfz34_0
  try clear hfz34_1
  try clear hfz34_2
  try clear hfz37_0
  try clear hfz37_1
  try clear hfz37_2
  try clear hfz37_3
  try clear hfz39_0
  try clear hfz39_1
  try clear hfz39_2
  try clear hfz39_3
  try clear hfz45_0
  try clear hfz45_1
  try clear hfz45_2
  try clear hfz45_3
  try clear hfz48_0
  try clear hfz48_1
  try clear hfz48_2
  try clear hfz48_3
  try clear hfz55_0
  try clear hfz55_1
  try clear hfz55_2
  try clear hfz55_3
  try clear hfz5_0
  try clear hfz5_1
  try clear hfz5_2
  try clear hfz5_3
  try clear hfz65_0
  try clear hfz65_1
  try clear hfz65_2
  try clear hfz65_3
  try clear hx420_0
  try clear hx420_1
  try clear hx421_0
  try clear hx421_1
  try clear p2
  try clear p4
  try clear p42
  try clear p420
  try clear p421
  try clear q4
  try clear q42
  try clear q420
  try clear q421
  obtain ⟨kq, x113_65, rfl, HA, HJ65, HO_336000, HO_336001, HO_336002, BK313, HI335, HI418, HB⟩ := hcut
  cases kq with
  | zero => exact absurd HA.out (by simp [gangwaylaw23_FeedExact.j4])
  | succ kj65 =>
  have H := HA.out
  clear HA
  simp only [gangwaylaw23_FeedExact.j4] at H
  by_cases c68 : x113_65 = true
  ·subst c68
   have H1 : ((feed_Feed_Clock.f x336000_1 x336001_1 x336002_1).bind fun bt423 => ((gangwayref23_Feed_Now.f l0_0 l0_1 l0_2 x419003_1 x419004_1 x419005_1).bind fun bt433 => (if bt423.1 = bt433.1 then ((gangwayref23_Feed_Tick.f l0_0 l0_1 l0_2 bt433.2.1 bt433.2.2.1 bt433.2.2.2).bind fun bt437 => (gangwaylaw23_FeedExact.j8 kj65 x7_1 l0_0 l0_1 l0_2 l0_3 bt423.2.1 bt423.2.2.1 bt423.2.2.2 l0_0 l0_1 l0_2 bt437.1 bt437.2.1 bt437.2.2)) else (none)))) = some r := by rw [if_pos rfl] at H; exact H
   clear H
   have H := H1
   clear H1
   replace H := Option.bind_eq_some_iff.mp H
   obtain ⟨⟨t423, t424, t427, t430⟩, A690, H⟩ := H
   replace H : ((gangwayref23_Feed_Now.f l0_0 l0_1 l0_2 x419003_1 x419004_1 x419005_1).bind fun bt433 => (if t423 = bt433.1 then ((gangwayref23_Feed_Tick.f l0_0 l0_1 l0_2 bt433.2.1 bt433.2.2.1 bt433.2.2.2).bind fun bt437 => (gangwaylaw23_FeedExact.j8 kj65 x7_1 l0_0 l0_1 l0_2 l0_3 t424 t427 t430 l0_0 l0_1 l0_2 bt437.1 bt437.2.1 bt437.2.2)) else (none))) = some r := H
   have A69 := Aside0.mk A690
   clear A690
   replace H := Option.bind_eq_some_iff.mp H
   obtain ⟨⟨t433, t434, t435, t436⟩, A700, H⟩ := H
   replace H : (if t423 = t433 then ((gangwayref23_Feed_Tick.f l0_0 l0_1 l0_2 t434 t435 t436).bind fun bt437 => (gangwaylaw23_FeedExact.j8 kj65 x7_1 l0_0 l0_1 l0_2 l0_3 t424 t427 t430 l0_0 l0_1 l0_2 bt437.1 bt437.2.1 bt437.2.2)) else (none)) = some r := H
   have A70 := Aside0.mk A700
   clear A700
   by_cases c71 : t423 = t433
   rotate_left
   ·rw [if_neg c71] at H
    exact absurd H (by simp)
   rw [if_pos c71] at H
   have c71b0 : (t423 == t433) = true := beq_iff_eq.mpr c71
   have c71b1 : (t423 != t433) = false := bne_eq_false_iff_eq.mpr c71
   clear c71
   replace H := Option.bind_eq_some_iff.mp H
   obtain ⟨⟨t437, t438, t439⟩, A720, H⟩ := H
   replace H : (gangwaylaw23_FeedExact.j8 kj65 x7_1 l0_0 l0_1 l0_2 l0_3 t424 t427 t430 l0_0 l0_1 l0_2 t437 t438 t439) = some r := H
   have A72 := Aside0.mk A720
   clear A720
   have H' := Aside0.mk H
   clear H
   go_wp2_with (first | ((with_reducible refine gate_callee (f := 10) rfl ?_); refine goesL_ (some 117) rfl rfl Try.func10 (by kernel_rfl) rfl #[.pointer (some ⟨g335, 0, none⟩)] rfl (by (try simp only [List.map_toArray, List.map_cons, List.map_nil]); first | done | rfl | (simp only [List.length_drop, List.length_take]; rfl)) ?_; (with_reducible refine (feed_Feed_Clock.calls g335 (fun k_ => some k_ = (u336000 : Value).ownBlock) u336000 x336000_1 (fun k_ => some k_ = (u336001 : Value).ownBlock) u336001 x336001_1 (fun k_ => some k_ = (u336002 : Value).ownBlock) u336002 x336002_1 t423 t424 t427 t430 w _ ?side1 ?side2 ?side3 ?side4 ?side5 ?side6 ?side7 A69.out).mono ?_); (case side1 => repeat (first | (with_reducible first | exact HI335.out | apply IsS55.alloc | apply IsS55.drewN | apply IsS55.drew | apply IsS55.set_0 | apply IsS55.set_1 | apply IsS55.set_2 | refine IsS55.far ?_ NB335_313.out _) | exact HI335.out)); (case side2 => repeat (first | (with_reducible first | exact HB.out | apply below_alloc | apply pw_below_drewN | apply below_drew1 | refine below_set ?_ (IsS55.ge HI335.out) | refine below_set ?_ (IsS43.ge HI418.out) | refine below_set ?_ GE313.out) | exact HB.out)); (case side3 => exact Kd.Q_tight rfl HO_336000.out); (case side4 => exact Kd.Q_tight rfl HO_336001.out); (case side5 => exact fun k_ e_ => (HO_336001.out.1 k_ e_.symm)); (case side6 => exact Kd.Q_tight rfl HO_336002.out); (case side7 => exact fun k_ e_ => (HO_336002.out.1 k_ e_.symm)); rintro e w73 ⟨v425, v428, v431, rfl, ho0, ho1, ho2, hi, hb, hkp⟩; refine ⟨_, rfl, ?_⟩; have n0_ := Aside0.mk (blk_kept (o := .cells #[.slice A0_0 l0_0.length c0_0, .slice A0_1 l0_1.length c0_1, .slice A0_2 l0_2.length c0_2, .slice (some ad420) l0_3.length c0_3] 28 (0, 0)) (by (with_reducible repeat (first | refine blk_drewN ?_ _ | refine blk_drew ?_ | refine blk_alloc ?_ _)); exact BK313.out) hkp (fun hs_ => Or.elim hs_ (fun hs_ => Or.elim hs_ (fun e_ => (fun e_ => (Kd.Q_ne HO_336000.out BK313.out (by decide)) e_) e_) (fun e_ => Or.elim e_ (fun e_ => (fun e_ => (Kd.Q_ne HO_336001.out BK313.out (by decide)) e_) e_) (fun e_ => (fun e_ => (Kd.Q_ne HO_336002.out BK313.out (by decide)) e_) e_))) (fun e_ => NB313_335.out e_))); have n1_ := Aside0.mk (hi); have n2_ := Aside0.mk (IsS43.kept (by repeat (first | (with_reducible first | exact HI418.out | apply IsS43.alloc | apply IsS43.drewN | apply IsS43.drew | apply IsS43.set_3 | apply IsS43.set_4 | apply IsS43.set_5 | refine IsS43.far ?_ NB418_313.out _) | exact HI418.out)) hkp (fun hs_ => Or.elim hs_ (fun hs_ => Or.elim hs_ (fun e_ => (fun e_ => (IsS43.own_neQ HI418.out HO_336000.out (by decide)) e_) e_) (fun e_ => Or.elim e_ (fun e_ => (fun e_ => (IsS43.own_neQ HI418.out HO_336001.out (by decide)) e_) e_) (fun e_ => (fun e_ => (IsS43.own_neQ HI418.out HO_336002.out (by decide)) e_) e_))) (fun e_ => NB418_335.out e_))); have n3_ := Aside0.mk (Kd.Q_mono (ok' := fun k_ => True) ho0 (fun k_ hk_ => trivial)); have n4_ := Aside0.mk (Kd.Q_mono (ok' := fun k_ => some k_ ≠ (v431 : Value).ownBlock) ho1 (fun k_ hk_ => hk_.2)); have n5_ := Aside0.mk (Kd.Q_mono (ok' := fun k_ => some k_ ≠ (v428 : Value).ownBlock) ho2 (fun k_ hk_ => hk_.2)); have n6_ := Aside0.mk (hb); clear BK313; clear HI335; clear HI418; clear HB; clear HO_336000; clear HO_336001; clear HO_336002; have BK313 := n0_; have HI335 := n1_; have HI418 := n2_; have HO426 := n3_; have HO429 := n4_; have HO432 := n5_; have HB := n6_; clear n0_ n1_ n2_ n3_ n4_ n5_ n6_; (try clear hb); (try clear hkp); (try clear ho0); (try clear ho1); (try clear ho2)) | ((with_reducible refine gate_callee (f := 16) rfl ?_); refine goesL_ (some 119) rfl rfl Try.func16 (by kernel_rfl) rfl #[.pointer (some ⟨g418, 0, none⟩)] rfl (by (try simp only [List.map_toArray, List.map_cons, List.map_nil]); first | done | rfl | (simp only [List.length_drop, List.length_take]; rfl)) ?_; (with_reducible refine (gangwayref23_Feed_Now.calls g418 l0_0 l0_1 l0_2 x419003_1 x419004_1 x419005_1 t433 t434 t435 t436 w _ ?side1 ?side2 A70.out).mono ?_); (case side1 => repeat (first | (with_reducible first | exact HI418.out | apply IsS43.alloc | apply IsS43.drewN | apply IsS43.drew | apply IsS43.set_3 | apply IsS43.set_4 | apply IsS43.set_5 | refine IsS43.far ?_ NB418_313.out _) | exact HI418.out)); (case side2 => repeat (first | (with_reducible first | exact HB.out | apply below_alloc | apply pw_below_drewN | apply below_drew1 | refine below_set ?_ (IsS55.ge HI335.out) | refine below_set ?_ (IsS43.ge HI418.out) | refine below_set ?_ GE313.out) | exact HB.out)); rintro e w74 ⟨rfl, hi, hb, hk⟩; refine ⟨_, rfl, ?_⟩; have n0_ := Aside0.mk (KeepBut.blk hk (g' := gb313) (o := .cells #[.slice A0_0 l0_0.length c0_0, .slice A0_1 l0_1.length c0_1, .slice A0_2 l0_2.length c0_2, .slice (some ad420) l0_3.length c0_3] 28 (0, 0)) (by (with_reducible repeat (first | refine blk_drewN ?_ _ | refine blk_drew ?_ | refine blk_alloc ?_ _)); exact BK313.out) NB313_418.out (by simp)); have n1_ := Aside0.mk (IsS55.keepb (by repeat (first | (with_reducible first | exact HI335.out | apply IsS55.alloc | apply IsS55.drewN | apply IsS55.drew | apply IsS55.set_0 | apply IsS55.set_1 | apply IsS55.set_2 | refine IsS55.far ?_ NB335_313.out _) | exact HI335.out)) hk NB335_418.out); have n2_ := Aside0.mk (Kd.Q_mono (Kd.Q_keep (IsS43.apartQ (show IsS43 w _ g418 l0_0 l0_1 l0_2 x419003_1 x419004_1 x419005_1 from by repeat (first | (with_reducible first | exact HI418.out | apply IsS43.alloc | apply IsS43.drewN | apply IsS43.drew | apply IsS43.set_3 | apply IsS43.set_4 | apply IsS43.set_5 | refine IsS43.far ?_ NB418_313.out _) | exact HI418.out)) (by (with_reducible repeat (first | apply Kd.Q_alloc | apply Kd.Q_drewN | apply Kd.Q_drew)); exact HO426.out) (by decide)) hk (fun _ h => h.2)) (fun _ h => h.1)); have n3_ := Aside0.mk (Kd.Q_mono (Kd.Q_keep (IsS43.apartQ (show IsS43 w _ g418 l0_0 l0_1 l0_2 x419003_1 x419004_1 x419005_1 from by repeat (first | (with_reducible first | exact HI418.out | apply IsS43.alloc | apply IsS43.drewN | apply IsS43.drew | apply IsS43.set_3 | apply IsS43.set_4 | apply IsS43.set_5 | refine IsS43.far ?_ NB418_313.out _) | exact HI418.out)) (by (with_reducible repeat (first | apply Kd.Q_alloc | apply Kd.Q_drewN | apply Kd.Q_drew)); exact HO429.out) (by decide)) hk (fun _ h => h.2)) (fun _ h => h.1)); have n4_ := Aside0.mk (Kd.Q_mono (Kd.Q_keep (IsS43.apartQ (show IsS43 w _ g418 l0_0 l0_1 l0_2 x419003_1 x419004_1 x419005_1 from by repeat (first | (with_reducible first | exact HI418.out | apply IsS43.alloc | apply IsS43.drewN | apply IsS43.drew | apply IsS43.set_3 | apply IsS43.set_4 | apply IsS43.set_5 | refine IsS43.far ?_ NB418_313.out _) | exact HI418.out)) (by (with_reducible repeat (first | apply Kd.Q_alloc | apply Kd.Q_drewN | apply Kd.Q_drew)); exact HO432.out) (by decide)) hk (fun _ h => h.2)) (fun _ h => h.1)); have n5_ := Aside0.mk (hb); have n6_ := Aside0.mk (hi); clear BK313; clear HI335; clear HO426; clear HO429; clear HO432; clear HB; clear HI418; have BK313 := n0_; have HI335 := n1_; have HO426 := n2_; have HO429 := n3_; have HO432 := n4_; have HB := n5_; have HI418 := n6_; clear n0_ n1_ n2_ n3_ n4_ n5_ n6_; (try clear hb); (try clear hb2); (try clear hk); (try clear hi)) | ((with_reducible refine gate_callee (f := 17) rfl ?_); refine goesL_ (some 122) rfl rfl Try.func17 (by kernel_rfl) rfl #[.pointer (some ⟨g418, 0, none⟩)] rfl (by (try simp only [List.map_toArray, List.map_cons, List.map_nil]); first | done | rfl | (simp only [List.length_drop, List.length_take]; rfl)) ?_; (with_reducible refine (gangwayref23_Feed_Tick.calls g418 l0_0 l0_1 l0_2 t434 t435 t436 t437 t438 t439 w _ ?side1 ?side2 A72.out).mono ?_); (case side1 => repeat (first | (with_reducible first | exact HI418.out | apply IsS43.alloc | apply IsS43.drewN | apply IsS43.drew | apply IsS43.set_3 | apply IsS43.set_4 | apply IsS43.set_5 | refine IsS43.far ?_ NB418_313.out _) | exact HI418.out)); (case side2 => repeat (first | (with_reducible first | exact HB.out | apply below_alloc | apply pw_below_drewN | apply below_drew1 | refine below_set ?_ (IsS55.ge HI335.out) | refine below_set ?_ (IsS43.ge HI418.out) | refine below_set ?_ GE313.out) | exact HB.out)); rintro e w75 ⟨rfl, hi, hb, hk⟩; refine ⟨_, rfl, ?_⟩; have n0_ := Aside0.mk (KeepBut.blk hk (g' := gb313) (o := .cells #[.slice A0_0 l0_0.length c0_0, .slice A0_1 l0_1.length c0_1, .slice A0_2 l0_2.length c0_2, .slice (some ad420) l0_3.length c0_3] 28 (0, 0)) (by (with_reducible repeat (first | refine blk_drewN ?_ _ | refine blk_drew ?_ | refine blk_alloc ?_ _)); exact BK313.out) NB313_418.out (by simp)); have n1_ := Aside0.mk (IsS55.keepb (by repeat (first | (with_reducible first | exact HI335.out | apply IsS55.alloc | apply IsS55.drewN | apply IsS55.drew | apply IsS55.set_0 | apply IsS55.set_1 | apply IsS55.set_2 | refine IsS55.far ?_ NB335_313.out _) | exact HI335.out)) hk NB335_418.out); have n2_ := Aside0.mk (Kd.Q_mono (Kd.Q_keep (IsS43.apartQ (show IsS43 w _ g418 l0_0 l0_1 l0_2 t434 t435 t436 from by repeat (first | (with_reducible first | exact HI418.out | apply IsS43.alloc | apply IsS43.drewN | apply IsS43.drew | apply IsS43.set_3 | apply IsS43.set_4 | apply IsS43.set_5 | refine IsS43.far ?_ NB418_313.out _) | exact HI418.out)) (by (with_reducible repeat (first | apply Kd.Q_alloc | apply Kd.Q_drewN | apply Kd.Q_drew)); exact HO426.out) (by decide)) hk (fun _ h => h.2)) (fun _ h => h.1)); have n3_ := Aside0.mk (Kd.Q_mono (Kd.Q_keep (IsS43.apartQ (show IsS43 w _ g418 l0_0 l0_1 l0_2 t434 t435 t436 from by repeat (first | (with_reducible first | exact HI418.out | apply IsS43.alloc | apply IsS43.drewN | apply IsS43.drew | apply IsS43.set_3 | apply IsS43.set_4 | apply IsS43.set_5 | refine IsS43.far ?_ NB418_313.out _) | exact HI418.out)) (by (with_reducible repeat (first | apply Kd.Q_alloc | apply Kd.Q_drewN | apply Kd.Q_drew)); exact HO429.out) (by decide)) hk (fun _ h => h.2)) (fun _ h => h.1)); have n4_ := Aside0.mk (Kd.Q_mono (Kd.Q_keep (IsS43.apartQ (show IsS43 w _ g418 l0_0 l0_1 l0_2 t434 t435 t436 from by repeat (first | (with_reducible first | exact HI418.out | apply IsS43.alloc | apply IsS43.drewN | apply IsS43.drew | apply IsS43.set_3 | apply IsS43.set_4 | apply IsS43.set_5 | refine IsS43.far ?_ NB418_313.out _) | exact HI418.out)) (by (with_reducible repeat (first | apply Kd.Q_alloc | apply Kd.Q_drewN | apply Kd.Q_drew)); exact HO432.out) (by decide)) hk (fun _ h => h.2)) (fun _ h => h.1)); have n5_ := Aside0.mk (hb); have n6_ := Aside0.mk (hi); clear BK313; clear HI335; clear HO426; clear HO429; clear HO432; clear HB; clear HI418; have BK313 := n0_; have HI335 := n1_; have HO426 := n2_; have HO429 := n3_; have HO432 := n4_; have HB := n5_; have HI418 := n6_; clear n0_ n1_ n2_ n3_ n4_ n5_ n6_; (try clear hb); (try clear hb2); (try clear hk); (try clear hi)))
   go_meet
   case rel => exact ⟨_, (t424), (t427), (t430), (t437), (t438), (t439), (v425), (v428), (v431), H', ⟨by have := HK1.out; have := HJ40.out; have := HJ51.out; have := HJ56.out; have := HJ65.out; first | omega | exact Nat.le_refl _⟩, ⟨by (with_reducible repeat (first | apply Kd.Q_alloc | apply Kd.Q_drewN | apply Kd.Q_drew)); exact HO426.out⟩, ⟨by (with_reducible repeat (first | apply Kd.Q_alloc | apply Kd.Q_drewN | apply Kd.Q_drew)); exact HO429.out⟩, ⟨by (with_reducible repeat (first | apply Kd.Q_alloc | apply Kd.Q_drewN | apply Kd.Q_drew)); exact HO432.out⟩, ⟨by (with_reducible repeat (first | refine blk_drewN ?_ _ | refine blk_drew ?_ | refine blk_alloc ?_ _)); exact BK313.out⟩, ⟨by repeat (first | (with_reducible first | exact HI335.out | apply IsS55.alloc | apply IsS55.drewN | apply IsS55.drew | apply IsS55.set_0 | apply IsS55.set_1 | apply IsS55.set_2 | refine IsS55.far ?_ NB335_313.out _) | exact HI335.out)⟩, ⟨by repeat (first | (with_reducible first | exact HI418.out | apply IsS43.alloc | apply IsS43.drewN | apply IsS43.drew | apply IsS43.set_3 | apply IsS43.set_4 | apply IsS43.set_5 | refine IsS43.far ?_ NB418_313.out _) | exact HI418.out)⟩, ⟨by repeat (first | (with_reducible first | exact HB.out | apply below_alloc | apply pw_below_drewN | apply below_drew1 | refine below_set ?_ (IsS55.ge HI335.out) | refine below_set ?_ (IsS43.ge HI418.out) | refine below_set ?_ GE313.out) | exact HB.out)⟩⟩
  replace c68 := Bool.eq_false_iff.mpr c68
  subst c68
  have H1 : (if t422 = 2 then (gangwaylaw23_FeedExact.j5 kj65 x7_1 ((rd_T45 l0_3 x7_1).f1) x9_56 (t422 == 2) l0_0 l0_1 l0_2 l0_3 x336000_1 x336001_1 x336002_1 l0_0 l0_1 l0_2 x419003_1 x419004_1 x419005_1) else (gangwaylaw23_FeedExact.j5 kj65 x7_1 ((rd_T45 l0_3 x7_1).f1) x9_56 (t422 == 3) l0_0 l0_1 l0_2 l0_3 x336000_1 x336001_1 x336002_1 l0_0 l0_1 l0_2 x419003_1 x419004_1 x419005_1)) = some r := by rw [if_neg (show ¬ (false = true) by decide)] at H; exact H
  clear H
  have H := H1
  clear H1
  have HC76 := Aside0.mk H
  clear H
  go_upto_if 123 with (fail)
  go_cut [123] (fun v123 wc => ∃ (kq : Nat) (x123_75 : Bool), v123 = .bool x123_75 ∧ Aside0 (gangwaylaw23_FeedExact.j5 kq x7_1 ((rd_T45 l0_3 x7_1).f1) x9_56 x123_75 l0_0 l0_1 l0_2 l0_3 x336000_1 x336001_1 x336002_1 l0_0 l0_1 l0_2 x419003_1 x419004_1 x419005_1 = some r) ∧ Aside0 (kq ≤ kj65) ∧ Aside0 (Kd.Q (Kd.int .i64) 2 wc w.heap.size (fun _ => True) u336000 x336000_1) ∧ Aside0 (Kd.Q (Kd.int .u8) 5 wc w.heap.size (fun k_ => some k_ ≠ (u336002 : Value).ownBlock) u336001 x336001_1) ∧ Aside0 (Kd.Q (Kd.int .u8) 5 wc w.heap.size (fun k_ => some k_ ≠ (u336001 : Value).ownBlock) u336002 x336002_1) ∧ Aside0 (wc.heap[gb313]? = some (.cells #[(.slice A0_0 l0_0.length c0_0), (.slice A0_1 l0_1.length c0_1), (.slice A0_2 l0_2.length c0_2), (.slice (some ad420) l0_3.length c0_3)] 28 (0, 0))) ∧ Aside0 (IsS55 w wc g335 u336000 u336001 u336002) ∧ Aside0 (IsS43 w wc g418 l0_0 l0_1 l0_2 x419003_1 x419004_1 x419005_1) ∧ Aside0 (Below w.heap.size w wc))
  case first =>
   have H := HC76.out
   clear HC76
   by_cases c77 : t422 = 2
   ·rw [if_pos c77] at H
    have c77b0 : (t422 == 2) = true := beq_iff_eq.mpr c77
    have c77b1 : (t422 != 2) = false := bne_eq_false_iff_eq.mpr c77
    clear c77
    (first | rw [c77b0] | (simp only [i64_w, i32_w]; rw [c77b0]) | skip)
    have H' := Aside0.mk H
    clear H
    go_wp2
    go_meet
    case rel => exact ⟨_, ((t422 == 2)), (by first | rfl | (simp; done) | (simp [*]; done)), H', ⟨by have := HK1.out; have := HJ40.out; have := HJ51.out; have := HJ56.out; have := HJ65.out; first | omega | exact Nat.le_refl _⟩, ⟨by (with_reducible repeat (first | apply Kd.Q_alloc | apply Kd.Q_drewN | apply Kd.Q_drew)); exact HO_336000.out⟩, ⟨by (with_reducible repeat (first | apply Kd.Q_alloc | apply Kd.Q_drewN | apply Kd.Q_drew)); exact HO_336001.out⟩, ⟨by (with_reducible repeat (first | apply Kd.Q_alloc | apply Kd.Q_drewN | apply Kd.Q_drew)); exact HO_336002.out⟩, ⟨by (with_reducible repeat (first | refine blk_drewN ?_ _ | refine blk_drew ?_ | refine blk_alloc ?_ _)); exact BK313.out⟩, ⟨by repeat (first | (with_reducible first | exact HI335.out | apply IsS55.alloc | apply IsS55.drewN | apply IsS55.drew | apply IsS55.set_0 | apply IsS55.set_1 | apply IsS55.set_2 | refine IsS55.far ?_ NB335_313.out _) | exact HI335.out)⟩, ⟨by repeat (first | (with_reducible first | exact HI418.out | apply IsS43.alloc | apply IsS43.drewN | apply IsS43.drew | apply IsS43.set_3 | apply IsS43.set_4 | apply IsS43.set_5 | refine IsS43.far ?_ NB418_313.out _) | exact HI418.out)⟩, ⟨by repeat (first | (with_reducible first | exact HB.out | apply below_alloc | apply pw_below_drewN | apply below_drew1 | refine below_set ?_ (IsS55.ge HI335.out) | refine below_set ?_ (IsS43.ge HI418.out) | refine below_set ?_ GE313.out) | exact HB.out)⟩⟩
   rw [if_neg c77] at H
   have c77b0 : (t422 == 2) = false := beq_eq_false_iff_ne.mpr c77
   have c77b1 : (t422 != 2) = true := bne_iff_ne.mpr c77
   (first | rw [c77b0] | (simp only [i64_w, i32_w]; rw [c77b0]) | skip)
   have H' := Aside0.mk H
   clear H
   go_wp2
   go_meet
   case rel => exact ⟨_, ((t422 == 3)), (by first | rfl | (simp; done) | (simp [*]; done)), H', ⟨by have := HK1.out; have := HJ40.out; have := HJ51.out; have := HJ56.out; have := HJ65.out; first | omega | exact Nat.le_refl _⟩, ⟨by (with_reducible repeat (first | apply Kd.Q_alloc | apply Kd.Q_drewN | apply Kd.Q_drew)); exact HO_336000.out⟩, ⟨by (with_reducible repeat (first | apply Kd.Q_alloc | apply Kd.Q_drewN | apply Kd.Q_drew)); exact HO_336001.out⟩, ⟨by (with_reducible repeat (first | apply Kd.Q_alloc | apply Kd.Q_drewN | apply Kd.Q_drew)); exact HO_336002.out⟩, ⟨by (with_reducible repeat (first | refine blk_drewN ?_ _ | refine blk_drew ?_ | refine blk_alloc ?_ _)); exact BK313.out⟩, ⟨by repeat (first | (with_reducible first | exact HI335.out | apply IsS55.alloc | apply IsS55.drewN | apply IsS55.drew | apply IsS55.set_0 | apply IsS55.set_1 | apply IsS55.set_2 | refine IsS55.far ?_ NB335_313.out _) | exact HI335.out)⟩, ⟨by repeat (first | (with_reducible first | exact HI418.out | apply IsS43.alloc | apply IsS43.drewN | apply IsS43.drew | apply IsS43.set_3 | apply IsS43.set_4 | apply IsS43.set_5 | refine IsS43.far ?_ NB418_313.out _) | exact HI418.out)⟩, ⟨by repeat (first | (with_reducible first | exact HB.out | apply below_alloc | apply pw_below_drewN | apply below_drew1 | refine below_set ?_ (IsS55.ge HI335.out) | refine below_set ?_ (IsS43.ge HI418.out) | refine below_set ?_ GE313.out) | exact HB.out)⟩⟩
  case rest =>
  clear HC76
  try clear c1
  try clear c2
  try clear p2
  try clear c3
  try clear c4
  try clear p4
  try clear q4
  try clear hx4
  try clear c5
  try clear c6
  try clear c7
  try clear c8
  try clear c9
  try clear c10
  try clear c11
  try clear c12
  try clear c13
  try clear c14
  try clear c15
  try clear c16
  try clear c16b0
  try clear c16b1
  try clear c17
  try clear c24
  try clear c29
  try clear c36
  try clear c42
  try clear c42b0
  try clear p42
  try clear q42
  try clear hx42
  try clear c43
  try clear c44
  try clear c46
  try clear c47
  try clear c49
  try clear c50
  try clear c50b0
  try clear c51
  try clear c51b0
  try clear c53
  try clear c54
  try clear c56
  try clear c56b0
  try clear c58
  try clear c59
  try clear c59b0
  try clear c60
  try clear c60b0
  try clear c63
  try clear c64
  try clear c67
  try clear c67b0
  try clear c67b1
  try clear c68
  try clear c71
  try clear c71b0
  try clear c71b1
  try clear c77
  try clear c77b0
  try clear c77b1
  try clear hcz18_0
  try clear hcz18_1
  try clear hcz18_2
  try clear hcz18_3
  try clear hcz20_0
  try clear hcz20_1
  try clear hcz20_2
  try clear hcz20_3
  try clear hcz25_0
  try clear hcz25_1
  try clear hcz25_2
  try clear hcz30_0
  try clear hcz30_1
  try clear hcz30_2
  try clear hcz32_0
  try clear hcz32_1
  try clear hcz32_2
  try clear hcz34_0
  try clear hcz34_1
  try clear hcz34_2
  try clear hcz37_0
  try clear hcz37_1
  try clear hcz37_2
  try clear hcz37_3
  try clear hcz39_0
  try clear hcz39_1
  try clear hcz39_2
  try clear hcz39_3
  try clear hcz45_0
  try clear hcz45_1
  try clear hcz45_2
  try clear hcz45_3
  try clear hcz48_0
  try clear hcz48_1
  try clear hcz48_2
  try clear hcz48_3
  try clear hcz55_0
  try clear hcz55_1
  try clear hcz55_2
  try clear hcz55_3
  try clear hcz5_0
  try clear hcz5_1
  try clear hcz5_2
  try clear hcz5_3
  try clear hcz65_0
  try clear hcz65_1
  try clear hcz65_2
  try clear hcz65_3
  try clear hfz18_0
  try clear hfz18_1
  try clear hfz18_2
  try clear hfz18_3
  try clear hfz20_0
  try clear hfz20_1
  try clear hfz20_2
  try clear hfz20_3
  try clear hfz25_0
  try clear hfz25_1
  try clear hfz25_2
  try clear hfz30_0
  try clear hfz30_1
  try clear hfz30_2
  try clear hfz32_0
  try clear hfz32_1
  try clear hfz32_2
  try clear hfz34_0
  try clear hfz34_1
  try clear hfz34_2
  try clear hfz37_0
  try clear hfz37_1
  try clear hfz37_2
  try clear hfz37_3
  try clear hfz39_0
  try clear hfz39_1
  try clear hfz39_2
  try clear hfz39_3
  try clear hfz45_0
  try clear hfz45_1
  try clear hfz45_2
  try clear hfz45_3
  try clear hfz48_0
  try clear hfz48_1
  try clear hfz48_2
  try clear hfz48_3
  try clear hfz55_0
  try clear hfz55_1
  try clear hfz55_2
  try clear hfz55_3
  try clear hfz5_0
  try clear hfz5_1
  try clear hfz5_2
  try clear hfz5_3
  try clear hfz65_0
  try clear hfz65_1
  try clear hfz65_2
  try clear hfz65_3
  try clear hx420_0
  try clear hx420_1
  try clear hx421_0
  try clear hx421_1
  try clear p2
  try clear p4
  try clear p42
  try clear p420
  try clear p421
  try clear q4
  try clear q42
  try clear q420
  try clear q421
  obtain ⟨kq, x123_75, rfl, HA, HJ75, HO_336000, HO_336001, HO_336002, BK313, HI335, HI418, HB⟩ := hcut
  cases kq with
  | zero => exact absurd HA.out (by simp [gangwaylaw23_FeedExact.j5])
  | succ kj75 =>
  have H := HA.out
  clear HA
  simp only [gangwaylaw23_FeedExact.j5] at H
  by_cases c78 : x123_75 = true
  ·subst c78
   have H1 : (if x9_56 = 0 then ((gangwayref23_Feed_Random.f kj75 l0_0 l0_1 l0_2 x419003_1 x419004_1 x419005_1 ((rd_T45 l0_3 x7_1).f1)).bind fun bt440 => (gangwaylaw23_FeedExact.j6 kj75 x7_1 ((rd_T45 l0_3 x7_1).f1) x9_56 bt440.1 l0_0 l0_1 l0_2 l0_3 x336000_1 x336001_1 x336002_1 l0_0 l0_1 l0_2 bt440.2.1 bt440.2.2.1 bt440.2.2.2)) else (gangwaylaw23_FeedExact.j6 kj75 x7_1 ((rd_T45 l0_3 x7_1).f1) x9_56 ([] : List Int) l0_0 l0_1 l0_2 l0_3 x336000_1 x336001_1 x336002_1 l0_0 l0_1 l0_2 x419003_1 x419004_1 x419005_1)) = some r := by rw [if_pos rfl] at H; exact H
   clear H
   have H := H1
   clear H1
   have HC79 := Aside0.mk H
   clear H
   go_upto_if 127 with (fail)
   go_cut [10] (fun v10 wc => ∃ (kq : Nat) (x10_78 : List Int) (x419003_78 : Int) (x419004_78 : Int) (x419005_78 : Int), Aside0 (gangwaylaw23_FeedExact.j6 kq x7_1 ((rd_T45 l0_3 x7_1).f1) x9_56 x10_78 l0_0 l0_1 l0_2 l0_3 x336000_1 x336001_1 x336002_1 l0_0 l0_1 l0_2 x419003_78 x419004_78 x419005_78 = some r) ∧ Aside0 (kq ≤ kj75) ∧ Aside0 (Kd.R (Kd.int .u8) 5 wc w.heap.size (fun k_ => some k_ ≠ (u336001 : Value).ownBlock ∧ some k_ ≠ (u336002 : Value).ownBlock) v10 x10_78) ∧ Aside0 (Kd.Q (Kd.int .i64) 2 wc w.heap.size (fun _ => True) u336000 x336000_1) ∧ Aside0 (Kd.Q (Kd.int .u8) 5 wc w.heap.size (fun k_ => some k_ ≠ (v10 : Value).ownBlock ∧ some k_ ≠ (u336002 : Value).ownBlock) u336001 x336001_1) ∧ Aside0 (Kd.Q (Kd.int .u8) 5 wc w.heap.size (fun k_ => some k_ ≠ (v10 : Value).ownBlock ∧ some k_ ≠ (u336001 : Value).ownBlock) u336002 x336002_1) ∧ Aside0 (wc.heap[gb313]? = some (.cells #[(.slice A0_0 l0_0.length c0_0), (.slice A0_1 l0_1.length c0_1), (.slice A0_2 l0_2.length c0_2), (.slice (some ad420) l0_3.length c0_3)] 28 (0, 0))) ∧ Aside0 (IsS55 w wc g335 u336000 u336001 u336002) ∧ Aside0 (IsS43 w wc g418 l0_0 l0_1 l0_2 x419003_78 x419004_78 x419005_78) ∧ Aside0 (Below w.heap.size w wc))
   case first =>
    have H := HC79.out
    clear HC79
    by_cases c80 : x9_56 = 0
    rotate_left
    ·rw [if_neg c80] at H
     have c80b0 : (x9_56 == 0) = false := beq_eq_false_iff_ne.mpr c80
     have c80b1 : (x9_56 != 0) = true := bne_iff_ne.mpr c80
     (first | rw [c80b0] | (simp only [i64_w, i32_w]; rw [c80b0]) | skip)
     have H' := Aside0.mk H
     clear H
     go_wp2
     go_meet
     case rel => exact ⟨_, (([] : List Int)), (x419003_1), (x419004_1), (x419005_1), H', ⟨by have := HK1.out; have := HJ40.out; have := HJ51.out; have := HJ56.out; have := HJ65.out; have := HJ75.out; first | omega | exact Nat.le_refl _⟩, ⟨by first | exact Kd.R_nil _ _ _ _ _ | exact Kd.N_nil _ _ _ _ _ | exact Kd.V_nil _ _ _ _ _ | exact Kd.Q_nil _ _ _ _ _ | exact Kd.S_nil _ _ _ _ _⟩, ⟨by (with_reducible repeat (first | apply Kd.Q_alloc | apply Kd.Q_drewN | apply Kd.Q_drew)); exact HO_336000.out⟩, ⟨by (with_reducible repeat (first | apply Kd.Q_alloc | apply Kd.Q_drewN | apply Kd.Q_drew)); exact Kd.Q_mono HO_336001.out (fun _ hk => ⟨(by simp [Value.ownBlock]), hk⟩)⟩, ⟨by (with_reducible repeat (first | apply Kd.Q_alloc | apply Kd.Q_drewN | apply Kd.Q_drew)); exact Kd.Q_mono HO_336002.out (fun _ hk => ⟨(by simp [Value.ownBlock]), hk⟩)⟩, ⟨by (with_reducible repeat (first | refine blk_drewN ?_ _ | refine blk_drew ?_ | refine blk_alloc ?_ _)); exact BK313.out⟩, ⟨by repeat (first | (with_reducible first | exact HI335.out | apply IsS55.alloc | apply IsS55.drewN | apply IsS55.drew | apply IsS55.set_0 | apply IsS55.set_1 | apply IsS55.set_2 | refine IsS55.far ?_ NB335_313.out _) | exact HI335.out)⟩, ⟨by repeat (first | (with_reducible first | exact HI418.out | apply IsS43.alloc | apply IsS43.drewN | apply IsS43.drew | apply IsS43.set_3 | apply IsS43.set_4 | apply IsS43.set_5 | refine IsS43.far ?_ NB418_313.out _) | exact HI418.out)⟩, ⟨by repeat (first | (with_reducible first | exact HB.out | apply below_alloc | apply pw_below_drewN | apply below_drew1 | refine below_set ?_ (IsS55.ge HI335.out) | refine below_set ?_ (IsS43.ge HI418.out) | refine below_set ?_ GE313.out) | exact HB.out)⟩⟩
    rw [if_pos c80] at H
    have c80b0 : (x9_56 == 0) = true := beq_iff_eq.mpr c80
    have c80b1 : (x9_56 != 0) = false := bne_eq_false_iff_eq.mpr c80
    clear c80
    (first | rw [c80b0] | (simp only [i64_w, i32_w]; rw [c80b0]) | skip)
    replace H := Option.bind_eq_some_iff.mp H
    obtain ⟨⟨t440, t443, t444, t445⟩, A810, H⟩ := H
    replace H : (gangwaylaw23_FeedExact.j6 kj75 x7_1 ((rd_T45 l0_3 x7_1).f1) x9_56 t440 l0_0 l0_1 l0_2 l0_3 x336000_1 x336001_1 x336002_1 l0_0 l0_1 l0_2 t443 t444 t445) = some r := H
    have A81 := Aside0.mk A810
    clear A810
    have H' := Aside0.mk H
    clear H
    go_wp2_with (first | ((with_reducible refine gate_callee (f := 18) rfl ?_); refine goesL_ (some 130) rfl rfl Try.func18 (by kernel_rfl) rfl #[.pointer (some ⟨g418, 0, none⟩), .int .i64 ((rd_T45 l0_3 x7_1).f1)] rfl (by (try simp only [List.map_toArray, List.map_cons, List.map_nil]); first | done | rfl | (simp only [List.length_drop, List.length_take]; rfl)) ?_; (with_reducible refine (gangwayref23_Feed_Random.calls kj75 g418 l0_0 l0_1 l0_2 x419003_1 x419004_1 x419005_1 ((rd_T45 l0_3 x7_1).f1) t440 t443 t444 t445 w _ ?side1 ?side2 A81.out).mono ?_); (case side1 => repeat (first | (with_reducible first | exact HI418.out | apply IsS43.alloc | apply IsS43.drewN | apply IsS43.drew | apply IsS43.set_3 | apply IsS43.set_4 | apply IsS43.set_5 | refine IsS43.far ?_ NB418_313.out _) | exact HI418.out)); (case side2 => repeat (first | (with_reducible first | exact HB.out | apply below_alloc | apply pw_below_drewN | apply below_drew1 | refine below_set ?_ (IsS55.ge HI335.out) | refine below_set ?_ (IsS43.ge HI418.out) | refine below_set ?_ GE313.out) | exact HB.out)); rintro e w82 ⟨v441, rfl, ho0, hi, hb, hk⟩; refine ⟨_, rfl, ?_⟩; have n0_ := Aside0.mk (Kd.Q_mono (Kd.Q_keep (IsS43.apartQ (show IsS43 w _ g418 l0_0 l0_1 l0_2 x419003_1 x419004_1 x419005_1 from by repeat (first | (with_reducible first | exact HI418.out | apply IsS43.alloc | apply IsS43.drewN | apply IsS43.drew | apply IsS43.set_3 | apply IsS43.set_4 | apply IsS43.set_5 | refine IsS43.far ?_ NB418_313.out _) | exact HI418.out)) (by (with_reducible repeat (first | apply Kd.Q_alloc | apply Kd.Q_drewN | apply Kd.Q_drew)); exact HO_336000.out) (by decide)) hk (fun _ h => h.2)) (fun _ h => h.1)); have n1_ := Aside0.mk (Kd.Q_mono (Kd.Q_told (Kd.Q_oldK (IsS43.apartQ (show IsS43 w _ g418 l0_0 l0_1 l0_2 x419003_1 x419004_1 x419005_1 from by repeat (first | (with_reducible first | exact HI418.out | apply IsS43.alloc | apply IsS43.drewN | apply IsS43.drew | apply IsS43.set_3 | apply IsS43.set_4 | apply IsS43.set_5 | refine IsS43.far ?_ NB418_313.out _) | exact HI418.out)) (by (with_reducible repeat (first | apply Kd.Q_alloc | apply Kd.Q_drewN | apply Kd.Q_drew)); exact HO_336001.out) (by decide)) hk) (Kd.R_base ho0)) (fun _ h_ => h_.1)); have n2_ := Aside0.mk (Kd.Q_mono (Kd.Q_told (Kd.Q_oldK (IsS43.apartQ (show IsS43 w _ g418 l0_0 l0_1 l0_2 x419003_1 x419004_1 x419005_1 from by repeat (first | (with_reducible first | exact HI418.out | apply IsS43.alloc | apply IsS43.drewN | apply IsS43.drew | apply IsS43.set_3 | apply IsS43.set_4 | apply IsS43.set_5 | refine IsS43.far ?_ NB418_313.out _) | exact HI418.out)) (by (with_reducible repeat (first | apply Kd.Q_alloc | apply Kd.Q_drewN | apply Kd.Q_drew)); exact HO_336002.out) (by decide)) hk) (Kd.R_base ho0)) (fun _ h_ => h_.1)); have n3_ := Aside0.mk (KeepBut.blk hk (g' := gb313) (o := .cells #[.slice A0_0 l0_0.length c0_0, .slice A0_1 l0_1.length c0_1, .slice A0_2 l0_2.length c0_2, .slice (some ad420) l0_3.length c0_3] 28 (0, 0)) (by (with_reducible repeat (first | refine blk_drewN ?_ _ | refine blk_drew ?_ | refine blk_alloc ?_ _)); exact BK313.out) NB313_418.out (by simp)); have n4_ := Aside0.mk (IsS55.keepb (by repeat (first | (with_reducible first | exact HI335.out | apply IsS55.alloc | apply IsS55.drewN | apply IsS55.drew | apply IsS55.set_0 | apply IsS55.set_1 | apply IsS55.set_2 | refine IsS55.far ?_ NB335_313.out _) | exact HI335.out)) hk NB335_418.out); have n5_ := Aside0.mk (Kd.R_lower (Kd.R_new' (Kd.R_new' ho0 (Kd.Q_lt (by (with_reducible repeat (first | apply Kd.Q_alloc | apply Kd.Q_drewN | apply Kd.Q_drew)); exact HO_336001.out))) (Kd.Q_lt (by (with_reducible repeat (first | apply Kd.Q_alloc | apply Kd.Q_drewN | apply Kd.Q_drew)); exact HO_336002.out))) (below_size (by repeat (first | (with_reducible first | exact HB.out | apply below_alloc | apply pw_below_drewN | apply below_drew1 | refine below_set ?_ (IsS55.ge HI335.out) | refine below_set ?_ (IsS43.ge HI418.out) | refine below_set ?_ GE313.out) | exact HB.out)))); have n6_ := Aside0.mk (hb); have n7_ := Aside0.mk (hi); clear HO_336000; clear HO_336001; clear HO_336002; clear BK313; clear HI335; clear HB; clear HI418; have HO_336000 := n0_; have HO_336001 := n1_; have HO_336002 := n2_; have BK313 := n3_; have HI335 := n4_; have HO442 := n5_; have HB := n6_; have HI418 := n7_; clear n0_ n1_ n2_ n3_ n4_ n5_ n6_ n7_; (try clear hb); (try clear hb2); (try clear hk); (try clear hi); (try clear ho0)))
    go_meet
    case rel => exact ⟨_, (t440), (t443), (t444), (t445), H', ⟨by have := HK1.out; have := HJ40.out; have := HJ51.out; have := HJ56.out; have := HJ65.out; have := HJ75.out; first | omega | exact Nat.le_refl _⟩, ⟨by (with_reducible repeat (first | apply Kd.R_alloc | apply Kd.R_drewN | apply Kd.R_drew)); exact Kd.R_mono HO442.out (fun _ hk => ⟨hk.1.2, hk.2⟩)⟩, ⟨by (with_reducible repeat (first | apply Kd.Q_alloc | apply Kd.Q_drewN | apply Kd.Q_drew)); exact HO_336000.out⟩, ⟨by (with_reducible repeat (first | apply Kd.Q_alloc | apply Kd.Q_drewN | apply Kd.Q_drew)); exact Kd.Q_mono HO_336001.out (fun _ hk => ⟨hk.2, hk.1⟩)⟩, ⟨by (with_reducible repeat (first | apply Kd.Q_alloc | apply Kd.Q_drewN | apply Kd.Q_drew)); exact Kd.Q_mono HO_336002.out (fun _ hk => ⟨hk.2, hk.1⟩)⟩, ⟨by (with_reducible repeat (first | refine blk_drewN ?_ _ | refine blk_drew ?_ | refine blk_alloc ?_ _)); exact BK313.out⟩, ⟨by repeat (first | (with_reducible first | exact HI335.out | apply IsS55.alloc | apply IsS55.drewN | apply IsS55.drew | apply IsS55.set_0 | apply IsS55.set_1 | apply IsS55.set_2 | refine IsS55.far ?_ NB335_313.out _) | exact HI335.out)⟩, ⟨by repeat (first | (with_reducible first | exact HI418.out | apply IsS43.alloc | apply IsS43.drewN | apply IsS43.drew | apply IsS43.set_3 | apply IsS43.set_4 | apply IsS43.set_5 | refine IsS43.far ?_ NB418_313.out _) | exact HI418.out)⟩, ⟨by repeat (first | (with_reducible first | exact HB.out | apply below_alloc | apply pw_below_drewN | apply below_drew1 | refine below_set ?_ (IsS55.ge HI335.out) | refine below_set ?_ (IsS43.ge HI418.out) | refine below_set ?_ GE313.out) | exact HB.out)⟩⟩
   case rest =>
   clear HC79
   try clear c1
   try clear c2
   try clear p2
   try clear c3
   try clear c4
   try clear p4
   try clear q4
   try clear hx4
   try clear c5
   try clear c6
   try clear c7
   try clear c8
   try clear c9
   try clear c10
   try clear c11
   try clear c12
   try clear c13
   try clear c14
   try clear c15
   try clear c16
   try clear c16b0
   try clear c16b1
   try clear c17
   try clear c18
   try clear c24
   try clear c29
   try clear c36
   try clear c42
   try clear c42b0
   try clear p42
   try clear q42
   try clear hx42
   try clear c43
   try clear c44
   try clear c46
   try clear c47
   try clear c49
   try clear c50
   try clear c50b0
   try clear c51
   try clear c51b0
   try clear c53
   try clear c54
   try clear c56
   try clear c56b0
   try clear c58
   try clear c59
   try clear c59b0
   try clear c60
   try clear c60b0
   try clear c63
   try clear c64
   try clear c67
   try clear c67b0
   try clear c67b1
   try clear c68
   try clear c71
   try clear c71b0
   try clear c71b1
   try clear c77
   try clear c77b0
   try clear c77b1
   try clear c78
   try clear c80
   try clear c80b0
   try clear c80b1
   try clear hcz18_0
   try clear hcz18_1
   try clear hcz18_2
   try clear hcz18_3
   try clear hcz20_0
   try clear hcz20_1
   try clear hcz20_2
   try clear hcz20_3
   try clear hcz25_0
   try clear hcz25_1
   try clear hcz25_2
   try clear hcz30_0
   try clear hcz30_1
   try clear hcz30_2
   try clear hcz32_0
   try clear hcz32_1
   try clear hcz32_2
   try clear hcz34_0
   try clear hcz34_1
   try clear hcz34_2
   try clear hcz37_0
   try clear hcz37_1
   try clear hcz37_2
   try clear hcz37_3
   try clear hcz39_0
   try clear hcz39_1
   try clear hcz39_2
   try clear hcz39_3
   try clear hcz45_0
   try clear hcz45_1
   try clear hcz45_2
   try clear hcz45_3
   try clear hcz48_0
   try clear hcz48_1
   try clear hcz48_2
   try clear hcz48_3
   try clear hcz55_0
   try clear hcz55_1
   try clear hcz55_2
   try clear hcz55_3
   try clear hcz5_0
   try clear hcz5_1
   try clear hcz5_2
   try clear hcz5_3
   try clear hcz65_0
   try clear hcz65_1
   try clear hcz65_2
   try clear hcz65_3
   try clear hfz18_0
   try clear hfz18_1
   try clear hfz18_2
   try clear hfz18_3
   try clear hfz20_0
   try clear hfz20_1
   try clear hfz20_2
   try clear hfz20_3
   try clear hfz25_0
   try clear hfz25_1
   try clear hfz25_2
   try clear hfz30_0
   try clear hfz30_1
   try clear hfz30_2
   try clear hfz32_0
   try clear hfz32_1
   try clear hfz32_2
   try clear hfz34_0
   try clear hfz34_1
   try clear hfz34_2
   try clear hfz37_0
   try clear hfz37_1
   try clear hfz37_2
   try clear hfz37_3
   try clear hfz39_0
   try clear hfz39_1
   try clear hfz39_2
   try clear hfz39_3
   try clear hfz45_0
   try clear hfz45_1
   try clear hfz45_2
   try clear hfz45_3
   try clear hfz48_0
   try clear hfz48_1
   try clear hfz48_2
   try clear hfz48_3
   try clear hfz55_0
   try clear hfz55_1
   try clear hfz55_2
   try clear hfz55_3
   try clear hfz5_0
   try clear hfz5_1
   try clear hfz5_2
   try clear hfz5_3
   try clear hfz65_0
   try clear hfz65_1
   try clear hfz65_2
   try clear hfz65_3
   try clear hx420_0
   try clear hx420_1
   try clear hx421_0
   try clear hx421_1
   try clear p2
   try clear p4
   try clear p42
   try clear p420
   try clear p421
   try clear q4
   try clear q42
   try clear q420
   try clear q421
   obtain ⟨kq, x10_78, x419003_78, x419004_78, x419005_78, HA, HJ78, HO_10, HO_336000, HO_336001, HO_336002, BK313, HI335, HI418, HB⟩ := hcut
   cases kq with
   | zero => exact absurd HA.out (by simp [gangwaylaw23_FeedExact.j6])
   | succ kj78 =>
   have H := HA.out
   clear HA
   simp only [gangwaylaw23_FeedExact.j6] at H
   replace H := Option.bind_eq_some_iff.mp H
   obtain ⟨⟨t446, t449, t450, t453, t456⟩, A830, H⟩ := H
   replace H : ((gangwaylaw23_num.f t449).bind fun t459 => (if t459 = x9_56 then ((gangwayref0_EqBytes.f kj78 t446 x10_78).bind fun t460 => (if t460 = true then ((gangwaylaw0_Bytes.f kj78 t446).bind fun _ => (gangwaylaw23_FeedExact.j8 kj78 x7_1 l0_0 l0_1 l0_2 l0_3 t450 t453 t456 l0_0 l0_1 l0_2 x419003_78 x419004_78 x419005_78)) else (none))) else (none))) = some r := H
   have A83 := Aside0.mk A830
   clear A830
   replace H := Option.bind_eq_some_iff.mp H
   obtain ⟨t459, A840, H⟩ := H
   replace H : (if t459 = x9_56 then ((gangwayref0_EqBytes.f kj78 t446 x10_78).bind fun t460 => (if t460 = true then ((gangwaylaw0_Bytes.f kj78 t446).bind fun _ => (gangwaylaw23_FeedExact.j8 kj78 x7_1 l0_0 l0_1 l0_2 l0_3 t450 t453 t456 l0_0 l0_1 l0_2 x419003_78 x419004_78 x419005_78)) else (none))) else (none)) = some r := H
   have A84 := Aside0.mk A840
   clear A840
   by_cases c85 : t459 = x9_56
   rotate_left
   ·rw [if_neg c85] at H
    exact absurd H (by simp)
   rw [if_pos c85] at H
   have c85b0 : (t459 == x9_56) = true := beq_iff_eq.mpr c85
   have c85b1 : (t459 != x9_56) = false := bne_eq_false_iff_eq.mpr c85
   clear c85
   replace H := Option.bind_eq_some_iff.mp H
   obtain ⟨t460, A860, H⟩ := H
   replace H : (if t460 = true then ((gangwaylaw0_Bytes.f kj78 t446).bind fun _ => (gangwaylaw23_FeedExact.j8 kj78 x7_1 l0_0 l0_1 l0_2 l0_3 t450 t453 t456 l0_0 l0_1 l0_2 x419003_78 x419004_78 x419005_78)) else (none)) = some r := H
   have A86 := Aside0.mk A860
   clear A860
   by_cases c87 : t460 = true
   rotate_left
   ·replace c87 := Bool.eq_false_iff.mpr c87
    subst c87
    have H1 : (none) = some r := by rw [if_neg (show ¬ (false = true) by decide)] at H; exact H
    clear H
    have H := H1
    clear H1
    exact absurd H (by simp)
   subst c87
   have H1 : ((gangwaylaw0_Bytes.f kj78 t446).bind fun _ => (gangwaylaw23_FeedExact.j8 kj78 x7_1 l0_0 l0_1 l0_2 l0_3 t450 t453 t456 l0_0 l0_1 l0_2 x419003_78 x419004_78 x419005_78)) = some r := by rw [if_pos rfl] at H; exact H
   clear H
   have H := H1
   clear H1
   replace H := Option.bind_eq_some_iff.mp H
   obtain ⟨_, A880, H⟩ := H
   replace H : (gangwaylaw23_FeedExact.j8 kj78 x7_1 l0_0 l0_1 l0_2 l0_3 t450 t453 t456 l0_0 l0_1 l0_2 x419003_78 x419004_78 x419005_78) = some r := H
   have A88 := Aside0.mk A880
   clear A880
   have H' := Aside0.mk H
   clear H
   go_wp2_with (first | ((with_reducible refine gate_callee (f := 19) rfl ?_); refine goesL_ (some 134) rfl rfl Try.func19 (by kernel_rfl) rfl #[.pointer (some ⟨g335, 0, none⟩), .int .i64 ((rd_T45 l0_3 x7_1).f1)] rfl (by (try simp only [List.map_toArray, List.map_cons, List.map_nil]); first | done | rfl | (simp only [List.length_drop, List.length_take]; rfl)) ?_; (with_reducible refine (feed_Feed_Random.calls g335 (fun k_ => some k_ = (u336000 : Value).ownBlock) u336000 x336000_1 (fun k_ => some k_ = (u336001 : Value).ownBlock) u336001 x336001_1 (fun k_ => some k_ = (u336002 : Value).ownBlock) u336002 x336002_1 ((rd_T45 l0_3 x7_1).f1) t446 t449 t450 t453 t456 w _ ?side1 ?side2 ?side3 ?side4 ?side5 ?side6 ?side7 A83.out).mono ?_); (case side1 => repeat (first | (with_reducible first | exact HI335.out | apply IsS55.alloc | apply IsS55.drewN | apply IsS55.drew | apply IsS55.set_0 | apply IsS55.set_1 | apply IsS55.set_2 | refine IsS55.far ?_ NB335_313.out _) | exact HI335.out)); (case side2 => repeat (first | (with_reducible first | exact HB.out | apply below_alloc | apply pw_below_drewN | apply below_drew1 | refine below_set ?_ (IsS55.ge HI335.out) | refine below_set ?_ (IsS43.ge HI418.out) | refine below_set ?_ GE313.out) | exact HB.out)); (case side3 => exact Kd.Q_tight rfl HO_336000.out); (case side4 => exact Kd.Q_tight rfl HO_336001.out); (case side5 => exact fun k_ e_ => (HO_336001.out.1 k_ e_.symm).2); (case side6 => exact Kd.Q_tight rfl HO_336002.out); (case side7 => exact fun k_ e_ => (HO_336002.out.1 k_ e_.symm).2); rintro e w89 ⟨v447, v451, v454, v457, rfl, ho0, ho1, ho2, ho3, hi, hb, hkp⟩; refine ⟨_, rfl, ?_⟩; have n0_ := Aside0.mk (Kd.R_mono (ok' := fun k_ => some k_ ≠ (v447 : Value).ownBlock ∧ some k_ ≠ (v454 : Value).ownBlock ∧ some k_ ≠ (v457 : Value).ownBlock) (Kd.R_keptB ((IsS55.apart HI335.out (Kd.R_apart' HO_10.out (Kd.Q_typed HO_336000.out) (by decide)) (by decide))) hkp (fun k_ hk_ hs_ => Or.elim hs_ (fun hs_ => Or.elim hs_ (fun e_ => (hk_.1.2) e_) (fun e_ => Or.elim e_ (fun e_ => (hk_.1.1.1) e_) (fun e_ => (hk_.1.1.2) e_))) (fun e_ => (hk_.2) e_))) (fun k_ hk_ => ⟨fun e_ => Or.elim (ho0.1 k_ e_.symm).1 (fun hs_ => hk_.2.1 (.inl hs_)) (fun hn_ => Nat.not_le.2 hk_.2.2 hn_), fun e_ => Or.elim (ho2.1 k_ e_.symm).1 (fun hs_ => hk_.2.1 (.inl hs_)) (fun hn_ => Nat.not_le.2 hk_.2.2 hn_), fun e_ => Or.elim (ho3.1 k_ e_.symm).1 (fun hs_ => hk_.2.1 (.inl hs_)) (fun hn_ => Nat.not_le.2 hk_.2.2 hn_)⟩)); have n1_ := Aside0.mk (blk_kept (o := .cells #[.slice A0_0 l0_0.length c0_0, .slice A0_1 l0_1.length c0_1, .slice A0_2 l0_2.length c0_2, .slice (some ad420) l0_3.length c0_3] 28 (0, 0)) (by (with_reducible repeat (first | refine blk_drewN ?_ _ | refine blk_drew ?_ | refine blk_alloc ?_ _)); exact BK313.out) hkp (fun hs_ => Or.elim hs_ (fun hs_ => Or.elim hs_ (fun e_ => (fun e_ => (Kd.Q_ne HO_336000.out BK313.out (by decide)) e_) e_) (fun e_ => Or.elim e_ (fun e_ => (fun e_ => (Kd.Q_ne HO_336001.out BK313.out (by decide)) e_) e_) (fun e_ => (fun e_ => (Kd.Q_ne HO_336002.out BK313.out (by decide)) e_) e_))) (fun e_ => NB313_335.out e_))); have n2_ := Aside0.mk (hi); have n3_ := Aside0.mk (IsS43.kept (by repeat (first | (with_reducible first | exact HI418.out | apply IsS43.alloc | apply IsS43.drewN | apply IsS43.drew | apply IsS43.set_3 | apply IsS43.set_4 | apply IsS43.set_5 | refine IsS43.far ?_ NB418_313.out _) | exact HI418.out)) hkp (fun hs_ => Or.elim hs_ (fun hs_ => Or.elim hs_ (fun e_ => (fun e_ => (IsS43.own_neQ HI418.out HO_336000.out (by decide)) e_) e_) (fun e_ => Or.elim e_ (fun e_ => (fun e_ => (IsS43.own_neQ HI418.out HO_336001.out (by decide)) e_) e_) (fun e_ => (fun e_ => (IsS43.own_neQ HI418.out HO_336002.out (by decide)) e_) e_))) (fun e_ => NB418_335.out e_))); have n4_ := Aside0.mk (Kd.R_mono (ok' := fun k_ => some k_ ≠ (v454 : Value).ownBlock ∧ some k_ ≠ (v457 : Value).ownBlock ∧ some k_ ≠ (u10 : Value).ownBlock) ho0 (fun k_ hk_ => ⟨hk_.2.1, hk_.2.2, Or.elim hk_.1 (fun hs_ => Or.elim hs_ (fun hs_ => fun e_ => ((((IsS55.apart HI335.out (Kd.R_apart' HO_10.out (Kd.Q_typed HO_336000.out) (by decide)) (by decide))).1 k_ e_.symm).1.2) hs_) (fun hs_ => Or.elim hs_ (fun hs_ => fun e_ => ((((IsS55.apart HI335.out (Kd.R_apart' HO_10.out (Kd.Q_typed HO_336000.out) (by decide)) (by decide))).1 k_ e_.symm).1.1.1) hs_) (fun hs_ => fun e_ => ((((IsS55.apart HI335.out (Kd.R_apart' HO_10.out (Kd.Q_typed HO_336000.out) (by decide)) (by decide))).1 k_ e_.symm).1.1.2) hs_))) (fun hn_ => (Kd.fresh' (Kd.R_lt (by (with_reducible repeat (first | apply Kd.R_alloc | apply Kd.R_drewN | apply Kd.R_drew)); exact HO_10.out)) k_ hn_))⟩)); have n5_ := Aside0.mk (Kd.Q_mono (ok' := fun k_ => True) ho1 (fun k_ hk_ => trivial)); have n6_ := Aside0.mk (Kd.Q_mono (ok' := fun k_ => some k_ ≠ (v447 : Value).ownBlock ∧ some k_ ≠ (v457 : Value).ownBlock ∧ some k_ ≠ (u10 : Value).ownBlock) ho2 (fun k_ hk_ => ⟨hk_.2.1, hk_.2.2, Or.elim hk_.1 (fun hs_ => Or.elim hs_ (fun hs_ => fun e_ => ((((IsS55.apart HI335.out (Kd.R_apart' HO_10.out (Kd.Q_typed HO_336000.out) (by decide)) (by decide))).1 k_ e_.symm).1.2) hs_) (fun hs_ => Or.elim hs_ (fun hs_ => fun e_ => ((((IsS55.apart HI335.out (Kd.R_apart' HO_10.out (Kd.Q_typed HO_336000.out) (by decide)) (by decide))).1 k_ e_.symm).1.1.1) hs_) (fun hs_ => fun e_ => ((((IsS55.apart HI335.out (Kd.R_apart' HO_10.out (Kd.Q_typed HO_336000.out) (by decide)) (by decide))).1 k_ e_.symm).1.1.2) hs_))) (fun hn_ => (Kd.fresh' (Kd.R_lt (by (with_reducible repeat (first | apply Kd.R_alloc | apply Kd.R_drewN | apply Kd.R_drew)); exact HO_10.out)) k_ hn_))⟩)); have n7_ := Aside0.mk (Kd.Q_mono (ok' := fun k_ => some k_ ≠ (v447 : Value).ownBlock ∧ some k_ ≠ (v454 : Value).ownBlock ∧ some k_ ≠ (u10 : Value).ownBlock) ho3 (fun k_ hk_ => ⟨hk_.2.1, hk_.2.2, Or.elim hk_.1 (fun hs_ => Or.elim hs_ (fun hs_ => fun e_ => ((((IsS55.apart HI335.out (Kd.R_apart' HO_10.out (Kd.Q_typed HO_336000.out) (by decide)) (by decide))).1 k_ e_.symm).1.2) hs_) (fun hs_ => Or.elim hs_ (fun hs_ => fun e_ => ((((IsS55.apart HI335.out (Kd.R_apart' HO_10.out (Kd.Q_typed HO_336000.out) (by decide)) (by decide))).1 k_ e_.symm).1.1.1) hs_) (fun hs_ => fun e_ => ((((IsS55.apart HI335.out (Kd.R_apart' HO_10.out (Kd.Q_typed HO_336000.out) (by decide)) (by decide))).1 k_ e_.symm).1.1.2) hs_))) (fun hn_ => (Kd.fresh' (Kd.R_lt (by (with_reducible repeat (first | apply Kd.R_alloc | apply Kd.R_drewN | apply Kd.R_drew)); exact HO_10.out)) k_ hn_))⟩)); have n8_ := Aside0.mk (hb); clear HO_10; clear BK313; clear HI335; clear HI418; clear HB; clear HO_336000; clear HO_336001; clear HO_336002; have HO_10 := n0_; have BK313 := n1_; have HI335 := n2_; have HI418 := n3_; have HO448 := n4_; have HO452 := n5_; have HO455 := n6_; have HO458 := n7_; have HB := n8_; clear n0_ n1_ n2_ n3_ n4_ n5_ n6_ n7_ n8_; (try clear hb); (try clear hkp); (try clear ho0); (try clear ho1); (try clear ho2); (try clear ho3)) | ((with_reducible refine gate_callee (f := 8) rfl ?_); refine goesL_ (some 138) rfl rfl Try.func8 (by kernel_rfl) rfl #[.int .i64 t449] rfl (by (try simp only [List.map_toArray, List.map_cons, List.map_nil]); first | done | rfl | (simp only [List.length_drop, List.length_take]; rfl)) ?_; (with_reducible refine (gangwaylaw23_num.calls t449 t459 _ A84.out).mono ?_); rintro e w' ⟨rfl, ⟨nd, rfl⟩⟩; refine ⟨_, rfl, ?_⟩; obtain ⟨Ao90, co90, eo90⟩ := Kd.R_slice HO448.out; subst eo90; obtain ⟨Ao91, co91, eo91⟩ := Kd.R_slice HO_10.out; subst eo91) | (go_at_call 20; (with_reducible refine (gangwayref0_EqBytes.calls kj78 _ _ t446 _ _ x10_78 true _ ?side1 ?side2 ?side3 ?side4 A86.out).mono ?_); (case side1 => repeat (first | exact (Kd.R_reads' HO448.out).2.2 | (with_reducible refine Kd.C_alloc ?_ _) | (with_reducible refine Kd.C_drewN ?_ _) | (with_reducible refine Kd.C_drew ?_))); (case side2 => exact (Kd.R_reads' HO448.out).2.1); (case side3 => repeat (first | exact (Kd.R_reads' HO_10.out).2.2 | (with_reducible refine Kd.C_alloc ?_ _) | (with_reducible refine Kd.C_drewN ?_ _) | (with_reducible refine Kd.C_drew ?_))); (case side4 => exact (Kd.R_reads' HO_10.out).2.1); rintro e w' ⟨rfl, ⟨nd, rfl⟩⟩) | ((with_reducible refine gate_callee (f := 13) rfl ?_); refine goesL_ (some 148) rfl rfl Try.func13 (by kernel_rfl) rfl #[.slice Ao90 t446.length co90] rfl (by (try simp only [List.map_toArray, List.map_cons, List.map_nil]); first | done | rfl | (simp only [List.length_drop, List.length_take]; rfl)) ?_; (with_reducible refine (gangwaylaw0_Bytes.calls kj78 (fun k_ => some k_ = (.slice Ao90 t446.length co90 : Value).ownBlock) (.slice Ao90 t446.length co90) t446  w _ ?side1 ?side2 A88.out).mono ?_); (case side1 => repeat (first | (with_reducible first | exact HB.out | apply below_alloc | apply pw_below_drewN | apply below_drew1 | refine below_set ?_ (IsS55.ge HI335.out) | refine below_set ?_ (IsS43.ge HI418.out) | refine below_set ?_ GE313.out) | exact HB.out)); (case side2 => exact Kd.R_tight rfl HO448.out); rintro e w92 ⟨rfl, hb, hkp⟩; refine ⟨_, rfl, ?_⟩; have n0_ := Aside0.mk (Kd.R_mono (ok' := fun k_ => some k_ ≠ (v454 : Value).ownBlock ∧ some k_ ≠ (v457 : Value).ownBlock) (Kd.R_keptB (HO_10.out) hkp (fun k_ hk_ hs_ => (hk_.1) hs_)) (fun k_ hk_ => ⟨hk_.1.2.1, hk_.1.2.2⟩)); have n1_ := Aside0.mk (blk_kept (o := .cells #[.slice A0_0 l0_0.length c0_0, .slice A0_1 l0_1.length c0_1, .slice A0_2 l0_2.length c0_2, .slice (some ad420) l0_3.length c0_3] 28 (0, 0)) (by (with_reducible repeat (first | refine blk_drewN ?_ _ | refine blk_drew ?_ | refine blk_alloc ?_ _)); exact BK313.out) hkp (fun hs_ => (fun e_ => (Kd.R_ne HO448.out BK313.out (by decide)) e_) hs_)); have n2_ := Aside0.mk (IsS55.kept (by repeat (first | (with_reducible first | exact HI335.out | apply IsS55.alloc | apply IsS55.drewN | apply IsS55.drew | apply IsS55.set_0 | apply IsS55.set_1 | apply IsS55.set_2 | refine IsS55.far ?_ NB335_313.out _) | exact HI335.out)) hkp (fun hs_ => (fun e_ => (IsS55.own_ne HI335.out HO448.out (by decide)) e_) hs_)); have n3_ := Aside0.mk (IsS43.kept (by repeat (first | (with_reducible first | exact HI418.out | apply IsS43.alloc | apply IsS43.drewN | apply IsS43.drew | apply IsS43.set_3 | apply IsS43.set_4 | apply IsS43.set_5 | refine IsS43.far ?_ NB418_313.out _) | exact HI418.out)) hkp (fun hs_ => (fun e_ => (IsS43.own_ne HI418.out HO448.out (by decide)) e_) hs_)); have n4_ := Aside0.mk (Kd.Q_mono (ok' := fun k_ => True) (Kd.Q_keptB ((Kd.Q_apart' HO452.out (Kd.R_typed HO448.out) (by decide))) hkp (fun k_ hk_ hs_ => (hk_.2) hs_)) (fun k_ hk_ => trivial)); have n5_ := Aside0.mk (Kd.Q_mono (ok' := fun k_ => some k_ ≠ (.slice Ao91 x10_78.length co91 : Value).ownBlock ∧ some k_ ≠ (v457 : Value).ownBlock) (Kd.Q_keptB (HO455.out) hkp (fun k_ hk_ hs_ => (hk_.1) hs_)) (fun k_ hk_ => ⟨hk_.1.2.2, hk_.1.2.1⟩)); have n6_ := Aside0.mk (Kd.Q_mono (ok' := fun k_ => some k_ ≠ (.slice Ao91 x10_78.length co91 : Value).ownBlock ∧ some k_ ≠ (v454 : Value).ownBlock) (Kd.Q_keptB (HO458.out) hkp (fun k_ hk_ hs_ => (hk_.1) hs_)) (fun k_ hk_ => ⟨hk_.1.2.2, hk_.1.2.1⟩)); have n7_ := Aside0.mk (hb); clear HO_10; clear BK313; clear HI335; clear HI418; clear HO452; clear HO455; clear HO458; clear HB; clear HO448; have HO_10 := n0_; have BK313 := n1_; have HI335 := n2_; have HI418 := n3_; have HO452 := n4_; have HO455 := n5_; have HO458 := n6_; have HB := n7_; clear n0_ n1_ n2_ n3_ n4_ n5_ n6_ n7_; (try clear hb); (try clear hkp)))
   go_meet
   case rel => exact ⟨_, (t450), (t453), (t456), (x419003_78), (x419004_78), (x419005_78), (v451), (v454), (v457), H', ⟨by have := HK1.out; have := HJ40.out; have := HJ51.out; have := HJ56.out; have := HJ65.out; have := HJ75.out; have := HJ78.out; first | omega | exact Nat.le_refl _⟩, ⟨by (with_reducible repeat (first | apply Kd.Q_alloc | apply Kd.Q_drewN | apply Kd.Q_drew)); exact HO452.out⟩, ⟨by (with_reducible repeat (first | apply Kd.Q_alloc | apply Kd.Q_drewN | apply Kd.Q_drew)); exact Kd.Q_mono HO455.out (fun _ hk => hk.2)⟩, ⟨by (with_reducible repeat (first | apply Kd.Q_alloc | apply Kd.Q_drewN | apply Kd.Q_drew)); exact Kd.Q_mono HO458.out (fun _ hk => hk.2)⟩, ⟨by (with_reducible repeat (first | refine blk_drewN ?_ _ | refine blk_drew ?_ | refine blk_alloc ?_ _)); exact BK313.out⟩, ⟨by repeat (first | (with_reducible first | exact HI335.out | apply IsS55.alloc | apply IsS55.drewN | apply IsS55.drew | apply IsS55.set_0 | apply IsS55.set_1 | apply IsS55.set_2 | refine IsS55.far ?_ NB335_313.out _) | exact HI335.out)⟩, ⟨by repeat (first | (with_reducible first | exact HI418.out | apply IsS43.alloc | apply IsS43.drewN | apply IsS43.drew | apply IsS43.set_3 | apply IsS43.set_4 | apply IsS43.set_5 | refine IsS43.far ?_ NB418_313.out _) | exact HI418.out)⟩, ⟨by repeat (first | (with_reducible first | exact HB.out | apply below_alloc | apply pw_below_drewN | apply below_drew1 | refine below_set ?_ (IsS55.ge HI335.out) | refine below_set ?_ (IsS43.ge HI418.out) | refine below_set ?_ GE313.out) | exact HB.out)⟩⟩
  replace c78 := Bool.eq_false_iff.mpr c78
  subst c78
  have H1 : (if x9_56 = 0 then ((gangwayref23_Feed_Stdin.f kj75 l0_0 l0_1 l0_2 x419003_1 x419004_1 x419005_1 ((rd_T45 l0_3 x7_1).f1)).bind fun bt461 => (gangwaylaw23_FeedExact.j7 kj75 x7_1 ((rd_T45 l0_3 x7_1).f1) x9_56 bt461.1 l0_0 l0_1 l0_2 l0_3 x336000_1 x336001_1 x336002_1 l0_0 l0_1 l0_2 bt461.2.1 bt461.2.2.1 bt461.2.2.2)) else (gangwaylaw23_FeedExact.j7 kj75 x7_1 ((rd_T45 l0_3 x7_1).f1) x9_56 ([] : List Int) l0_0 l0_1 l0_2 l0_3 x336000_1 x336001_1 x336002_1 l0_0 l0_1 l0_2 x419003_1 x419004_1 x419005_1)) = some r := by rw [if_neg (show ¬ (false = true) by decide)] at H; exact H
  clear H
  have H := H1
  clear H1
  have HC93 := Aside0.mk H
  clear H
  go_upto_if 91 with (fail)
  go_cut [13] (fun v13 wc => ∃ (kq : Nat) (x13_92 : List Int) (x419003_92 : Int) (x419004_92 : Int) (x419005_92 : Int), Aside0 (gangwaylaw23_FeedExact.j7 kq x7_1 ((rd_T45 l0_3 x7_1).f1) x9_56 x13_92 l0_0 l0_1 l0_2 l0_3 x336000_1 x336001_1 x336002_1 l0_0 l0_1 l0_2 x419003_92 x419004_92 x419005_92 = some r) ∧ Aside0 (kq ≤ kj75) ∧ Aside0 (Kd.R (Kd.int .u8) 5 wc w.heap.size (fun k_ => some k_ ≠ (u336001 : Value).ownBlock ∧ some k_ ≠ (u336002 : Value).ownBlock) v13 x13_92) ∧ Aside0 (Kd.Q (Kd.int .i64) 2 wc w.heap.size (fun _ => True) u336000 x336000_1) ∧ Aside0 (Kd.Q (Kd.int .u8) 5 wc w.heap.size (fun k_ => some k_ ≠ (v13 : Value).ownBlock ∧ some k_ ≠ (u336002 : Value).ownBlock) u336001 x336001_1) ∧ Aside0 (Kd.Q (Kd.int .u8) 5 wc w.heap.size (fun k_ => some k_ ≠ (v13 : Value).ownBlock ∧ some k_ ≠ (u336001 : Value).ownBlock) u336002 x336002_1) ∧ Aside0 (wc.heap[gb313]? = some (.cells #[(.slice A0_0 l0_0.length c0_0), (.slice A0_1 l0_1.length c0_1), (.slice A0_2 l0_2.length c0_2), (.slice (some ad420) l0_3.length c0_3)] 28 (0, 0))) ∧ Aside0 (IsS55 w wc g335 u336000 u336001 u336002) ∧ Aside0 (IsS43 w wc g418 l0_0 l0_1 l0_2 x419003_92 x419004_92 x419005_92) ∧ Aside0 (Below w.heap.size w wc))
  case first =>
   have H := HC93.out
   clear HC93
   by_cases c94 : x9_56 = 0
   rotate_left
   ·rw [if_neg c94] at H
    have c94b0 : (x9_56 == 0) = false := beq_eq_false_iff_ne.mpr c94
    have c94b1 : (x9_56 != 0) = true := bne_iff_ne.mpr c94
    (first | rw [c94b0] | (simp only [i64_w, i32_w]; rw [c94b0]) | skip)
    have H' := Aside0.mk H
    clear H
    go_wp2
    go_meet
    case rel => exact ⟨_, (([] : List Int)), (x419003_1), (x419004_1), (x419005_1), H', ⟨by have := HK1.out; have := HJ40.out; have := HJ51.out; have := HJ56.out; have := HJ65.out; have := HJ75.out; first | omega | exact Nat.le_refl _⟩, ⟨by first | exact Kd.R_nil _ _ _ _ _ | exact Kd.N_nil _ _ _ _ _ | exact Kd.V_nil _ _ _ _ _ | exact Kd.Q_nil _ _ _ _ _ | exact Kd.S_nil _ _ _ _ _⟩, ⟨by (with_reducible repeat (first | apply Kd.Q_alloc | apply Kd.Q_drewN | apply Kd.Q_drew)); exact HO_336000.out⟩, ⟨by (with_reducible repeat (first | apply Kd.Q_alloc | apply Kd.Q_drewN | apply Kd.Q_drew)); exact Kd.Q_mono HO_336001.out (fun _ hk => ⟨(by simp [Value.ownBlock]), hk⟩)⟩, ⟨by (with_reducible repeat (first | apply Kd.Q_alloc | apply Kd.Q_drewN | apply Kd.Q_drew)); exact Kd.Q_mono HO_336002.out (fun _ hk => ⟨(by simp [Value.ownBlock]), hk⟩)⟩, ⟨by (with_reducible repeat (first | refine blk_drewN ?_ _ | refine blk_drew ?_ | refine blk_alloc ?_ _)); exact BK313.out⟩, ⟨by repeat (first | (with_reducible first | exact HI335.out | apply IsS55.alloc | apply IsS55.drewN | apply IsS55.drew | apply IsS55.set_0 | apply IsS55.set_1 | apply IsS55.set_2 | refine IsS55.far ?_ NB335_313.out _) | exact HI335.out)⟩, ⟨by repeat (first | (with_reducible first | exact HI418.out | apply IsS43.alloc | apply IsS43.drewN | apply IsS43.drew | apply IsS43.set_3 | apply IsS43.set_4 | apply IsS43.set_5 | refine IsS43.far ?_ NB418_313.out _) | exact HI418.out)⟩, ⟨by repeat (first | (with_reducible first | exact HB.out | apply below_alloc | apply pw_below_drewN | apply below_drew1 | refine below_set ?_ (IsS55.ge HI335.out) | refine below_set ?_ (IsS43.ge HI418.out) | refine below_set ?_ GE313.out) | exact HB.out)⟩⟩
   rw [if_pos c94] at H
   have c94b0 : (x9_56 == 0) = true := beq_iff_eq.mpr c94
   have c94b1 : (x9_56 != 0) = false := bne_eq_false_iff_eq.mpr c94
   clear c94
   (first | rw [c94b0] | (simp only [i64_w, i32_w]; rw [c94b0]) | skip)
   replace H := Option.bind_eq_some_iff.mp H
   obtain ⟨⟨t461, t464, t465, t466⟩, A950, H⟩ := H
   replace H : (gangwaylaw23_FeedExact.j7 kj75 x7_1 ((rd_T45 l0_3 x7_1).f1) x9_56 t461 l0_0 l0_1 l0_2 l0_3 x336000_1 x336001_1 x336002_1 l0_0 l0_1 l0_2 t464 t465 t466) = some r := H
   have A95 := Aside0.mk A950
   clear A950
   have H' := Aside0.mk H
   clear H
   go_wp2_with (first | ((with_reducible refine gate_callee (f := 21) rfl ?_); refine goesL_ (some 94) rfl rfl Try.func21 (by kernel_rfl) rfl #[.pointer (some ⟨g418, 0, none⟩), .int .i64 ((rd_T45 l0_3 x7_1).f1)] rfl (by (try simp only [List.map_toArray, List.map_cons, List.map_nil]); first | done | rfl | (simp only [List.length_drop, List.length_take]; rfl)) ?_; (with_reducible refine (gangwayref23_Feed_Stdin.calls kj75 g418 l0_0 l0_1 l0_2 x419003_1 x419004_1 x419005_1 ((rd_T45 l0_3 x7_1).f1) t461 t464 t465 t466 w _ ?side1 ?side2 A95.out).mono ?_); (case side1 => repeat (first | (with_reducible first | exact HI418.out | apply IsS43.alloc | apply IsS43.drewN | apply IsS43.drew | apply IsS43.set_3 | apply IsS43.set_4 | apply IsS43.set_5 | refine IsS43.far ?_ NB418_313.out _) | exact HI418.out)); (case side2 => repeat (first | (with_reducible first | exact HB.out | apply below_alloc | apply pw_below_drewN | apply below_drew1 | refine below_set ?_ (IsS55.ge HI335.out) | refine below_set ?_ (IsS43.ge HI418.out) | refine below_set ?_ GE313.out) | exact HB.out)); rintro e w96 ⟨v462, rfl, ho0, hi, hb, hk⟩; refine ⟨_, rfl, ?_⟩; have n0_ := Aside0.mk (Kd.Q_mono (Kd.Q_keep (IsS43.apartQ (show IsS43 w _ g418 l0_0 l0_1 l0_2 x419003_1 x419004_1 x419005_1 from by repeat (first | (with_reducible first | exact HI418.out | apply IsS43.alloc | apply IsS43.drewN | apply IsS43.drew | apply IsS43.set_3 | apply IsS43.set_4 | apply IsS43.set_5 | refine IsS43.far ?_ NB418_313.out _) | exact HI418.out)) (by (with_reducible repeat (first | apply Kd.Q_alloc | apply Kd.Q_drewN | apply Kd.Q_drew)); exact HO_336000.out) (by decide)) hk (fun _ h => h.2)) (fun _ h => h.1)); have n1_ := Aside0.mk (Kd.Q_mono (Kd.Q_told (Kd.Q_oldK (IsS43.apartQ (show IsS43 w _ g418 l0_0 l0_1 l0_2 x419003_1 x419004_1 x419005_1 from by repeat (first | (with_reducible first | exact HI418.out | apply IsS43.alloc | apply IsS43.drewN | apply IsS43.drew | apply IsS43.set_3 | apply IsS43.set_4 | apply IsS43.set_5 | refine IsS43.far ?_ NB418_313.out _) | exact HI418.out)) (by (with_reducible repeat (first | apply Kd.Q_alloc | apply Kd.Q_drewN | apply Kd.Q_drew)); exact HO_336001.out) (by decide)) hk) (Kd.R_base ho0)) (fun _ h_ => h_.1)); have n2_ := Aside0.mk (Kd.Q_mono (Kd.Q_told (Kd.Q_oldK (IsS43.apartQ (show IsS43 w _ g418 l0_0 l0_1 l0_2 x419003_1 x419004_1 x419005_1 from by repeat (first | (with_reducible first | exact HI418.out | apply IsS43.alloc | apply IsS43.drewN | apply IsS43.drew | apply IsS43.set_3 | apply IsS43.set_4 | apply IsS43.set_5 | refine IsS43.far ?_ NB418_313.out _) | exact HI418.out)) (by (with_reducible repeat (first | apply Kd.Q_alloc | apply Kd.Q_drewN | apply Kd.Q_drew)); exact HO_336002.out) (by decide)) hk) (Kd.R_base ho0)) (fun _ h_ => h_.1)); have n3_ := Aside0.mk (KeepBut.blk hk (g' := gb313) (o := .cells #[.slice A0_0 l0_0.length c0_0, .slice A0_1 l0_1.length c0_1, .slice A0_2 l0_2.length c0_2, .slice (some ad420) l0_3.length c0_3] 28 (0, 0)) (by (with_reducible repeat (first | refine blk_drewN ?_ _ | refine blk_drew ?_ | refine blk_alloc ?_ _)); exact BK313.out) NB313_418.out (by simp)); have n4_ := Aside0.mk (IsS55.keepb (by repeat (first | (with_reducible first | exact HI335.out | apply IsS55.alloc | apply IsS55.drewN | apply IsS55.drew | apply IsS55.set_0 | apply IsS55.set_1 | apply IsS55.set_2 | refine IsS55.far ?_ NB335_313.out _) | exact HI335.out)) hk NB335_418.out); have n5_ := Aside0.mk (Kd.R_lower (Kd.R_new' (Kd.R_new' ho0 (Kd.Q_lt (by (with_reducible repeat (first | apply Kd.Q_alloc | apply Kd.Q_drewN | apply Kd.Q_drew)); exact HO_336001.out))) (Kd.Q_lt (by (with_reducible repeat (first | apply Kd.Q_alloc | apply Kd.Q_drewN | apply Kd.Q_drew)); exact HO_336002.out))) (below_size (by repeat (first | (with_reducible first | exact HB.out | apply below_alloc | apply pw_below_drewN | apply below_drew1 | refine below_set ?_ (IsS55.ge HI335.out) | refine below_set ?_ (IsS43.ge HI418.out) | refine below_set ?_ GE313.out) | exact HB.out)))); have n6_ := Aside0.mk (hb); have n7_ := Aside0.mk (hi); clear HO_336000; clear HO_336001; clear HO_336002; clear BK313; clear HI335; clear HB; clear HI418; have HO_336000 := n0_; have HO_336001 := n1_; have HO_336002 := n2_; have BK313 := n3_; have HI335 := n4_; have HO463 := n5_; have HB := n6_; have HI418 := n7_; clear n0_ n1_ n2_ n3_ n4_ n5_ n6_ n7_; (try clear hb); (try clear hb2); (try clear hk); (try clear hi); (try clear ho0)))
   go_meet
   case rel => exact ⟨_, (t461), (t464), (t465), (t466), H', ⟨by have := HK1.out; have := HJ40.out; have := HJ51.out; have := HJ56.out; have := HJ65.out; have := HJ75.out; first | omega | exact Nat.le_refl _⟩, ⟨by (with_reducible repeat (first | apply Kd.R_alloc | apply Kd.R_drewN | apply Kd.R_drew)); exact Kd.R_mono HO463.out (fun _ hk => ⟨hk.1.2, hk.2⟩)⟩, ⟨by (with_reducible repeat (first | apply Kd.Q_alloc | apply Kd.Q_drewN | apply Kd.Q_drew)); exact HO_336000.out⟩, ⟨by (with_reducible repeat (first | apply Kd.Q_alloc | apply Kd.Q_drewN | apply Kd.Q_drew)); exact Kd.Q_mono HO_336001.out (fun _ hk => ⟨hk.2, hk.1⟩)⟩, ⟨by (with_reducible repeat (first | apply Kd.Q_alloc | apply Kd.Q_drewN | apply Kd.Q_drew)); exact Kd.Q_mono HO_336002.out (fun _ hk => ⟨hk.2, hk.1⟩)⟩, ⟨by (with_reducible repeat (first | refine blk_drewN ?_ _ | refine blk_drew ?_ | refine blk_alloc ?_ _)); exact BK313.out⟩, ⟨by repeat (first | (with_reducible first | exact HI335.out | apply IsS55.alloc | apply IsS55.drewN | apply IsS55.drew | apply IsS55.set_0 | apply IsS55.set_1 | apply IsS55.set_2 | refine IsS55.far ?_ NB335_313.out _) | exact HI335.out)⟩, ⟨by repeat (first | (with_reducible first | exact HI418.out | apply IsS43.alloc | apply IsS43.drewN | apply IsS43.drew | apply IsS43.set_3 | apply IsS43.set_4 | apply IsS43.set_5 | refine IsS43.far ?_ NB418_313.out _) | exact HI418.out)⟩, ⟨by repeat (first | (with_reducible first | exact HB.out | apply below_alloc | apply pw_below_drewN | apply below_drew1 | refine below_set ?_ (IsS55.ge HI335.out) | refine below_set ?_ (IsS43.ge HI418.out) | refine below_set ?_ GE313.out) | exact HB.out)⟩⟩
  case rest =>
  clear HC93
  try clear c1
  try clear c2
  try clear p2
  try clear c3
  try clear c4
  try clear p4
  try clear q4
  try clear hx4
  try clear c5
  try clear c6
  try clear c7
  try clear c8
  try clear c9
  try clear c10
  try clear c11
  try clear c12
  try clear c13
  try clear c14
  try clear c15
  try clear c16
  try clear c16b0
  try clear c16b1
  try clear c17
  try clear c18
  try clear c19
  try clear c21
  try clear c24
  try clear c29
  try clear c36
  try clear c42
  try clear c42b0
  try clear p42
  try clear q42
  try clear hx42
  try clear c43
  try clear c44
  try clear c46
  try clear c47
  try clear c49
  try clear c50
  try clear c50b0
  try clear c51
  try clear c51b0
  try clear c53
  try clear c54
  try clear c56
  try clear c56b0
  try clear c58
  try clear c59
  try clear c59b0
  try clear c60
  try clear c60b0
  try clear c63
  try clear c64
  try clear c67
  try clear c67b0
  try clear c67b1
  try clear c68
  try clear c71
  try clear c71b0
  try clear c71b1
  try clear c77
  try clear c77b0
  try clear c77b1
  try clear c78
  try clear c80
  try clear c80b0
  try clear c80b1
  try clear c85
  try clear c85b0
  try clear c85b1
  try clear c87
  try clear c94
  try clear c94b0
  try clear c94b1
  try clear hcz18_0
  try clear hcz18_1
  try clear hcz18_2
  try clear hcz18_3
  try clear hcz20_0
  try clear hcz20_1
  try clear hcz20_2
  try clear hcz20_3
  try clear hcz25_0
  try clear hcz25_1
  try clear hcz25_2
  try clear hcz30_0
  try clear hcz30_1
  try clear hcz30_2
  try clear hcz32_0
  try clear hcz32_1
  try clear hcz32_2
  try clear hcz34_0
  try clear hcz34_1
  try clear hcz34_2
  try clear hcz37_0
  try clear hcz37_1
  try clear hcz37_2
  try clear hcz37_3
  try clear hcz39_0
  try clear hcz39_1
  try clear hcz39_2
  try clear hcz39_3
  try clear hcz45_0
  try clear hcz45_1
  try clear hcz45_2
  try clear hcz45_3
  try clear hcz48_0
  try clear hcz48_1
  try clear hcz48_2
  try clear hcz48_3
  try clear hcz55_0
  try clear hcz55_1
  try clear hcz55_2
  try clear hcz55_3
  try clear hcz5_0
  try clear hcz5_1
  try clear hcz5_2
  try clear hcz5_3
  try clear hcz65_0
  try clear hcz65_1
  try clear hcz65_2
  try clear hcz65_3
  try clear hfz18_0
  try clear hfz18_1
  try clear hfz18_2
  try clear hfz18_3
  try clear hfz20_0
  try clear hfz20_1
  try clear hfz20_2
  try clear hfz20_3
  try clear hfz25_0
  try clear hfz25_1
  try clear hfz25_2
  try clear hfz30_0
  try clear hfz30_1
  try clear hfz30_2
  try clear hfz32_0
  try clear hfz32_1
  try clear hfz32_2
  try clear hfz34_0
  try clear hfz34_1
  try clear hfz34_2
  try clear hfz37_0
  try clear hfz37_1
  try clear hfz37_2
  try clear hfz37_3
  try clear hfz39_0
  try clear hfz39_1
  try clear hfz39_2
  try clear hfz39_3
  try clear hfz45_0
  try clear hfz45_1
  try clear hfz45_2
  try clear hfz45_3
  try clear hfz48_0
  try clear hfz48_1
  try clear hfz48_2
  try clear hfz48_3
  try clear hfz55_0
  try clear hfz55_1
  try clear hfz55_2
  try clear hfz55_3
  try clear hfz5_0
  try clear hfz5_1
  try clear hfz5_2
  try clear hfz5_3
  try clear hfz65_0
  try clear hfz65_1
  try clear hfz65_2
  try clear hfz65_3
  try clear hx420_0
  try clear hx420_1
  try clear hx421_0
  try clear hx421_1
  try clear p2
  try clear p4
  try clear p42
  try clear p420
  try clear p421
  try clear q4
  try clear q42
  try clear q420
  try clear q421
  obtain ⟨kq, x13_92, x419003_92, x419004_92, x419005_92, HA, HJ92, HO_13, HO_336000, HO_336001, HO_336002, BK313, HI335, HI418, HB⟩ := hcut
  cases kq with
  | zero => exact absurd HA.out (by simp [gangwaylaw23_FeedExact.j7])
  | succ kj92 =>
  have H := HA.out
  clear HA
  simp only [gangwaylaw23_FeedExact.j7] at H
  replace H := Option.bind_eq_some_iff.mp H
  obtain ⟨⟨t467, t470, t471, t474, t477⟩, A970, H⟩ := H
  replace H : ((gangwaylaw23_num.f t470).bind fun t480 => (if t480 = x9_56 then ((gangwayref0_EqBytes.f kj92 t467 x13_92).bind fun t481 => (if t481 = true then ((gangwaylaw0_Bytes.f kj92 t467).bind fun _ => (gangwaylaw23_FeedExact.j8 kj92 x7_1 l0_0 l0_1 l0_2 l0_3 t471 t474 t477 l0_0 l0_1 l0_2 x419003_92 x419004_92 x419005_92)) else (none))) else (none))) = some r := H
  have A97 := Aside0.mk A970
  clear A970
  replace H := Option.bind_eq_some_iff.mp H
  obtain ⟨t480, A980, H⟩ := H
  replace H : (if t480 = x9_56 then ((gangwayref0_EqBytes.f kj92 t467 x13_92).bind fun t481 => (if t481 = true then ((gangwaylaw0_Bytes.f kj92 t467).bind fun _ => (gangwaylaw23_FeedExact.j8 kj92 x7_1 l0_0 l0_1 l0_2 l0_3 t471 t474 t477 l0_0 l0_1 l0_2 x419003_92 x419004_92 x419005_92)) else (none))) else (none)) = some r := H
  have A98 := Aside0.mk A980
  clear A980
  by_cases c99 : t480 = x9_56
  rotate_left
  ·rw [if_neg c99] at H
   exact absurd H (by simp)
  rw [if_pos c99] at H
  have c99b0 : (t480 == x9_56) = true := beq_iff_eq.mpr c99
  have c99b1 : (t480 != x9_56) = false := bne_eq_false_iff_eq.mpr c99
  clear c99
  replace H := Option.bind_eq_some_iff.mp H
  obtain ⟨t481, A1000, H⟩ := H
  replace H : (if t481 = true then ((gangwaylaw0_Bytes.f kj92 t467).bind fun _ => (gangwaylaw23_FeedExact.j8 kj92 x7_1 l0_0 l0_1 l0_2 l0_3 t471 t474 t477 l0_0 l0_1 l0_2 x419003_92 x419004_92 x419005_92)) else (none)) = some r := H
  have A100 := Aside0.mk A1000
  clear A1000
  by_cases c101 : t481 = true
  rotate_left
  ·replace c101 := Bool.eq_false_iff.mpr c101
   subst c101
   have H1 : (none) = some r := by rw [if_neg (show ¬ (false = true) by decide)] at H; exact H
   clear H
   have H := H1
   clear H1
   exact absurd H (by simp)
  subst c101
  have H1 : ((gangwaylaw0_Bytes.f kj92 t467).bind fun _ => (gangwaylaw23_FeedExact.j8 kj92 x7_1 l0_0 l0_1 l0_2 l0_3 t471 t474 t477 l0_0 l0_1 l0_2 x419003_92 x419004_92 x419005_92)) = some r := by rw [if_pos rfl] at H; exact H
  clear H
  have H := H1
  clear H1
  replace H := Option.bind_eq_some_iff.mp H
  obtain ⟨_, A1020, H⟩ := H
  replace H : (gangwaylaw23_FeedExact.j8 kj92 x7_1 l0_0 l0_1 l0_2 l0_3 t471 t474 t477 l0_0 l0_1 l0_2 x419003_92 x419004_92 x419005_92) = some r := H
  have A102 := Aside0.mk A1020
  clear A1020
  have H' := Aside0.mk H
  clear H
  go_wp2_with (first | ((with_reducible refine gate_callee (f := 22) rfl ?_); refine goesL_ (some 98) rfl rfl Try.func22 (by kernel_rfl) rfl #[.pointer (some ⟨g335, 0, none⟩), .int .i64 ((rd_T45 l0_3 x7_1).f1)] rfl (by (try simp only [List.map_toArray, List.map_cons, List.map_nil]); first | done | rfl | (simp only [List.length_drop, List.length_take]; rfl)) ?_; (with_reducible refine (feed_Feed_Stdin.calls g335 (fun k_ => some k_ = (u336000 : Value).ownBlock) u336000 x336000_1 (fun k_ => some k_ = (u336001 : Value).ownBlock) u336001 x336001_1 (fun k_ => some k_ = (u336002 : Value).ownBlock) u336002 x336002_1 ((rd_T45 l0_3 x7_1).f1) t467 t470 t471 t474 t477 w _ ?side1 ?side2 ?side3 ?side4 ?side5 ?side6 ?side7 A97.out).mono ?_); (case side1 => repeat (first | (with_reducible first | exact HI335.out | apply IsS55.alloc | apply IsS55.drewN | apply IsS55.drew | apply IsS55.set_0 | apply IsS55.set_1 | apply IsS55.set_2 | refine IsS55.far ?_ NB335_313.out _) | exact HI335.out)); (case side2 => repeat (first | (with_reducible first | exact HB.out | apply below_alloc | apply pw_below_drewN | apply below_drew1 | refine below_set ?_ (IsS55.ge HI335.out) | refine below_set ?_ (IsS43.ge HI418.out) | refine below_set ?_ GE313.out) | exact HB.out)); (case side3 => exact Kd.Q_tight rfl HO_336000.out); (case side4 => exact Kd.Q_tight rfl HO_336001.out); (case side5 => exact fun k_ e_ => (HO_336001.out.1 k_ e_.symm).2); (case side6 => exact Kd.Q_tight rfl HO_336002.out); (case side7 => exact fun k_ e_ => (HO_336002.out.1 k_ e_.symm).2); rintro e w103 ⟨v468, v472, v475, v478, rfl, ho0, ho1, ho2, ho3, hi, hb, hkp⟩; refine ⟨_, rfl, ?_⟩; have n0_ := Aside0.mk (Kd.R_mono (ok' := fun k_ => some k_ ≠ (v468 : Value).ownBlock ∧ some k_ ≠ (v475 : Value).ownBlock ∧ some k_ ≠ (v478 : Value).ownBlock) (Kd.R_keptB ((IsS55.apart HI335.out (Kd.R_apart' HO_13.out (Kd.Q_typed HO_336000.out) (by decide)) (by decide))) hkp (fun k_ hk_ hs_ => Or.elim hs_ (fun hs_ => Or.elim hs_ (fun e_ => (hk_.1.2) e_) (fun e_ => Or.elim e_ (fun e_ => (hk_.1.1.1) e_) (fun e_ => (hk_.1.1.2) e_))) (fun e_ => (hk_.2) e_))) (fun k_ hk_ => ⟨fun e_ => Or.elim (ho0.1 k_ e_.symm).1 (fun hs_ => hk_.2.1 (.inl hs_)) (fun hn_ => Nat.not_le.2 hk_.2.2 hn_), fun e_ => Or.elim (ho2.1 k_ e_.symm).1 (fun hs_ => hk_.2.1 (.inl hs_)) (fun hn_ => Nat.not_le.2 hk_.2.2 hn_), fun e_ => Or.elim (ho3.1 k_ e_.symm).1 (fun hs_ => hk_.2.1 (.inl hs_)) (fun hn_ => Nat.not_le.2 hk_.2.2 hn_)⟩)); have n1_ := Aside0.mk (blk_kept (o := .cells #[.slice A0_0 l0_0.length c0_0, .slice A0_1 l0_1.length c0_1, .slice A0_2 l0_2.length c0_2, .slice (some ad420) l0_3.length c0_3] 28 (0, 0)) (by (with_reducible repeat (first | refine blk_drewN ?_ _ | refine blk_drew ?_ | refine blk_alloc ?_ _)); exact BK313.out) hkp (fun hs_ => Or.elim hs_ (fun hs_ => Or.elim hs_ (fun e_ => (fun e_ => (Kd.Q_ne HO_336000.out BK313.out (by decide)) e_) e_) (fun e_ => Or.elim e_ (fun e_ => (fun e_ => (Kd.Q_ne HO_336001.out BK313.out (by decide)) e_) e_) (fun e_ => (fun e_ => (Kd.Q_ne HO_336002.out BK313.out (by decide)) e_) e_))) (fun e_ => NB313_335.out e_))); have n2_ := Aside0.mk (hi); have n3_ := Aside0.mk (IsS43.kept (by repeat (first | (with_reducible first | exact HI418.out | apply IsS43.alloc | apply IsS43.drewN | apply IsS43.drew | apply IsS43.set_3 | apply IsS43.set_4 | apply IsS43.set_5 | refine IsS43.far ?_ NB418_313.out _) | exact HI418.out)) hkp (fun hs_ => Or.elim hs_ (fun hs_ => Or.elim hs_ (fun e_ => (fun e_ => (IsS43.own_neQ HI418.out HO_336000.out (by decide)) e_) e_) (fun e_ => Or.elim e_ (fun e_ => (fun e_ => (IsS43.own_neQ HI418.out HO_336001.out (by decide)) e_) e_) (fun e_ => (fun e_ => (IsS43.own_neQ HI418.out HO_336002.out (by decide)) e_) e_))) (fun e_ => NB418_335.out e_))); have n4_ := Aside0.mk (Kd.R_mono (ok' := fun k_ => some k_ ≠ (v475 : Value).ownBlock ∧ some k_ ≠ (v478 : Value).ownBlock ∧ some k_ ≠ (u13 : Value).ownBlock) ho0 (fun k_ hk_ => ⟨hk_.2.1, hk_.2.2, Or.elim hk_.1 (fun hs_ => Or.elim hs_ (fun hs_ => fun e_ => ((((IsS55.apart HI335.out (Kd.R_apart' HO_13.out (Kd.Q_typed HO_336000.out) (by decide)) (by decide))).1 k_ e_.symm).1.2) hs_) (fun hs_ => Or.elim hs_ (fun hs_ => fun e_ => ((((IsS55.apart HI335.out (Kd.R_apart' HO_13.out (Kd.Q_typed HO_336000.out) (by decide)) (by decide))).1 k_ e_.symm).1.1.1) hs_) (fun hs_ => fun e_ => ((((IsS55.apart HI335.out (Kd.R_apart' HO_13.out (Kd.Q_typed HO_336000.out) (by decide)) (by decide))).1 k_ e_.symm).1.1.2) hs_))) (fun hn_ => (Kd.fresh' (Kd.R_lt (by (with_reducible repeat (first | apply Kd.R_alloc | apply Kd.R_drewN | apply Kd.R_drew)); exact HO_13.out)) k_ hn_))⟩)); have n5_ := Aside0.mk (Kd.Q_mono (ok' := fun k_ => True) ho1 (fun k_ hk_ => trivial)); have n6_ := Aside0.mk (Kd.Q_mono (ok' := fun k_ => some k_ ≠ (v468 : Value).ownBlock ∧ some k_ ≠ (v478 : Value).ownBlock ∧ some k_ ≠ (u13 : Value).ownBlock) ho2 (fun k_ hk_ => ⟨hk_.2.1, hk_.2.2, Or.elim hk_.1 (fun hs_ => Or.elim hs_ (fun hs_ => fun e_ => ((((IsS55.apart HI335.out (Kd.R_apart' HO_13.out (Kd.Q_typed HO_336000.out) (by decide)) (by decide))).1 k_ e_.symm).1.2) hs_) (fun hs_ => Or.elim hs_ (fun hs_ => fun e_ => ((((IsS55.apart HI335.out (Kd.R_apart' HO_13.out (Kd.Q_typed HO_336000.out) (by decide)) (by decide))).1 k_ e_.symm).1.1.1) hs_) (fun hs_ => fun e_ => ((((IsS55.apart HI335.out (Kd.R_apart' HO_13.out (Kd.Q_typed HO_336000.out) (by decide)) (by decide))).1 k_ e_.symm).1.1.2) hs_))) (fun hn_ => (Kd.fresh' (Kd.R_lt (by (with_reducible repeat (first | apply Kd.R_alloc | apply Kd.R_drewN | apply Kd.R_drew)); exact HO_13.out)) k_ hn_))⟩)); have n7_ := Aside0.mk (Kd.Q_mono (ok' := fun k_ => some k_ ≠ (v468 : Value).ownBlock ∧ some k_ ≠ (v475 : Value).ownBlock ∧ some k_ ≠ (u13 : Value).ownBlock) ho3 (fun k_ hk_ => ⟨hk_.2.1, hk_.2.2, Or.elim hk_.1 (fun hs_ => Or.elim hs_ (fun hs_ => fun e_ => ((((IsS55.apart HI335.out (Kd.R_apart' HO_13.out (Kd.Q_typed HO_336000.out) (by decide)) (by decide))).1 k_ e_.symm).1.2) hs_) (fun hs_ => Or.elim hs_ (fun hs_ => fun e_ => ((((IsS55.apart HI335.out (Kd.R_apart' HO_13.out (Kd.Q_typed HO_336000.out) (by decide)) (by decide))).1 k_ e_.symm).1.1.1) hs_) (fun hs_ => fun e_ => ((((IsS55.apart HI335.out (Kd.R_apart' HO_13.out (Kd.Q_typed HO_336000.out) (by decide)) (by decide))).1 k_ e_.symm).1.1.2) hs_))) (fun hn_ => (Kd.fresh' (Kd.R_lt (by (with_reducible repeat (first | apply Kd.R_alloc | apply Kd.R_drewN | apply Kd.R_drew)); exact HO_13.out)) k_ hn_))⟩)); have n8_ := Aside0.mk (hb); clear HO_13; clear BK313; clear HI335; clear HI418; clear HB; clear HO_336000; clear HO_336001; clear HO_336002; have HO_13 := n0_; have BK313 := n1_; have HI335 := n2_; have HI418 := n3_; have HO469 := n4_; have HO473 := n5_; have HO476 := n6_; have HO479 := n7_; have HB := n8_; clear n0_ n1_ n2_ n3_ n4_ n5_ n6_ n7_ n8_; (try clear hb); (try clear hkp); (try clear ho0); (try clear ho1); (try clear ho2); (try clear ho3)) | ((with_reducible refine gate_callee (f := 8) rfl ?_); refine goesL_ (some 102) rfl rfl Try.func8 (by kernel_rfl) rfl #[.int .i64 t470] rfl (by (try simp only [List.map_toArray, List.map_cons, List.map_nil]); first | done | rfl | (simp only [List.length_drop, List.length_take]; rfl)) ?_; (with_reducible refine (gangwaylaw23_num.calls t470 t480 _ A98.out).mono ?_); rintro e w' ⟨rfl, ⟨nd, rfl⟩⟩; refine ⟨_, rfl, ?_⟩; obtain ⟨Ao104, co104, eo104⟩ := Kd.R_slice HO469.out; subst eo104; obtain ⟨Ao105, co105, eo105⟩ := Kd.R_slice HO_13.out; subst eo105) | (go_at_call 20; (with_reducible refine (gangwayref0_EqBytes.calls kj92 _ _ t467 _ _ x13_92 true _ ?side1 ?side2 ?side3 ?side4 A100.out).mono ?_); (case side1 => repeat (first | exact (Kd.R_reads' HO469.out).2.2 | (with_reducible refine Kd.C_alloc ?_ _) | (with_reducible refine Kd.C_drewN ?_ _) | (with_reducible refine Kd.C_drew ?_))); (case side2 => exact (Kd.R_reads' HO469.out).2.1); (case side3 => repeat (first | exact (Kd.R_reads' HO_13.out).2.2 | (with_reducible refine Kd.C_alloc ?_ _) | (with_reducible refine Kd.C_drewN ?_ _) | (with_reducible refine Kd.C_drew ?_))); (case side4 => exact (Kd.R_reads' HO_13.out).2.1); rintro e w' ⟨rfl, ⟨nd, rfl⟩⟩) | ((with_reducible refine gate_callee (f := 13) rfl ?_); refine goesL_ (some 112) rfl rfl Try.func13 (by kernel_rfl) rfl #[.slice Ao104 t467.length co104] rfl (by (try simp only [List.map_toArray, List.map_cons, List.map_nil]); first | done | rfl | (simp only [List.length_drop, List.length_take]; rfl)) ?_; (with_reducible refine (gangwaylaw0_Bytes.calls kj92 (fun k_ => some k_ = (.slice Ao104 t467.length co104 : Value).ownBlock) (.slice Ao104 t467.length co104) t467  w _ ?side1 ?side2 A102.out).mono ?_); (case side1 => repeat (first | (with_reducible first | exact HB.out | apply below_alloc | apply pw_below_drewN | apply below_drew1 | refine below_set ?_ (IsS55.ge HI335.out) | refine below_set ?_ (IsS43.ge HI418.out) | refine below_set ?_ GE313.out) | exact HB.out)); (case side2 => exact Kd.R_tight rfl HO469.out); rintro e w106 ⟨rfl, hb, hkp⟩; refine ⟨_, rfl, ?_⟩; have n0_ := Aside0.mk (Kd.R_mono (ok' := fun k_ => some k_ ≠ (v475 : Value).ownBlock ∧ some k_ ≠ (v478 : Value).ownBlock) (Kd.R_keptB (HO_13.out) hkp (fun k_ hk_ hs_ => (hk_.1) hs_)) (fun k_ hk_ => ⟨hk_.1.2.1, hk_.1.2.2⟩)); have n1_ := Aside0.mk (blk_kept (o := .cells #[.slice A0_0 l0_0.length c0_0, .slice A0_1 l0_1.length c0_1, .slice A0_2 l0_2.length c0_2, .slice (some ad420) l0_3.length c0_3] 28 (0, 0)) (by (with_reducible repeat (first | refine blk_drewN ?_ _ | refine blk_drew ?_ | refine blk_alloc ?_ _)); exact BK313.out) hkp (fun hs_ => (fun e_ => (Kd.R_ne HO469.out BK313.out (by decide)) e_) hs_)); have n2_ := Aside0.mk (IsS55.kept (by repeat (first | (with_reducible first | exact HI335.out | apply IsS55.alloc | apply IsS55.drewN | apply IsS55.drew | apply IsS55.set_0 | apply IsS55.set_1 | apply IsS55.set_2 | refine IsS55.far ?_ NB335_313.out _) | exact HI335.out)) hkp (fun hs_ => (fun e_ => (IsS55.own_ne HI335.out HO469.out (by decide)) e_) hs_)); have n3_ := Aside0.mk (IsS43.kept (by repeat (first | (with_reducible first | exact HI418.out | apply IsS43.alloc | apply IsS43.drewN | apply IsS43.drew | apply IsS43.set_3 | apply IsS43.set_4 | apply IsS43.set_5 | refine IsS43.far ?_ NB418_313.out _) | exact HI418.out)) hkp (fun hs_ => (fun e_ => (IsS43.own_ne HI418.out HO469.out (by decide)) e_) hs_)); have n4_ := Aside0.mk (Kd.Q_mono (ok' := fun k_ => True) (Kd.Q_keptB ((Kd.Q_apart' HO473.out (Kd.R_typed HO469.out) (by decide))) hkp (fun k_ hk_ hs_ => (hk_.2) hs_)) (fun k_ hk_ => trivial)); have n5_ := Aside0.mk (Kd.Q_mono (ok' := fun k_ => some k_ ≠ (.slice Ao105 x13_92.length co105 : Value).ownBlock ∧ some k_ ≠ (v478 : Value).ownBlock) (Kd.Q_keptB (HO476.out) hkp (fun k_ hk_ hs_ => (hk_.1) hs_)) (fun k_ hk_ => ⟨hk_.1.2.2, hk_.1.2.1⟩)); have n6_ := Aside0.mk (Kd.Q_mono (ok' := fun k_ => some k_ ≠ (.slice Ao105 x13_92.length co105 : Value).ownBlock ∧ some k_ ≠ (v475 : Value).ownBlock) (Kd.Q_keptB (HO479.out) hkp (fun k_ hk_ hs_ => (hk_.1) hs_)) (fun k_ hk_ => ⟨hk_.1.2.2, hk_.1.2.1⟩)); have n7_ := Aside0.mk (hb); clear HO_13; clear BK313; clear HI335; clear HI418; clear HO473; clear HO476; clear HO479; clear HB; clear HO469; have HO_13 := n0_; have BK313 := n1_; have HI335 := n2_; have HI418 := n3_; have HO473 := n4_; have HO476 := n5_; have HO479 := n6_; have HB := n7_; clear n0_ n1_ n2_ n3_ n4_ n5_ n6_ n7_; (try clear hb); (try clear hkp)))
  go_meet
  case rel => exact ⟨_, (t471), (t474), (t477), (x419003_92), (x419004_92), (x419005_92), (v472), (v475), (v478), H', ⟨by have := HK1.out; have := HJ40.out; have := HJ51.out; have := HJ56.out; have := HJ65.out; have := HJ75.out; have := HJ92.out; first | omega | exact Nat.le_refl _⟩, ⟨by (with_reducible repeat (first | apply Kd.Q_alloc | apply Kd.Q_drewN | apply Kd.Q_drew)); exact HO473.out⟩, ⟨by (with_reducible repeat (first | apply Kd.Q_alloc | apply Kd.Q_drewN | apply Kd.Q_drew)); exact Kd.Q_mono HO476.out (fun _ hk => hk.2)⟩, ⟨by (with_reducible repeat (first | apply Kd.Q_alloc | apply Kd.Q_drewN | apply Kd.Q_drew)); exact Kd.Q_mono HO479.out (fun _ hk => hk.2)⟩, ⟨by (with_reducible repeat (first | refine blk_drewN ?_ _ | refine blk_drew ?_ | refine blk_alloc ?_ _)); exact BK313.out⟩, ⟨by repeat (first | (with_reducible first | exact HI335.out | apply IsS55.alloc | apply IsS55.drewN | apply IsS55.drew | apply IsS55.set_0 | apply IsS55.set_1 | apply IsS55.set_2 | refine IsS55.far ?_ NB335_313.out _) | exact HI335.out)⟩, ⟨by repeat (first | (with_reducible first | exact HI418.out | apply IsS43.alloc | apply IsS43.drewN | apply IsS43.drew | apply IsS43.set_3 | apply IsS43.set_4 | apply IsS43.set_5 | refine IsS43.far ?_ NB418_313.out _) | exact HI418.out)⟩, ⟨by repeat (first | (with_reducible first | exact HB.out | apply below_alloc | apply pw_below_drewN | apply below_drew1 | refine below_set ?_ (IsS55.ge HI335.out) | refine below_set ?_ (IsS43.ge HI418.out) | refine below_set ?_ GE313.out) | exact HB.out)⟩⟩
 case rest =>
 clear HC62
 try clear c1
 try clear c2
 try clear p2
 try clear c3
 try clear c4
 try clear p4
 try clear q4
 try clear hx4
 try clear c5
 try clear c6
 try clear c7
 try clear c8
 try clear c9
 try clear c10
 try clear c11
 try clear c12
 try clear c13
 try clear c14
 try clear c15
 try clear c16
 try clear c16b0
 try clear c16b1
 try clear c17
 try clear c18
 try clear c19
 try clear c21
 try clear c22
 try clear c24
 try clear c29
 try clear c36
 try clear c42
 try clear c42b0
 try clear p42
 try clear q42
 try clear hx42
 try clear c43
 try clear c44
 try clear c46
 try clear c47
 try clear c49
 try clear c50
 try clear c50b0
 try clear c51
 try clear c51b0
 try clear c53
 try clear c54
 try clear c56
 try clear c56b0
 try clear c58
 try clear c59
 try clear c59b0
 try clear c60
 try clear c60b0
 try clear c63
 try clear c64
 try clear c67
 try clear c67b0
 try clear c67b1
 try clear c68
 try clear c71
 try clear c71b0
 try clear c71b1
 try clear c77
 try clear c77b0
 try clear c77b1
 try clear c78
 try clear c80
 try clear c80b0
 try clear c80b1
 try clear c85
 try clear c85b0
 try clear c85b1
 try clear c87
 try clear c94
 try clear c94b0
 try clear c94b1
 try clear c99
 try clear c99b0
 try clear c99b1
 try clear c101
 try clear hcz18_0
 try clear hcz18_1
 try clear hcz18_2
 try clear hcz18_3
 try clear hcz20_0
 try clear hcz20_1
 try clear hcz20_2
 try clear hcz20_3
 try clear hcz25_0
 try clear hcz25_1
 try clear hcz25_2
 try clear hcz30_0
 try clear hcz30_1
 try clear hcz30_2
 try clear hcz32_0
 try clear hcz32_1
 try clear hcz32_2
 try clear hcz34_0
 try clear hcz34_1
 try clear hcz34_2
 try clear hcz37_0
 try clear hcz37_1
 try clear hcz37_2
 try clear hcz37_3
 try clear hcz39_0
 try clear hcz39_1
 try clear hcz39_2
 try clear hcz39_3
 try clear hcz45_0
 try clear hcz45_1
 try clear hcz45_2
 try clear hcz45_3
 try clear hcz48_0
 try clear hcz48_1
 try clear hcz48_2
 try clear hcz48_3
 try clear hcz55_0
 try clear hcz55_1
 try clear hcz55_2
 try clear hcz55_3
 try clear hcz5_0
 try clear hcz5_1
 try clear hcz5_2
 try clear hcz5_3
 try clear hcz65_0
 try clear hcz65_1
 try clear hcz65_2
 try clear hcz65_3
 try clear hfz18_0
 try clear hfz18_1
 try clear hfz18_2
 try clear hfz18_3
 try clear hfz20_0
 try clear hfz20_1
 try clear hfz20_2
 try clear hfz20_3
 try clear hfz25_0
 try clear hfz25_1
 try clear hfz25_2
 try clear hfz30_0
 try clear hfz30_1
 try clear hfz30_2
 try clear hfz32_0
 try clear hfz32_1
 try clear hfz32_2
 try clear hfz34_0
 try clear hfz34_1
 try clear hfz34_2
 try clear hfz37_0
 try clear hfz37_1
 try clear hfz37_2
 try clear hfz37_3
 try clear hfz39_0
 try clear hfz39_1
 try clear hfz39_2
 try clear hfz39_3
 try clear hfz45_0
 try clear hfz45_1
 try clear hfz45_2
 try clear hfz45_3
 try clear hfz48_0
 try clear hfz48_1
 try clear hfz48_2
 try clear hfz48_3
 try clear hfz55_0
 try clear hfz55_1
 try clear hfz55_2
 try clear hfz55_3
 try clear hfz5_0
 try clear hfz5_1
 try clear hfz5_2
 try clear hfz5_3
 try clear hfz65_0
 try clear hfz65_1
 try clear hfz65_2
 try clear hfz65_3
 try clear hx420_0
 try clear hx420_1
 try clear hx421_0
 try clear hx421_1
 try clear p2
 try clear p4
 try clear p42
 try clear p420
 try clear p421
 try clear q4
 try clear q42
 try clear q420
 try clear q421
 obtain ⟨kq, x336000_61, x336001_61, x336002_61, x419003_61, x419004_61, x419005_61, u336000, u336001, u336002, HA, HJ61, HO_336000, HO_336001, HO_336002, BK313, HI335, HI418, HB⟩ := hcut
 cases kq with
 | zero => exact absurd HA.out (by simp [gangwaylaw23_FeedExact.j8])
 | succ kj61 =>
 have H := HA.out
 clear HA
 simp only [gangwaylaw23_FeedExact.j8] at H
 replace H := Option.bind_eq_some_iff.mp H
 obtain ⟨⟨t482, t483, t486, t489⟩, A1070, H⟩ := H
 replace H : ((gangwayref23_Feed_Left.f l0_0 l0_1 l0_2 x419003_61 x419004_61 x419005_61).bind fun bt492 => (if t482 = bt492.1 then (gangwaylaw23_FeedExact.l0 kj61 (wrap64 (x7_1 + 1)) l0_0 l0_1 l0_2 l0_3 t483 t486 t489 l0_0 l0_1 l0_2 bt492.2.1 bt492.2.2.1 bt492.2.2.2) else (none))) = some r := H
 have A107 := Aside0.mk A1070
 clear A1070
 replace H := Option.bind_eq_some_iff.mp H
 obtain ⟨⟨t492, t493, t494, t495⟩, A1080, H⟩ := H
 replace H : (if t482 = t492 then (gangwaylaw23_FeedExact.l0 kj61 (wrap64 (x7_1 + 1)) l0_0 l0_1 l0_2 l0_3 t483 t486 t489 l0_0 l0_1 l0_2 t493 t494 t495) else (none)) = some r := H
 have A108 := Aside0.mk A1080
 clear A1080
 by_cases c109 : t482 = t492
 rotate_left
 ·rw [if_neg c109] at H
  exact absurd H (by simp)
 rw [if_pos c109] at H
 have c109b0 : (t482 == t492) = true := beq_iff_eq.mpr c109
 have c109b1 : (t482 != t492) = false := bne_eq_false_iff_eq.mpr c109
 clear c109
 have H' := Aside0.mk H
 clear H
 go_wp2_with (first | ((with_reducible refine gate_callee (f := 23) rfl ?_); refine goesL_ (some 150) rfl rfl Try.func23 (by kernel_rfl) rfl #[.pointer (some ⟨g335, 0, none⟩)] rfl (by (try simp only [List.map_toArray, List.map_cons, List.map_nil]); first | done | rfl | (simp only [List.length_drop, List.length_take]; rfl)) ?_; (with_reducible refine (feed_Feed_Left.calls g335 (fun k_ => some k_ = (u336000 : Value).ownBlock) u336000 x336000_61 (fun k_ => some k_ = (u336001 : Value).ownBlock) u336001 x336001_61 (fun k_ => some k_ = (u336002 : Value).ownBlock) u336002 x336002_61 t482 t483 t486 t489 w _ ?side1 ?side2 ?side3 ?side4 ?side5 ?side6 ?side7 A107.out).mono ?_); (case side1 => repeat (first | (with_reducible first | exact HI335.out | apply IsS55.alloc | apply IsS55.drewN | apply IsS55.drew | apply IsS55.set_0 | apply IsS55.set_1 | apply IsS55.set_2 | refine IsS55.far ?_ NB335_313.out _) | exact HI335.out)); (case side2 => repeat (first | (with_reducible first | exact HB.out | apply below_alloc | apply pw_below_drewN | apply below_drew1 | refine below_set ?_ (IsS55.ge HI335.out) | refine below_set ?_ (IsS43.ge HI418.out) | refine below_set ?_ GE313.out) | exact HB.out)); (case side3 => exact Kd.Q_tight rfl HO_336000.out); (case side4 => exact Kd.Q_tight rfl HO_336001.out); (case side5 => exact fun k_ e_ => (HO_336001.out.1 k_ e_.symm)); (case side6 => exact Kd.Q_tight rfl HO_336002.out); (case side7 => exact fun k_ e_ => (HO_336002.out.1 k_ e_.symm)); rintro e w110 ⟨v484, v487, v490, rfl, ho0, ho1, ho2, hi, hb, hkp⟩; refine ⟨_, rfl, ?_⟩; have n0_ := Aside0.mk (blk_kept (o := .cells #[.slice A0_0 l0_0.length c0_0, .slice A0_1 l0_1.length c0_1, .slice A0_2 l0_2.length c0_2, .slice (some ad420) l0_3.length c0_3] 28 (0, 0)) (by (with_reducible repeat (first | refine blk_drewN ?_ _ | refine blk_drew ?_ | refine blk_alloc ?_ _)); exact BK313.out) hkp (fun hs_ => Or.elim hs_ (fun hs_ => Or.elim hs_ (fun e_ => (fun e_ => (Kd.Q_ne HO_336000.out BK313.out (by decide)) e_) e_) (fun e_ => Or.elim e_ (fun e_ => (fun e_ => (Kd.Q_ne HO_336001.out BK313.out (by decide)) e_) e_) (fun e_ => (fun e_ => (Kd.Q_ne HO_336002.out BK313.out (by decide)) e_) e_))) (fun e_ => NB313_335.out e_))); have n1_ := Aside0.mk (hi); have n2_ := Aside0.mk (IsS43.kept (by repeat (first | (with_reducible first | exact HI418.out | apply IsS43.alloc | apply IsS43.drewN | apply IsS43.drew | apply IsS43.set_3 | apply IsS43.set_4 | apply IsS43.set_5 | refine IsS43.far ?_ NB418_313.out _) | exact HI418.out)) hkp (fun hs_ => Or.elim hs_ (fun hs_ => Or.elim hs_ (fun e_ => (fun e_ => (IsS43.own_neQ HI418.out HO_336000.out (by decide)) e_) e_) (fun e_ => Or.elim e_ (fun e_ => (fun e_ => (IsS43.own_neQ HI418.out HO_336001.out (by decide)) e_) e_) (fun e_ => (fun e_ => (IsS43.own_neQ HI418.out HO_336002.out (by decide)) e_) e_))) (fun e_ => NB418_335.out e_))); have n3_ := Aside0.mk (Kd.Q_mono (ok' := fun k_ => True) ho0 (fun k_ hk_ => trivial)); have n4_ := Aside0.mk (Kd.Q_mono (ok' := fun k_ => some k_ ≠ (v490 : Value).ownBlock) ho1 (fun k_ hk_ => hk_.2)); have n5_ := Aside0.mk (Kd.Q_mono (ok' := fun k_ => some k_ ≠ (v487 : Value).ownBlock) ho2 (fun k_ hk_ => hk_.2)); have n6_ := Aside0.mk (hb); clear BK313; clear HI335; clear HI418; clear HB; clear HO_336000; clear HO_336001; clear HO_336002; have BK313 := n0_; have HI335 := n1_; have HI418 := n2_; have HO485 := n3_; have HO488 := n4_; have HO491 := n5_; have HB := n6_; clear n0_ n1_ n2_ n3_ n4_ n5_ n6_; (try clear hb); (try clear hkp); (try clear ho0); (try clear ho1); (try clear ho2)) | ((with_reducible refine gate_callee (f := 24) rfl ?_); refine goesL_ (some 152) rfl rfl Try.func24 (by kernel_rfl) rfl #[.pointer (some ⟨g418, 0, none⟩)] rfl (by (try simp only [List.map_toArray, List.map_cons, List.map_nil]); first | done | rfl | (simp only [List.length_drop, List.length_take]; rfl)) ?_; (with_reducible refine (gangwayref23_Feed_Left.calls g418 l0_0 l0_1 l0_2 x419003_61 x419004_61 x419005_61 t492 t493 t494 t495 w _ ?side1 ?side2 A108.out).mono ?_); (case side1 => repeat (first | (with_reducible first | exact HI418.out | apply IsS43.alloc | apply IsS43.drewN | apply IsS43.drew | apply IsS43.set_3 | apply IsS43.set_4 | apply IsS43.set_5 | refine IsS43.far ?_ NB418_313.out _) | exact HI418.out)); (case side2 => repeat (first | (with_reducible first | exact HB.out | apply below_alloc | apply pw_below_drewN | apply below_drew1 | refine below_set ?_ (IsS55.ge HI335.out) | refine below_set ?_ (IsS43.ge HI418.out) | refine below_set ?_ GE313.out) | exact HB.out)); rintro e w111 ⟨rfl, hi, hb, hk⟩; refine ⟨_, rfl, ?_⟩; have n0_ := Aside0.mk (KeepBut.blk hk (g' := gb313) (o := .cells #[.slice A0_0 l0_0.length c0_0, .slice A0_1 l0_1.length c0_1, .slice A0_2 l0_2.length c0_2, .slice (some ad420) l0_3.length c0_3] 28 (0, 0)) (by (with_reducible repeat (first | refine blk_drewN ?_ _ | refine blk_drew ?_ | refine blk_alloc ?_ _)); exact BK313.out) NB313_418.out (by simp)); have n1_ := Aside0.mk (IsS55.keepb (by repeat (first | (with_reducible first | exact HI335.out | apply IsS55.alloc | apply IsS55.drewN | apply IsS55.drew | apply IsS55.set_0 | apply IsS55.set_1 | apply IsS55.set_2 | refine IsS55.far ?_ NB335_313.out _) | exact HI335.out)) hk NB335_418.out); have n2_ := Aside0.mk (Kd.Q_mono (Kd.Q_keep (IsS43.apartQ (show IsS43 w _ g418 l0_0 l0_1 l0_2 x419003_61 x419004_61 x419005_61 from by repeat (first | (with_reducible first | exact HI418.out | apply IsS43.alloc | apply IsS43.drewN | apply IsS43.drew | apply IsS43.set_3 | apply IsS43.set_4 | apply IsS43.set_5 | refine IsS43.far ?_ NB418_313.out _) | exact HI418.out)) (by (with_reducible repeat (first | apply Kd.Q_alloc | apply Kd.Q_drewN | apply Kd.Q_drew)); exact HO485.out) (by decide)) hk (fun _ h => h.2)) (fun _ h => h.1)); have n3_ := Aside0.mk (Kd.Q_mono (Kd.Q_keep (IsS43.apartQ (show IsS43 w _ g418 l0_0 l0_1 l0_2 x419003_61 x419004_61 x419005_61 from by repeat (first | (with_reducible first | exact HI418.out | apply IsS43.alloc | apply IsS43.drewN | apply IsS43.drew | apply IsS43.set_3 | apply IsS43.set_4 | apply IsS43.set_5 | refine IsS43.far ?_ NB418_313.out _) | exact HI418.out)) (by (with_reducible repeat (first | apply Kd.Q_alloc | apply Kd.Q_drewN | apply Kd.Q_drew)); exact HO488.out) (by decide)) hk (fun _ h => h.2)) (fun _ h => h.1)); have n4_ := Aside0.mk (Kd.Q_mono (Kd.Q_keep (IsS43.apartQ (show IsS43 w _ g418 l0_0 l0_1 l0_2 x419003_61 x419004_61 x419005_61 from by repeat (first | (with_reducible first | exact HI418.out | apply IsS43.alloc | apply IsS43.drewN | apply IsS43.drew | apply IsS43.set_3 | apply IsS43.set_4 | apply IsS43.set_5 | refine IsS43.far ?_ NB418_313.out _) | exact HI418.out)) (by (with_reducible repeat (first | apply Kd.Q_alloc | apply Kd.Q_drewN | apply Kd.Q_drew)); exact HO491.out) (by decide)) hk (fun _ h => h.2)) (fun _ h => h.1)); have n5_ := Aside0.mk (hb); have n6_ := Aside0.mk (hi); clear BK313; clear HI335; clear HO485; clear HO488; clear HO491; clear HB; clear HI418; have BK313 := n0_; have HI335 := n1_; have HO485 := n2_; have HO488 := n3_; have HO491 := n4_; have HB := n5_; have HI418 := n6_; clear n0_ n1_ n2_ n3_ n4_ n5_ n6_; (try clear hb); (try clear hb2); (try clear hk); (try clear hi)))
 go_roundg kj61
 case measure => have := HK1.out; have := HJ40.out; have := HJ51.out; have := HJ56.out; have := HJ61.out; omega
 case rel => exact ⟨(wrap64 (x7_1 + 1)), (t483), (t486), (t489), (t493), (t494), (t495), (v484), (v487), (v490), (by first | rfl | (simp; done) | (simp [*]; done)), H', ⟨by have := HK1.out; have := HJ40.out; have := HJ51.out; have := HJ56.out; have := HJ61.out; omega⟩, ⟨by (with_reducible repeat (first | apply Kd.Q_alloc | apply Kd.Q_drewN | apply Kd.Q_drew)); exact HO485.out⟩, ⟨by (with_reducible repeat (first | apply Kd.Q_alloc | apply Kd.Q_drewN | apply Kd.Q_drew)); exact HO488.out⟩, ⟨by (with_reducible repeat (first | apply Kd.Q_alloc | apply Kd.Q_drewN | apply Kd.Q_drew)); exact HO491.out⟩, ⟨by (with_reducible repeat (first | refine blk_drewN ?_ _ | refine blk_drew ?_ | refine blk_alloc ?_ _)); exact BK313.out⟩, ⟨by repeat (first | (with_reducible first | exact HI335.out | apply IsS55.alloc | apply IsS55.drewN | apply IsS55.drew | apply IsS55.set_0 | apply IsS55.set_1 | apply IsS55.set_2 | refine IsS55.far ?_ NB335_313.out _) | exact HI335.out)⟩, ⟨by repeat (first | (with_reducible first | exact HI418.out | apply IsS43.alloc | apply IsS43.drewN | apply IsS43.drew | apply IsS43.set_3 | apply IsS43.set_4 | apply IsS43.set_5 | refine IsS43.far ?_ NB418_313.out _) | exact HI418.out)⟩, ⟨by repeat (first | (with_reducible first | exact HB.out | apply below_alloc | apply pw_below_drewN | apply below_drew1 | refine below_set ?_ (IsS55.ge HI335.out) | refine below_set ?_ (IsS43.ge HI418.out) | refine below_set ?_ GE313.out) | exact HB.out)⟩⟩
/-- THE ONE PURE STATEMENT of gangwaylaw23_FeedExact: yours. -/
def gangwaylaw23_FeedExact.Pure : Prop := ∀ (x0 : S28), okT28 x0 → ∃ k, gangwaylaw23_FeedExact.f k x0.f0.f0 x0.f0.f1 x0.f0.f2 x0.f1 = some true
theorem gangwaylaw23_FeedExact.walk (P : gangwaylaw23_FeedExact.Pure) (w : World) (x0 : S28) (A0_0 : Option Addr) (c0_0 : Nat) (A0_1 : Option Addr) (c0_1 : Nat) (A0_2 : Option Addr) (c0_2 : Nat) (A0_3 : Option Addr) (c0_3 : Nat) (hr0_0 : Kd.C (Kd.int .i64) w A0_0 x0.f0.f0.length x0.f0.f0) (hc0_0 : x0.f0.f0.length ≤ c0_0) (hr0_1 : Kd.C (Kd.int .u8) w A0_1 x0.f0.f1.length x0.f0.f1) (hc0_1 : x0.f0.f1.length ≤ c0_1) (hr0_2 : Kd.C (Kd.int .u8) w A0_2 x0.f0.f2.length x0.f0.f2) (hc0_2 : x0.f0.f2.length ≤ c0_2) (hr0_3 : Kd.C k45 w A0_3 x0.f1.length x0.f1) (hc0_3 : x0.f1.length ≤ c0_3) (hok0 : okT28 x0) :
  Calls Try.prog 4 #[.agg #[.slice A0_0 x0.f0.f0.length c0_0, .slice A0_1 x0.f0.f1.length c0_1, .slice A0_2 x0.f0.f2.length c0_2, .slice A0_3 x0.f1.length c0_3]] w fun e w' => e = .returned (.bool true) ∧ Below w.heap.size w w' := by
 obtain ⟨k, h⟩ := P x0 hok0
 refine (gangwaylaw23_FeedExact.calls k _ _ x0.f0.f0 _ _ x0.f0.f1 _ _ x0.f0.f2 _ _ x0.f1 true w hr0_0 hc0_0 hr0_1 hc0_1 hr0_2 hc0_2 hr0_3 hc0_3 h).mono ?_
 rintro e w' ⟨rfl, hd⟩
 exact ⟨rfl, hd⟩

end Go.Proofs.Ytjpnjbpbajaloaa.PAll
