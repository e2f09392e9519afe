/- Printed by a copy of the printer that was turned for this claim: functions as plain Lean functions, with proofs that their calls come to these; or words that such proofs use. -/
import Derived.Test.YthhmnecnoojcpaaPAllx0
import Derived.Test.YthhmnecnoojcpaaPAllx2
import Derived.Test.YthhmnecnoojcpaaPAllx3
import Derived.Test.YthhmnecnoojcpaaPAllx5
import Derived.Test.YthhmnecnoojcpaaPAllx10
import Derived.Test.YthhmnecnoojcpaaPAllx11
import Derived.Test.YthhmnecnoojcpaaPAllx13
import Derived.Test.YthhmnecnoojcpaaPAllx15
namespace Go.Proofs.Ythhmnecnoojcpaa.PAll
open Go.RowKit Go.Proofs.YthhmnecnoojcpaaW.PrintWords Go.Proofs.YthhmnecnoojcpaaW.PrintLast Go.Proofs.YthhmnecnoojcpaaW.PrintMore
attribute [local go_sem] max2_int min2_int max_two min_two max_three min_three max_four min_four   -- for this text's walks alone
set_option linter.unusedVariables false
set_option linter.unusedSimpArgs false

/-! ### gangwaylaw20_StatExact: function 8 -/
abbrev gangwaylaw20_StatExact.t : Bool := true
abbrev gangwaylaw20_StatExact.f_ : Bool := false
def gangwaylaw20_StatExact.bb0_ : Array Bool := #[t, t, t, t, t, t, t, t, t, t]
def gangwaylaw20_StatExact.bb1_ : Array Bool := #[t, t, t, t, t, t, t, t, t, f_]
def gangwaylaw20_StatExact.bb2_ : Array Bool := #[t, t, t, t, t, t, t, t, f_, f_]
def gangwaylaw20_StatExact.bb3_ : Array Bool := #[t, t, t, t, t, t, t, f_, f_, f_]
def gangwaylaw20_StatExact.bb4_ : Array Bool := #[t, t, t, t, f_, t, t, f_, f_, f_]
def gangwaylaw20_StatExact.bb5_ : Array Bool := #[t, t, t, t, f_, t, f_, f_, f_, f_]
def gangwaylaw20_StatExact.bb6_ : Array Bool := #[t, t, t, f_, f_, t, f_, f_, f_, f_]
def gangwaylaw20_StatExact.bb7_ : Array Bool := #[t, t, t, f_, f_, f_, f_, f_, f_, f_]
def gangwaylaw20_StatExact.bb8_ : Array Bool := #[t, t, f_, f_, f_, f_, f_, f_, f_, f_]
def gangwaylaw20_StatExact.bb9_ : Array Bool := #[t, f_, f_, f_, f_, f_, f_, f_, f_, f_]
def gangwaylaw20_StatExact.bb10_ : Array Bool := #[f_, f_, f_, f_, f_, f_, f_, f_, f_, f_]
def gangwaylaw20_StatExact.bb11_ : Array Bool := #[t, t, t, t, t, t, t, t, t, t, t, t, t, t]
def gangwaylaw20_StatExact.bb12_ : Array Bool := #[t, t, t, t, t, t, t, t, t, t, t, t, t, f_]
def gangwaylaw20_StatExact.bb13_ : Array Bool := #[t, t, t, t, t, t, t, t, t, t, t, t, f_, f_]
def gangwaylaw20_StatExact.bb14_ : Array Bool := #[t, t, t, t, t, t, t, t, t, t, t, f_, f_, f_]
def gangwaylaw20_StatExact.bb15_ : Array Bool := #[t, t, t, t, t, t, t, t, t, t, f_, f_, f_, f_]
def gangwaylaw20_StatExact.bb16_ : Array Bool := #[t, t, t, t, t, t, t, t, t, f_, f_, f_, f_, f_]
def gangwaylaw20_StatExact.bb17_ : Array Bool := #[t, t, t, t, t, t, t, t, f_, f_, f_, f_, f_, f_]
def gangwaylaw20_StatExact.bb18_ : Array Bool := #[t, t, t, t, t, t, t, f_, f_, f_, f_, f_, f_, f_]
def gangwaylaw20_StatExact.bb19_ : Array Bool := #[t, t, t, t, t, t, f_, f_, f_, f_, f_, f_, f_, f_]
def gangwaylaw20_StatExact.bb20_ : Array Bool := #[t, t, t, t, t, f_, f_, f_, f_, f_, f_, f_, f_, f_]
def gangwaylaw20_StatExact.bb21_ : Array Bool := #[t, t, f_, t, t, f_, f_, f_, f_, f_, f_, f_, f_, f_]
def gangwaylaw20_StatExact.bb22_ : Array Bool := #[t, t, f_, t, f_, f_, f_, f_, f_, f_, f_, f_, f_, f_]
def gangwaylaw20_StatExact.bb23_ : Array Bool := #[t, f_, f_, t, f_, f_, f_, f_, f_, f_, f_, f_, f_, f_]
def gangwaylaw20_StatExact.bb24_ : Array Bool := #[t, f_, f_, f_, f_, f_, f_, f_, f_, f_, f_, f_, f_, f_]
def gangwaylaw20_StatExact.bb25_ : Array Bool := #[f_, f_, f_, f_, f_, f_, f_, f_, f_, f_, f_, f_, f_, f_]
def gangwaylaw20_StatExact.bb26_ : Array Bool := #[t, t, t, t, t, t, t, t, t, t, t, t, t, t, t, t, t, t, t, t, t, t, t, t, t, t, t, t, t]
def gangwaylaw20_StatExact.bb27_ : Array Bool := #[t, t, t, t, t, t, t, t, t, t, t, t, t, t, t, t, t, t, t, t, t, t, t, t, t, t, t, t, f_]
def gangwaylaw20_StatExact.bb28_ : Array Bool := #[t, t, t, t, t, t, t, t, t, t, t, t, t, t, t, t, t, t, t, t, t, t, t, t, t, t, t, f_, f_]
def gangwaylaw20_StatExact.bb29_ : Array Bool := #[t, t, t, t, t, t, t, t, t, t, t, t, t, t, t, t, t, t, t, t, t, t, t, t, t, t, f_, f_, f_]
def gangwaylaw20_StatExact.bb30_ : Array Bool := #[t, t, t, t, t, t, t, t, t, t, t, t, t, t, t, t, t, t, t, t, t, t, t, t, t, f_, f_, f_, f_]
def gangwaylaw20_StatExact.bb31_ : Array Bool := #[t, t, t, t, t, t, t, t, t, t, t, t, t, t, t, t, t, t, t, t, t, t, t, f_, t, f_, f_, f_, f_]
def gangwaylaw20_StatExact.bb32_ : Array Bool := #[t, t, t, t, t, t, t, t, t, t, t, t, t, t, t, t, t, t, t, t, t, f_, t, f_, t, f_, f_, f_, f_]
def gangwaylaw20_StatExact.bb33_ : Array Bool := #[t, t, t, t, t, t, t, t, t, t, t, t, t, t, t, t, t, t, t, t, f_, f_, t, f_, t, f_, f_, f_, f_]
def gangwaylaw20_StatExact.bb34_ : Array Bool := #[t, t, t, t, t, t, t, t, t, t, t, t, t, t, t, t, t, t, t, f_, f_, f_, t, f_, t, f_, f_, f_, f_]
def gangwaylaw20_StatExact.bb35_ : Array Bool := #[t, t, t, t, t, t, t, t, t, t, t, t, t, t, t, t, t, t, f_, f_, f_, f_, t, f_, t, f_, f_, f_, f_]
def gangwaylaw20_StatExact.bb36_ : Array Bool := #[t, t, t, t, t, t, t, t, t, t, t, t, t, t, t, t, t, f_, f_, f_, f_, f_, t, f_, t, f_, f_, f_, f_]
def gangwaylaw20_StatExact.bb37_ : Array Bool := #[t, t, t, t, t, t, t, t, t, t, t, t, t, t, t, t, f_, f_, f_, f_, f_, f_, t, f_, t, f_, f_, f_, f_]
def gangwaylaw20_StatExact.bb38_ : Array Bool := #[t, t, t, t, t, t, t, t, t, t, t, t, t, t, t, f_, f_, f_, f_, f_, f_, f_, t, f_, t, f_, f_, f_, f_]
def gangwaylaw20_StatExact.bb39_ : Array Bool := #[t, t, t, t, t, t, t, t, t, t, t, t, t, t, t, t, t, t, t, t, t, t, t, t, t, t, t, t, t, t, t]
def gangwaylaw20_StatExact.bb40_ : Array Bool := #[t, t, t, t, t, t, t, t, t, t, t, t, t, t, f_, f_, f_, f_, f_, f_, f_, f_, t, f_, t, f_, f_, f_, f_]
def gangwaylaw20_StatExact.bb41_ : Array Bool := #[t, t, t, t, t, t, t, t, t, t, t, t, t, t, t, t, t, t, t, t, t, t, t, t, t, t, t, t, t, t, f_]
def gangwaylaw20_StatExact.bb42_ : Array Bool := #[t, t, t, t, t, t, t, t, t, t, t, t, t, f_, f_, f_, f_, f_, f_, f_, f_, f_, t, f_, t, f_, f_, f_, f_]
def gangwaylaw20_StatExact.bb43_ : Array Bool := #[t, t, t, t, t, t, t, t, t, t, t, t, t, t, t, t, t, t, t, t, t, t, t, t, t, t, t, t, t, f_, f_]
def gangwaylaw20_StatExact.bb44_ : Array Bool := #[t, t, t, t, t, t, t, t, t, t, t, t, f_, f_, f_, f_, f_, f_, f_, f_, f_, f_, t, f_, t, f_, f_, f_, f_]
def gangwaylaw20_StatExact.bb45_ : Array Bool := #[t, t, t, t, t, t, t, t, t, t, t, t, t, t, t, t, t, t, t, t, t, t, t, t, t, t, t, t, f_, f_, f_]
def gangwaylaw20_StatExact.bb46_ : Array Bool := #[t, t, t, t, t, t, t, t, t, t, t, f_, f_, f_, f_, f_, f_, f_, f_, f_, f_, f_, t, f_, t, f_, f_, f_, f_]
def gangwaylaw20_StatExact.bb47_ : Array Bool := #[t, t, t, t, t, t, t, t, t, t, t, t, t, t, t, t, t, t, t, t, t, t, t, t, t, t, t, f_, f_, f_, f_]
def gangwaylaw20_StatExact.bb48_ : Array Bool := #[t, t, t, t, t, t, t, t, t, t, f_, f_, f_, f_, f_, f_, f_, f_, f_, f_, f_, f_, t, f_, t, f_, f_, f_, f_]
def gangwaylaw20_StatExact.bb49_ : Array Bool := #[t, t, t, t, t, t, t, t, t, t, t, t, t, t, t, t, t, t, t, t, t, t, t, t, t, f_, t, f_, f_, f_, f_]
def gangwaylaw20_StatExact.bb50_ : Array Bool := #[t, t, t, t, t, t, t, t, t, f_, f_, f_, f_, f_, f_, f_, f_, f_, f_, f_, f_, f_, t, f_, t, f_, f_, f_, f_]
def gangwaylaw20_StatExact.bb51_ : Array Bool := #[t, t, t, t, t, t, t, t, t, t, t, t, t, t, t, t, t, t, t, t, t, t, t, f_, t, f_, t, f_, f_, f_, f_]
def gangwaylaw20_StatExact.bb52_ : Array Bool := #[t, t, t, t, t, t, t, t, f_, f_, f_, f_, f_, f_, f_, f_, f_, f_, f_, f_, f_, f_, t, f_, t, f_, f_, f_, f_]
def gangwaylaw20_StatExact.bb53_ : Array Bool := #[t, t, t, t, t, t, t, t, t, t, t, t, t, t, t, t, t, t, t, t, t, f_, t, f_, t, f_, t, f_, f_, f_, f_]
def gangwaylaw20_StatExact.bb54_ : Array Bool := #[t, t, t, t, t, t, t, f_, f_, f_, f_, f_, f_, f_, f_, f_, f_, f_, f_, f_, f_, f_, t, f_, t, f_, f_, f_, f_]
def gangwaylaw20_StatExact.bb55_ : Array Bool := #[t, t, t, t, t, t, t, t, t, t, t, t, t, t, t, t, t, t, t, f_, t, f_, t, f_, t, f_, t, f_, f_, f_, f_]
def gangwaylaw20_StatExact.bb56_ : Array Bool := #[t, t, t, t, t, t, f_, f_, f_, f_, f_, f_, f_, f_, f_, f_, f_, f_, f_, f_, f_, f_, t, f_, t, f_, f_, f_, f_]
def gangwaylaw20_StatExact.bb57_ : Array Bool := #[t, t, t, t, t, t, t, t, t, t, t, t, t, t, t, t, t, t, f_, f_, t, f_, t, f_, t, f_, t, f_, f_, f_, f_]
def gangwaylaw20_StatExact.bb58_ : Array Bool := #[t, t, t, t, t, f_, f_, f_, f_, f_, f_, f_, f_, f_, f_, f_, f_, f_, f_, f_, f_, f_, t, f_, t, f_, f_, f_, f_]
def gangwaylaw20_StatExact.bb59_ : Array Bool := #[t, t, t, t, t, t, t, t, t, t, t, t, t, t, t, t, t, f_, f_, f_, t, f_, t, f_, t, f_, t, f_, f_, f_, f_]
def gangwaylaw20_StatExact.bb60_ : Array Bool := #[t, t, t, t, f_, f_, f_, f_, f_, f_, f_, f_, f_, f_, f_, f_, f_, f_, f_, f_, f_, f_, t, f_, t, f_, f_, f_, f_]
def gangwaylaw20_StatExact.bb61_ : Array Bool := #[t, t, t, t, t, t, t, t, t, t, t, t, t, t, t, t, f_, f_, f_, f_, t, f_, t, f_, t, f_, t, f_, f_, f_, f_]
def gangwaylaw20_StatExact.bb62_ : Array Bool := #[t, t, t, t, f_, f_, f_, f_, f_, f_, f_, f_, f_, f_, f_, f_, f_, f_, f_, f_, f_, f_, t, f_, f_, f_, f_, f_, f_]
def gangwaylaw20_StatExact.bb63_ : Array Bool := #[t, t, t, t, t, t, t, t, t, t, t, t, t, t, t, f_, f_, f_, f_, f_, t, f_, t, f_, t, f_, t, f_, f_, f_, f_]
def gangwaylaw20_StatExact.bb64_ : Array Bool := #[t, t, t, t, f_, f_, f_, f_, f_, f_, f_, f_, f_, f_, f_, f_, f_, f_, f_, f_, f_, f_, f_, f_, f_, f_, f_, f_, f_]
def gangwaylaw20_StatExact.bb65_ : Array Bool := #[t, t, t, t, t, t, t, t, t, t, t, t, t, t, f_, f_, f_, f_, f_, f_, t, f_, t, f_, t, f_, t, f_, f_, f_, f_]
def gangwaylaw20_StatExact.bb66_ : Array Bool := #[t, t, t, f_, f_, f_, f_, f_, f_, f_, f_, f_, f_, f_, f_, f_, f_, f_, f_, f_, f_, f_, f_, f_, f_, f_, f_, f_, f_]
def gangwaylaw20_StatExact.bb67_ : Array Bool := #[t, t, t, t, t, t, t, t, t, t, t, t, t, f_, f_, f_, f_, f_, f_, f_, t, f_, t, f_, t, f_, t, f_, f_, f_, f_]
def gangwaylaw20_StatExact.bb68_ : Array Bool := #[t, t, f_, f_, f_, f_, f_, f_, f_, f_, f_, f_, f_, f_, f_, f_, f_, f_, f_, f_, f_, f_, f_, f_, f_, f_, f_, f_, f_]
def gangwaylaw20_StatExact.bb69_ : Array Bool := #[t, t, t, t, t, t, t, t, t, t, t, t, f_, f_, f_, f_, f_, f_, f_, f_, t, f_, t, f_, t, f_, t, f_, f_, f_, f_]
def gangwaylaw20_StatExact.bb70_ : Array Bool := #[t, f_, f_, f_, f_, f_, f_, f_, f_, f_, f_, f_, f_, f_, f_, f_, f_, f_, f_, f_, f_, f_, f_, f_, f_, f_, f_, f_, f_]
def gangwaylaw20_StatExact.bb71_ : Array Bool := #[t, t, t, t, t, t, t, t, t, t, t, f_, f_, f_, f_, f_, f_, f_, f_, f_, t, f_, t, f_, t, f_, t, f_, f_, f_, f_]
def gangwaylaw20_StatExact.bb72_ : Array Bool := #[f_, f_, f_, f_, f_, f_, f_, f_, f_, f_, f_, f_, f_, f_, f_, f_, f_, f_, f_, f_, f_, f_, f_, f_, f_, f_, f_, f_, f_]
def gangwaylaw20_StatExact.bb73_ : Array Bool := #[t, t, t, t, t, t, t, t, t, t, f_, f_, f_, f_, f_, f_, f_, f_, f_, f_, t, f_, t, f_, t, f_, t, f_, f_, f_, f_]
def gangwaylaw20_StatExact.bb74_ : Array Bool := #[t, t, t, t, t, t, t, t, t, f_, f_, f_, f_, f_, f_, f_, f_, f_, f_, f_, t, f_, t, f_, t, f_, t, f_, f_, f_, f_]
def gangwaylaw20_StatExact.bb75_ : Array Bool := #[t, t, t, t, t, t, t, t, f_, f_, f_, f_, f_, f_, f_, f_, f_, f_, f_, f_, t, f_, t, f_, t, f_, t, f_, f_, f_, f_]
def gangwaylaw20_StatExact.bb76_ : Array Bool := #[t, t, t, t, t, t, t, f_, f_, f_, f_, f_, f_, f_, f_, f_, f_, f_, f_, f_, t, f_, t, f_, t, f_, t, f_, f_, f_, f_]
def gangwaylaw20_StatExact.bb77_ : Array Bool := #[t, t, t, t, t, t, f_, f_, f_, f_, f_, f_, f_, f_, f_, f_, f_, f_, f_, f_, t, f_, t, f_, t, f_, t, f_, f_, f_, f_]
def gangwaylaw20_StatExact.bb78_ : Array Bool := #[t, t, t, t, t, f_, f_, f_, f_, f_, f_, f_, f_, f_, f_, f_, f_, f_, f_, f_, t, f_, t, f_, t, f_, t, f_, f_, f_, f_]
def gangwaylaw20_StatExact.bb79_ : Array Bool := #[t, t, t, t, f_, f_, f_, f_, f_, f_, f_, f_, f_, f_, f_, f_, f_, f_, f_, f_, t, f_, t, f_, t, f_, t, f_, f_, f_, f_]
def gangwaylaw20_StatExact.bb80_ : Array Bool := #[t, t, t, f_, f_, f_, f_, f_, f_, f_, f_, f_, f_, f_, f_, f_, f_, f_, f_, f_, t, f_, t, f_, t, f_, t, f_, f_, f_, f_]
def gangwaylaw20_StatExact.bb81_ : Array Bool := #[t, t, t, f_, f_, f_, f_, f_, f_, f_, f_, f_, f_, f_, f_, f_, f_, f_, f_, f_, t, f_, t, f_, t, f_, f_, f_, f_, f_, f_]
def gangwaylaw20_StatExact.bb82_ : Array Bool := #[t, t, t, f_, f_, f_, f_, f_, f_, f_, f_, f_, f_, f_, f_, f_, f_, f_, f_, f_, t, f_, t, f_, f_, f_, f_, f_, f_, f_, f_]
def gangwaylaw20_StatExact.bb83_ : Array Bool := #[t, t, t, f_, f_, f_, f_, f_, f_, f_, f_, f_, f_, f_, f_, f_, f_, f_, f_, f_, t, f_, f_, f_, f_, f_, f_, f_, f_, f_, f_]
def gangwaylaw20_StatExact.bb84_ : Array Bool := #[t, t, t, f_, f_, f_, f_, f_, f_, f_, f_, f_, f_, f_, f_, f_, f_, f_, f_, f_, f_, f_, f_, f_, f_, f_, f_, f_, f_, f_, f_]
def gangwaylaw20_StatExact.bb85_ : Array Bool := #[t, t, f_, f_, f_, f_, f_, f_, f_, f_, f_, f_, f_, f_, f_, f_, f_, f_, f_, f_, f_, f_, f_, f_, f_, f_, f_, f_, f_, f_, f_]
def gangwaylaw20_StatExact.bb86_ : Array Bool := #[t, f_, f_, f_, f_, f_, f_, f_, f_, f_, f_, f_, f_, f_, f_, f_, f_, f_, f_, f_, f_, f_, f_, f_, f_, f_, f_, f_, f_, f_, f_]
def gangwaylaw20_StatExact.bb87_ : Array Bool := #[f_, f_, f_, f_, f_, f_, f_, f_, f_, f_, f_, f_, f_, f_, f_, f_, f_, f_, f_, f_, f_, f_, f_, f_, f_, f_, f_, f_, f_, f_, f_]
theorem gangwaylaw20_StatExact.bc {w : World} {g : Nat} {cs : Array Value} {t : TypeId} (h : Aside0 (w.heap[g]? = some (.cells cs t (0, 0)))) (i : Nat) {v : Value} (e : cs[i]? = some v := by rfl) : w.cell? ⟨g, i, none⟩ = some v := (blk_cell h.out i).trans e
theorem gangwaylaw20_StatExact.bkept {W0 W W2 : World} {g : Nat} {o : Obj} {S : Nat → Prop} (_b : Aside0 (W0.heap[g]? = some o)) (h : W.heap[g]? = some o) (hk : Kept W W2 S) (hn : ¬ S g) : W2.heap[g]? = some o := blk_kept h hk hn
theorem gangwaylaw20_StatExact.bbelow {W0 w w1 : World} {g : Nat} {o : Obj} (_b : Aside0 (W0.heap[g]? = some o)) (h : w.heap[g]? = some o) (hb : Below w.heap.size w w1) : w1.heap[g]? = some o := blk_below h hb
theorem gangwaylaw20_StatExact.e1 {α : Type _} (xs : List α) (i : Nat) (a : α) : xs.toArray.setIfInBounds i a = (xs.set i a).toArray := by simp
theorem gangwaylaw20_StatExact.e2 {α : Type _} (x a : α) (xs : List α) : (x :: xs).set 0 a = a :: xs := rfl
theorem gangwaylaw20_StatExact.e3 {α : Type _} (x a : α) (xs : List α) (n : Nat) : (x :: xs).set (n + 1) a = x :: xs.set n a := rfl
theorem gangwaylaw20_StatExact.up {w w' : World} {a : Addr} {v : Value} (hb : Aside0 (Below w.heap.size w w')) (h : w.cell? a = some v) : w'.cell? a = some v := (hb.out.cell (World.block_lt_of_cell? w _ h)).trans h
mutual
def gangwaylaw20_StatExact.j11 : Nat → Option (Bool)
 | 0 => none
 | k + 1 => (gangwaylaw20_wakes.f k).bind fun t517 => (some t517)
def gangwaylaw20_StatExact.l0 : Nat → List (S35) → Int → Option (Bool)
 | 0, _, _ => none
 | k + 1, x0, x3 => if x3 < (x0.length : Int) then (gangwaylaw20_StatExact.j1 k x0 x3 (decide (x3 < 20))) else (gangwaylaw20_StatExact.j1 k x0 x3 false)
def gangwaylaw20_StatExact.j1 : Nat → List (S35) → Int → Bool → Option (Bool)
 | 0, _, _, _ => none
 | k + 1, x0, x3, x14 => if x14 = true then (gangwaylaw20_StatExact.j2 k x0 x3) else (gangwaylaw20_StatExact.j11 k)
def gangwaylaw20_StatExact.j2 : Nat → List (S35) → Int → Option (Bool)
 | 0, _, _ => none
 | k + 1, x0, x3 => if 0 ≤ x3 then (if x3 < (x0.length : Int) then ((gangwaylaw20_heavy.f ((rd_T35 x0 x3).f0.f0) ((rd_T35 x0 x3).f0.f1) ((rd_T35 x0 x3).f0.f2) ((rd_T35 x0 x3).f0.f3) ((rd_T35 x0 x3).f0.f4) ((rd_T35 x0 x3).f0.f5) ((rd_T35 x0 x3).f0.f6) ((rd_T35 x0 x3).f1.f0) ((rd_T35 x0 x3).f1.f1) ((rd_T35 x0 x3).f1.f2) ((rd_T35 x0 x3).f1.f3) ((rd_T35 x0 x3).f1.f4) ((rd_T35 x0 x3).f1.f5) ((rd_T35 x0 x3).f2) ((rd_T35 x0 x3).f3) ((rd_T35 x0 x3).f4) ((rd_T35 x0 x3).f5) ((rd_T35 x0 x3).f6) ((rd_T35 x0 x3).f7.f0) ((rd_T35 x0 x3).f7.f1) ((rd_T35 x0 x3).f7.f2) ((rd_T35 x0 x3).f7.f3) ((rd_T35 x0 x3).f8)).bind fun t444 => (if t444 = true then (some true) else (gangwaylaw20_StatExact.j3 k x0 x3 ((rd_T35 x0 x3).f0.f0) ((rd_T35 x0 x3).f0.f1) ((rd_T35 x0 x3).f0.f2) ((rd_T35 x0 x3).f0.f3) ((rd_T35 x0 x3).f0.f4) ((rd_T35 x0 x3).f0.f5) ((rd_T35 x0 x3).f0.f6) ((rd_T35 x0 x3).f1.f0) ((rd_T35 x0 x3).f1.f1) ((rd_T35 x0 x3).f1.f2) ((rd_T35 x0 x3).f1.f3) ((rd_T35 x0 x3).f1.f4) ((rd_T35 x0 x3).f1.f5) ((rd_T35 x0 x3).f2) ((rd_T35 x0 x3).f3) ((rd_T35 x0 x3).f4) ((rd_T35 x0 x3).f5) ((rd_T35 x0 x3).f6) ((rd_T35 x0 x3).f7.f0) ((rd_T35 x0 x3).f7.f1) ((rd_T35 x0 x3).f7.f2) ((rd_T35 x0 x3).f7.f3) ((rd_T35 x0 x3).f8)))) else (none)) else (none)
def gangwaylaw20_StatExact.j3 : Nat → List (S35) → Int → Int → Int → Int → Int → Int → Int → ByteArray → Int → List Int → List (S93) → ByteArray → Int → Int → Int → ByteArray → Int → Int → Int → Int → Int → Int → Int → List Int → Option (Bool)
 | 0, _, _, _, _, _, _, _, _, _, _, _, _, _, _, _, _, _, _, _, _, _, _, _, _, _ => none
 | k + 1, x0, x3, x444000, x444001, x444002, x444003, x444004, x444005, x444006, x444007, x444008, x444009, x444010, x444011, x444012, x444013, x444014, x444015, x444016, x444017, x444018, x444019, x444020, x444021, x444022 => (stat_Fdstat.f k x444000 x444001 x444002 x444003 x444004 x444005 x444006).bind fun bt445 => ((gangwayref17_MayFd.f x444000 x444001 x444002 x444003 x444004 x444005 x444006).bind fun t449 => ((gangwayref20_Fdstat.f k x444000 x444001 x444002 x444003 x444004 x444005 x444006).bind fun t450 => ((gangwaylaw20_is.f k bt445.1 bt445.2 t449 t450).bind fun t453 => (if t453 = true then (gangwaylaw20_StatExact.j4 k x0 x3 x444000 x444001 x444002 x444003 x444004 x444005 x444006 x444007 x444008 x444009 x444010 x444011 x444012 x444013 x444014 x444015 x444016 x444017 x444018 x444019 x444020 x444021 x444022) else (none)))))
def gangwaylaw20_StatExact.j4 : Nat → List (S35) → Int → Int → Int → Int → Int → Int → Int → ByteArray → Int → List Int → List (S93) → ByteArray → Int → Int → Int → ByteArray → Int → Int → Int → Int → Int → Int → Int → List Int → Option (Bool)
 | 0, _, _, _, _, _, _, _, _, _, _, _, _, _, _, _, _, _, _, _, _, _, _, _, _, _ => none
 | k + 1, x0, x3, x444000, x444001, x444002, x444003, x444004, x444005, x444006, x444007, x444008, x444009, x444010, x444011, x444012, x444013, x444014, x444015, x444016, x444017, x444018, x444019, x444020, x444021, x444022 => (stat_Filestat.f k x444007 x444008 x444009 x444010 x444011 x444012 x444013).bind fun bt454 => (if x444007 ≥ 1 then (if x444007 ≤ 3 then (if x444013 ≥ 0 then ((gangwayref20_Filestat.f k x444007 x444008 x444009 x444010 x444011 x444012 x444013).bind fun t458 => ((gangwaylaw20_is.f k bt454.1 bt454.2 (decide (x444013 < 64)) t458).bind fun t461 => (gangwaylaw20_StatExact.j5 k x0 x3 (!t461) x444000 x444001 x444002 x444003 x444004 x444005 x444006 x444007 x444008 x444009 x444010 x444011 x444012 x444013 x444014 x444015 x444016 x444017 x444018 x444019 x444020 x444021 x444022))) else ((gangwayref20_Filestat.f k x444007 x444008 x444009 x444010 x444011 x444012 x444013).bind fun t462 => ((gangwaylaw20_is.f k bt454.1 bt454.2 false t462).bind fun t465 => (gangwaylaw20_StatExact.j5 k x0 x3 (!t465) x444000 x444001 x444002 x444003 x444004 x444005 x444006 x444007 x444008 x444009 x444010 x444011 x444012 x444013 x444014 x444015 x444016 x444017 x444018 x444019 x444020 x444021 x444022)))) else ((gangwayref20_Filestat.f k x444007 x444008 x444009 x444010 x444011 x444012 x444013).bind fun t466 => ((gangwaylaw20_is.f k bt454.1 bt454.2 false t466).bind fun t469 => (gangwaylaw20_StatExact.j5 k x0 x3 (!t469) x444000 x444001 x444002 x444003 x444004 x444005 x444006 x444007 x444008 x444009 x444010 x444011 x444012 x444013 x444014 x444015 x444016 x444017 x444018 x444019 x444020 x444021 x444022)))) else ((gangwayref20_Filestat.f k x444007 x444008 x444009 x444010 x444011 x444012 x444013).bind fun t470 => ((gangwaylaw20_is.f k bt454.1 bt454.2 false t470).bind fun t473 => (gangwaylaw20_StatExact.j5 k x0 x3 (!t473) x444000 x444001 x444002 x444003 x444004 x444005 x444006 x444007 x444008 x444009 x444010 x444011 x444012 x444013 x444014 x444015 x444016 x444017 x444018 x444019 x444020 x444021 x444022))))
def gangwaylaw20_StatExact.j5 : Nat → List (S35) → Int → Bool → Int → Int → Int → Int → Int → Int → ByteArray → Int → List Int → List (S93) → ByteArray → Int → Int → Int → ByteArray → Int → Int → Int → Int → Int → Int → Int → List Int → Option (Bool)
 | 0, _, _, _, _, _, _, _, _, _, _, _, _, _, _, _, _, _, _, _, _, _, _, _, _, _, _ => none
 | k + 1, x0, x3, x75, x444000, x444001, x444002, x444003, x444004, x444005, x444006, x444007, x444008, x444009, x444010, x444011, x444012, x444013, x444014, x444015, x444016, x444017, x444018, x444019, x444020, x444021, x444022 => if x75 = true then (none) else (gangwaylaw20_StatExact.j6 k x0 x3 x444000 x444001 x444002 x444003 x444004 x444005 x444006 x444007 x444008 x444009 x444010 x444011 x444012 x444013 x444014 x444015 x444016 x444017 x444018 x444019 x444020 x444021 x444022)
def gangwaylaw20_StatExact.j6 : Nat → List (S35) → Int → Int → Int → Int → Int → Int → Int → ByteArray → Int → List Int → List (S93) → ByteArray → Int → Int → Int → ByteArray → Int → Int → Int → Int → Int → Int → Int → List Int → Option (Bool)
 | 0, _, _, _, _, _, _, _, _, _, _, _, _, _, _, _, _, _, _, _, _, _, _, _, _, _ => none
 | k + 1, x0, x3, x444000, x444001, x444002, x444003, x444004, x444005, x444006, x444007, x444008, x444009, x444010, x444011, x444012, x444013, x444014, x444015, x444016, x444017, x444018, x444019, x444020, x444021, x444022 => (stat_Dirent.f k x444015 x444016 x444014 x444017).bind fun bt474 => (if x444015 ≥ 0 then (if x444016 ≥ 0 then (if x444017 ≥ 1 then ((gangwayref20_Dirent.f k x444015 x444016 x444014 x444017).bind fun t478 => ((gangwaylaw20_is.f k bt474.1 bt474.2 (decide (x444017 ≤ 3)) t478).bind fun t481 => (gangwaylaw20_StatExact.j7 k x0 x3 (!t481) x444000 x444001 x444002 x444003 x444004 x444005 x444006 x444007 x444008 x444009 x444010 x444011 x444012 x444013 x444014 x444015 x444016 x444017 x444018 x444019 x444020 x444021 x444022))) else ((gangwayref20_Dirent.f k x444015 x444016 x444014 x444017).bind fun t482 => ((gangwaylaw20_is.f k bt474.1 bt474.2 false t482).bind fun t485 => (gangwaylaw20_StatExact.j7 k x0 x3 (!t485) x444000 x444001 x444002 x444003 x444004 x444005 x444006 x444007 x444008 x444009 x444010 x444011 x444012 x444013 x444014 x444015 x444016 x444017 x444018 x444019 x444020 x444021 x444022)))) else ((gangwayref20_Dirent.f k x444015 x444016 x444014 x444017).bind fun t486 => ((gangwaylaw20_is.f k bt474.1 bt474.2 false t486).bind fun t489 => (gangwaylaw20_StatExact.j7 k x0 x3 (!t489) x444000 x444001 x444002 x444003 x444004 x444005 x444006 x444007 x444008 x444009 x444010 x444011 x444012 x444013 x444014 x444015 x444016 x444017 x444018 x444019 x444020 x444021 x444022)))) else ((gangwayref20_Dirent.f k x444015 x444016 x444014 x444017).bind fun t490 => ((gangwaylaw20_is.f k bt474.1 bt474.2 false t490).bind fun t493 => (gangwaylaw20_StatExact.j7 k x0 x3 (!t493) x444000 x444001 x444002 x444003 x444004 x444005 x444006 x444007 x444008 x444009 x444010 x444011 x444012 x444013 x444014 x444015 x444016 x444017 x444018 x444019 x444020 x444021 x444022))))
def gangwaylaw20_StatExact.j7 : Nat → List (S35) → Int → Bool → Int → Int → Int → Int → Int → Int → ByteArray → Int → List Int → List (S93) → ByteArray → Int → Int → Int → ByteArray → Int → Int → Int → Int → Int → Int → Int → List Int → Option (Bool)
 | 0, _, _, _, _, _, _, _, _, _, _, _, _, _, _, _, _, _, _, _, _, _, _, _, _, _, _ => none
 | k + 1, x0, x3, x118, x444000, x444001, x444002, x444003, x444004, x444005, x444006, x444007, x444008, x444009, x444010, x444011, x444012, x444013, x444014, x444015, x444016, x444017, x444018, x444019, x444020, x444021, x444022 => if x118 = true then (none) else (gangwaylaw20_StatExact.j8 k x0 x3 x444000 x444001 x444002 x444003 x444004 x444005 x444006 x444007 x444008 x444009 x444010 x444011 x444012 x444013 x444014 x444015 x444016 x444017 x444018 x444019 x444020 x444021 x444022)
def gangwaylaw20_StatExact.j8 : Nat → List (S35) → Int → Int → Int → Int → Int → Int → Int → ByteArray → Int → List Int → List (S93) → ByteArray → Int → Int → Int → ByteArray → Int → Int → Int → Int → Int → Int → Int → List Int → Option (Bool)
 | 0, _, _, _, _, _, _, _, _, _, _, _, _, _, _, _, _, _, _, _, _, _, _, _, _, _ => none
 | k + 1, x0, x3, x444000, x444001, x444002, x444003, x444004, x444005, x444006, x444007, x444008, x444009, x444010, x444011, x444012, x444013, x444014, x444015, x444016, x444017, x444018, x444019, x444020, x444021, x444022 => (stat_Event.f k x444018 x444019 x444020 x444021).bind fun bt494 => ((gangwayref20_MayEvent.f x444018 x444019 x444020 x444021).bind fun t498 => ((gangwayref20_Event.f k x444018 x444019 x444020 x444021).bind fun t499 => ((gangwaylaw20_is.f k bt494.1 bt494.2 t498 t499).bind fun t502 => (if t502 = true then (gangwaylaw20_StatExact.j9 k x0 x3 x444000 x444001 x444002 x444003 x444004 x444005 x444006 x444007 x444008 x444009 x444010 x444011 x444012 x444013 x444014 x444015 x444016 x444017 x444018 x444019 x444020 x444021 x444022) else (none)))))
def gangwaylaw20_StatExact.j9 : Nat → List (S35) → Int → Int → Int → Int → Int → Int → Int → ByteArray → Int → List Int → List (S93) → ByteArray → Int → Int → Int → ByteArray → Int → Int → Int → Int → Int → Int → Int → List Int → Option (Bool)
 | 0, _, _, _, _, _, _, _, _, _, _, _, _, _, _, _, _, _, _, _, _, _, _, _, _, _ => none
 | k + 1, x0, x3, x444000, x444001, x444002, x444003, x444004, x444005, x444006, x444007, x444008, x444009, x444010, x444011, x444012, x444013, x444014, x444015, x444016, x444017, x444018, x444019, x444020, x444021, x444022 => (stat_Prestat.f k x444014).bind fun t503 => ((gangwayref20_Prestat.f k x444014).bind fun t506 => ((gangwayref0_EqBytes.f k t503 t506).bind fun t509 => (if t509 = true then ((stat_Stream.f k).bind fun t510 => ((gangwayref20_Stream.f).bind fun t513 => ((gangwayref0_EqBytes.f k t510 t513).bind fun t516 => (gangwaylaw20_StatExact.j10 k x0 x3 (!t516))))) else (none))))
def gangwaylaw20_StatExact.j10 : Nat → List (S35) → Int → Bool → Option (Bool)
 | 0, _, _, _ => none
 | k + 1, x0, x3, x148 => if x148 = true then (none) else (gangwaylaw20_StatExact.l0 k x0 (wrap64 (x3 + 1)))
end
def gangwaylaw20_StatExact.f (k : Nat) (l0 : List (S35)) : Option (Bool) := gangwaylaw20_StatExact.l0 k l0 0
theorem gangwaylaw20_StatExact.mono_l : ∀ k, (LeO (gangwaylaw20_StatExact.j11 k ) (gangwaylaw20_StatExact.j11 (k + 1) )) ∧ (∀ y0 y1, LeO (gangwaylaw20_StatExact.l0 k y0 y1) (gangwaylaw20_StatExact.l0 (k + 1) y0 y1)) ∧ (∀ y0 y1 y2, LeO (gangwaylaw20_StatExact.j1 k y0 y1 y2) (gangwaylaw20_StatExact.j1 (k + 1) y0 y1 y2)) ∧ (∀ y0 y1, LeO (gangwaylaw20_StatExact.j2 k y0 y1) (gangwaylaw20_StatExact.j2 (k + 1) y0 y1)) ∧ (∀ y0 y1 y2 y3 y4 y5 y6 y7 y8 y9 y10 y11 y12 y13 y14 y15 y16 y17 y18 y19 y20 y21 y22 y23 y24, LeO (gangwaylaw20_StatExact.j3 k y0 y1 y2 y3 y4 y5 y6 y7 y8 y9 y10 y11 y12 y13 y14 y15 y16 y17 y18 y19 y20 y21 y22 y23 y24) (gangwaylaw20_StatExact.j3 (k + 1) y0 y1 y2 y3 y4 y5 y6 y7 y8 y9 y10 y11 y12 y13 y14 y15 y16 y17 y18 y19 y20 y21 y22 y23 y24)) ∧ (∀ y0 y1 y2 y3 y4 y5 y6 y7 y8 y9 y10 y11 y12 y13 y14 y15 y16 y17 y18 y19 y20 y21 y22 y23 y24, LeO (gangwaylaw20_StatExact.j4 k y0 y1 y2 y3 y4 y5 y6 y7 y8 y9 y10 y11 y12 y13 y14 y15 y16 y17 y18 y19 y20 y21 y22 y23 y24) (gangwaylaw20_StatExact.j4 (k + 1) y0 y1 y2 y3 y4 y5 y6 y7 y8 y9 y10 y11 y12 y13 y14 y15 y16 y17 y18 y19 y20 y21 y22 y23 y24)) ∧ (∀ y0 y1 y2 y3 y4 y5 y6 y7 y8 y9 y10 y11 y12 y13 y14 y15 y16 y17 y18 y19 y20 y21 y22 y23 y24 y25, LeO (gangwaylaw20_StatExact.j5 k y0 y1 y2 y3 y4 y5 y6 y7 y8 y9 y10 y11 y12 y13 y14 y15 y16 y17 y18 y19 y20 y21 y22 y23 y24 y25) (gangwaylaw20_StatExact.j5 (k + 1) y0 y1 y2 y3 y4 y5 y6 y7 y8 y9 y10 y11 y12 y13 y14 y15 y16 y17 y18 y19 y20 y21 y22 y23 y24 y25)) ∧ (∀ y0 y1 y2 y3 y4 y5 y6 y7 y8 y9 y10 y11 y12 y13 y14 y15 y16 y17 y18 y19 y20 y21 y22 y23 y24, LeO (gangwaylaw20_StatExact.j6 k y0 y1 y2 y3 y4 y5 y6 y7 y8 y9 y10 y11 y12 y13 y14 y15 y16 y17 y18 y19 y20 y21 y22 y23 y24) (gangwaylaw20_StatExact.j6 (k + 1) y0 y1 y2 y3 y4 y5 y6 y7 y8 y9 y10 y11 y12 y13 y14 y15 y16 y17 y18 y19 y20 y21 y22 y23 y24)) ∧ (∀ y0 y1 y2 y3 y4 y5 y6 y7 y8 y9 y10 y11 y12 y13 y14 y15 y16 y17 y18 y19 y20 y21 y22 y23 y24 y25, LeO (gangwaylaw20_StatExact.j7 k y0 y1 y2 y3 y4 y5 y6 y7 y8 y9 y10 y11 y12 y13 y14 y15 y16 y17 y18 y19 y20 y21 y22 y23 y24 y25) (gangwaylaw20_StatExact.j7 (k + 1) y0 y1 y2 y3 y4 y5 y6 y7 y8 y9 y10 y11 y12 y13 y14 y15 y16 y17 y18 y19 y20 y21 y22 y23 y24 y25)) ∧ (∀ y0 y1 y2 y3 y4 y5 y6 y7 y8 y9 y10 y11 y12 y13 y14 y15 y16 y17 y18 y19 y20 y21 y22 y23 y24, LeO (gangwaylaw20_StatExact.j8 k y0 y1 y2 y3 y4 y5 y6 y7 y8 y9 y10 y11 y12 y13 y14 y15 y16 y17 y18 y19 y20 y21 y22 y23 y24) (gangwaylaw20_StatExact.j8 (k + 1) y0 y1 y2 y3 y4 y5 y6 y7 y8 y9 y10 y11 y12 y13 y14 y15 y16 y17 y18 y19 y20 y21 y22 y23 y24)) ∧ (∀ y0 y1 y2 y3 y4 y5 y6 y7 y8 y9 y10 y11 y12 y13 y14 y15 y16 y17 y18 y19 y20 y21 y22 y23 y24, LeO (gangwaylaw20_StatExact.j9 k y0 y1 y2 y3 y4 y5 y6 y7 y8 y9 y10 y11 y12 y13 y14 y15 y16 y17 y18 y19 y20 y21 y22 y23 y24) (gangwaylaw20_StatExact.j9 (k + 1) y0 y1 y2 y3 y4 y5 y6 y7 y8 y9 y10 y11 y12 y13 y14 y15 y16 y17 y18 y19 y20 y21 y22 y23 y24)) ∧ (∀ y0 y1 y2, LeO (gangwaylaw20_StatExact.j10 k y0 y1 y2) (gangwaylaw20_StatExact.j10 (k + 1) y0 y1 y2))
 | 0 => ⟨fun r h => by simp [gangwaylaw20_StatExact.j11] at h, fun _ _ r h => by simp [gangwaylaw20_StatExact.l0] at h, fun _ _ _ r h => by simp [gangwaylaw20_StatExact.j1] at h, fun _ _ r h => by simp [gangwaylaw20_StatExact.j2] at h, fun _ _ _ _ _ _ _ _ _ _ _ _ _ _ _ _ _ _ _ _ _ _ _ _ _ r h => by simp [gangwaylaw20_StatExact.j3] at h, fun _ _ _ _ _ _ _ _ _ _ _ _ _ _ _ _ _ _ _ _ _ _ _ _ _ r h => by simp [gangwaylaw20_StatExact.j4] at h, fun _ _ _ _ _ _ _ _ _ _ _ _ _ _ _ _ _ _ _ _ _ _ _ _ _ _ r h => by simp [gangwaylaw20_StatExact.j5] at h, fun _ _ _ _ _ _ _ _ _ _ _ _ _ _ _ _ _ _ _ _ _ _ _ _ _ r h => by simp [gangwaylaw20_StatExact.j6] at h, fun _ _ _ _ _ _ _ _ _ _ _ _ _ _ _ _ _ _ _ _ _ _ _ _ _ _ r h => by simp [gangwaylaw20_StatExact.j7] at h, fun _ _ _ _ _ _ _ _ _ _ _ _ _ _ _ _ _ _ _ _ _ _ _ _ _ r h => by simp [gangwaylaw20_StatExact.j8] at h, fun _ _ _ _ _ _ _ _ _ _ _ _ _ _ _ _ _ _ _ _ _ _ _ _ _ r h => by simp [gangwaylaw20_StatExact.j9] at h, fun _ _ _ r h => by simp [gangwaylaw20_StatExact.j10] at h⟩
 | k + 1 => by
  obtain ⟨ih0, ih1, ih2, ih3, ih4, ih5, ih6, ih7, ih8, ih9, ih10, ih11⟩ := gangwaylaw20_StatExact.mono_l k
  refine ⟨?_, ?_, ?_, ?_, ?_, ?_, ?_, ?_, ?_, ?_, ?_, ?_⟩
  ·skip
   unfold gangwaylaw20_StatExact.j11
   repeat' first
   | (with_reducible exact ih0)
   | (with_reducible apply ih1)
   | (with_reducible apply ih2)
   | (with_reducible apply ih3)
   | (with_reducible apply ih4)
   | (with_reducible apply ih5)
   | (with_reducible apply ih6)
   | (with_reducible apply ih7)
   | (with_reducible apply ih8)
   | (with_reducible apply ih9)
   | (with_reducible apply ih10)
   | (with_reducible apply ih11)
   | (with_reducible exact gangwaylaw20_is.mono _ _ _ _ _)
   | (with_reducible exact gangwaylaw20_wakes.mono _)
   | (with_reducible exact gangwayref0_EqBytes.mono _ _ _)
   | (with_reducible exact gangwayref20_Dirent.mono _ _ _ _ _)
   | (with_reducible exact gangwayref20_Event.mono _ _ _ _ _)
   | (with_reducible exact gangwayref20_Fdstat.mono _ _ _ _ _ _ _ _)
   | (with_reducible exact gangwayref20_Filestat.mono _ _ _ _ _ _ _ _)
   | (with_reducible exact gangwayref20_Prestat.mono _ _)
   | (with_reducible exact stat_Dirent.mono _ _ _ _ _)
   | (with_reducible exact stat_Event.mono _ _ _ _ _)
   | (with_reducible exact stat_Fdstat.mono _ _ _ _ _ _ _ _)
   | (with_reducible exact stat_Filestat.mono _ _ _ _ _ _ _ _)
   | (with_reducible exact stat_Prestat.mono _ _)
   | (with_reducible exact stat_Stream.mono _)
   | (with_reducible exact LeO.refl _)
   | (with_reducible exact LeO.none _)
   | (with_reducible refine LeO.ite ?_ ?_)
   | (with_reducible refine LeO.bind ?_ (fun _ => ?_))
   | exact ih0
   | apply ih1
   | apply ih2
   | apply ih3
   | apply ih4
   | apply ih5
   | apply ih6
   | apply ih7
   | apply ih8
   | apply ih9
   | apply ih10
   | apply ih11
   | exact gangwaylaw20_is.mono _ _ _ _ _
   | exact gangwaylaw20_wakes.mono _
   | exact gangwayref0_EqBytes.mono _ _ _
   | exact gangwayref20_Dirent.mono _ _ _ _ _
   | exact gangwayref20_Event.mono _ _ _ _ _
   | exact gangwayref20_Fdstat.mono _ _ _ _ _ _ _ _
   | exact gangwayref20_Filestat.mono _ _ _ _ _ _ _ _
   | exact gangwayref20_Prestat.mono _ _
   | exact stat_Dirent.mono _ _ _ _ _
   | exact stat_Event.mono _ _ _ _ _
   | exact stat_Fdstat.mono _ _ _ _ _ _ _ _
   | exact stat_Filestat.mono _ _ _ _ _ _ _ _
   | exact stat_Prestat.mono _ _
   | exact stat_Stream.mono _
   | exact LeO.none _
   | refine LeO.ite ?_ ?_
   | refine LeO.bind ?_ (fun _ => ?_)
  ·intro y0 y1
   unfold gangwaylaw20_StatExact.l0
   repeat' first
   | (with_reducible exact ih0)
   | (with_reducible apply ih1)
   | (with_reducible apply ih2)
   | (with_reducible apply ih3)
   | (with_reducible apply ih4)
   | (with_reducible apply ih5)
   | (with_reducible apply ih6)
   | (with_reducible apply ih7)
   | (with_reducible apply ih8)
   | (with_reducible apply ih9)
   | (with_reducible apply ih10)
   | (with_reducible apply ih11)
   | (with_reducible exact gangwaylaw20_is.mono _ _ _ _ _)
   | (with_reducible exact gangwaylaw20_wakes.mono _)
   | (with_reducible exact gangwayref0_EqBytes.mono _ _ _)
   | (with_reducible exact gangwayref20_Dirent.mono _ _ _ _ _)
   | (with_reducible exact gangwayref20_Event.mono _ _ _ _ _)
   | (with_reducible exact gangwayref20_Fdstat.mono _ _ _ _ _ _ _ _)
   | (with_reducible exact gangwayref20_Filestat.mono _ _ _ _ _ _ _ _)
   | (with_reducible exact gangwayref20_Prestat.mono _ _)
   | (with_reducible exact stat_Dirent.mono _ _ _ _ _)
   | (with_reducible exact stat_Event.mono _ _ _ _ _)
   | (with_reducible exact stat_Fdstat.mono _ _ _ _ _ _ _ _)
   | (with_reducible exact stat_Filestat.mono _ _ _ _ _ _ _ _)
   | (with_reducible exact stat_Prestat.mono _ _)
   | (with_reducible exact stat_Stream.mono _)
   | (with_reducible exact LeO.refl _)
   | (with_reducible exact LeO.none _)
   | (with_reducible refine LeO.ite ?_ ?_)
   | (with_reducible refine LeO.bind ?_ (fun _ => ?_))
   | exact ih0
   | apply ih1
   | apply ih2
   | apply ih3
   | apply ih4
   | apply ih5
   | apply ih6
   | apply ih7
   | apply ih8
   | apply ih9
   | apply ih10
   | apply ih11
   | exact gangwaylaw20_is.mono _ _ _ _ _
   | exact gangwaylaw20_wakes.mono _
   | exact gangwayref0_EqBytes.mono _ _ _
   | exact gangwayref20_Dirent.mono _ _ _ _ _
   | exact gangwayref20_Event.mono _ _ _ _ _
   | exact gangwayref20_Fdstat.mono _ _ _ _ _ _ _ _
   | exact gangwayref20_Filestat.mono _ _ _ _ _ _ _ _
   | exact gangwayref20_Prestat.mono _ _
   | exact stat_Dirent.mono _ _ _ _ _
   | exact stat_Event.mono _ _ _ _ _
   | exact stat_Fdstat.mono _ _ _ _ _ _ _ _
   | exact stat_Filestat.mono _ _ _ _ _ _ _ _
   | exact stat_Prestat.mono _ _
   | exact stat_Stream.mono _
   | exact LeO.none _
   | refine LeO.ite ?_ ?_
   | refine LeO.bind ?_ (fun _ => ?_)
  ·intro y0 y1 y2
   unfold gangwaylaw20_StatExact.j1
   repeat' first
   | (with_reducible exact ih0)
   | (with_reducible apply ih1)
   | (with_reducible apply ih2)
   | (with_reducible apply ih3)
   | (with_reducible apply ih4)
   | (with_reducible apply ih5)
   | (with_reducible apply ih6)
   | (with_reducible apply ih7)
   | (with_reducible apply ih8)
   | (with_reducible apply ih9)
   | (with_reducible apply ih10)
   | (with_reducible apply ih11)
   | (with_reducible exact gangwaylaw20_is.mono _ _ _ _ _)
   | (with_reducible exact gangwaylaw20_wakes.mono _)
   | (with_reducible exact gangwayref0_EqBytes.mono _ _ _)
   | (with_reducible exact gangwayref20_Dirent.mono _ _ _ _ _)
   | (with_reducible exact gangwayref20_Event.mono _ _ _ _ _)
   | (with_reducible exact gangwayref20_Fdstat.mono _ _ _ _ _ _ _ _)
   | (with_reducible exact gangwayref20_Filestat.mono _ _ _ _ _ _ _ _)
   | (with_reducible exact gangwayref20_Prestat.mono _ _)
   | (with_reducible exact stat_Dirent.mono _ _ _ _ _)
   | (with_reducible exact stat_Event.mono _ _ _ _ _)
   | (with_reducible exact stat_Fdstat.mono _ _ _ _ _ _ _ _)
   | (with_reducible exact stat_Filestat.mono _ _ _ _ _ _ _ _)
   | (with_reducible exact stat_Prestat.mono _ _)
   | (with_reducible exact stat_Stream.mono _)
   | (with_reducible exact LeO.refl _)
   | (with_reducible exact LeO.none _)
   | (with_reducible refine LeO.ite ?_ ?_)
   | (with_reducible refine LeO.bind ?_ (fun _ => ?_))
   | exact ih0
   | apply ih1
   | apply ih2
   | apply ih3
   | apply ih4
   | apply ih5
   | apply ih6
   | apply ih7
   | apply ih8
   | apply ih9
   | apply ih10
   | apply ih11
   | exact gangwaylaw20_is.mono _ _ _ _ _
   | exact gangwaylaw20_wakes.mono _
   | exact gangwayref0_EqBytes.mono _ _ _
   | exact gangwayref20_Dirent.mono _ _ _ _ _
   | exact gangwayref20_Event.mono _ _ _ _ _
   | exact gangwayref20_Fdstat.mono _ _ _ _ _ _ _ _
   | exact gangwayref20_Filestat.mono _ _ _ _ _ _ _ _
   | exact gangwayref20_Prestat.mono _ _
   | exact stat_Dirent.mono _ _ _ _ _
   | exact stat_Event.mono _ _ _ _ _
   | exact stat_Fdstat.mono _ _ _ _ _ _ _ _
   | exact stat_Filestat.mono _ _ _ _ _ _ _ _
   | exact stat_Prestat.mono _ _
   | exact stat_Stream.mono _
   | exact LeO.none _
   | refine LeO.ite ?_ ?_
   | refine LeO.bind ?_ (fun _ => ?_)
  ·intro y0 y1
   unfold gangwaylaw20_StatExact.j2
   repeat' first
   | (with_reducible exact ih0)
   | (with_reducible apply ih1)
   | (with_reducible apply ih2)
   | (with_reducible apply ih3)
   | (with_reducible apply ih4)
   | (with_reducible apply ih5)
   | (with_reducible apply ih6)
   | (with_reducible apply ih7)
   | (with_reducible apply ih8)
   | (with_reducible apply ih9)
   | (with_reducible apply ih10)
   | (with_reducible apply ih11)
   | (with_reducible exact gangwaylaw20_is.mono _ _ _ _ _)
   | (with_reducible exact gangwaylaw20_wakes.mono _)
   | (with_reducible exact gangwayref0_EqBytes.mono _ _ _)
   | (with_reducible exact gangwayref20_Dirent.mono _ _ _ _ _)
   | (with_reducible exact gangwayref20_Event.mono _ _ _ _ _)
   | (with_reducible exact gangwayref20_Fdstat.mono _ _ _ _ _ _ _ _)
   | (with_reducible exact gangwayref20_Filestat.mono _ _ _ _ _ _ _ _)
   | (with_reducible exact gangwayref20_Prestat.mono _ _)
   | (with_reducible exact stat_Dirent.mono _ _ _ _ _)
   | (with_reducible exact stat_Event.mono _ _ _ _ _)
   | (with_reducible exact stat_Fdstat.mono _ _ _ _ _ _ _ _)
   | (with_reducible exact stat_Filestat.mono _ _ _ _ _ _ _ _)
   | (with_reducible exact stat_Prestat.mono _ _)
   | (with_reducible exact stat_Stream.mono _)
   | (with_reducible exact LeO.refl _)
   | (with_reducible exact LeO.none _)
   | (with_reducible refine LeO.ite ?_ ?_)
   | (with_reducible refine LeO.bind ?_ (fun _ => ?_))
   | exact ih0
   | apply ih1
   | apply ih2
   | apply ih3
   | apply ih4
   | apply ih5
   | apply ih6
   | apply ih7
   | apply ih8
   | apply ih9
   | apply ih10
   | apply ih11
   | exact gangwaylaw20_is.mono _ _ _ _ _
   | exact gangwaylaw20_wakes.mono _
   | exact gangwayref0_EqBytes.mono _ _ _
   | exact gangwayref20_Dirent.mono _ _ _ _ _
   | exact gangwayref20_Event.mono _ _ _ _ _
   | exact gangwayref20_Fdstat.mono _ _ _ _ _ _ _ _
   | exact gangwayref20_Filestat.mono _ _ _ _ _ _ _ _
   | exact gangwayref20_Prestat.mono _ _
   | exact stat_Dirent.mono _ _ _ _ _
   | exact stat_Event.mono _ _ _ _ _
   | exact stat_Fdstat.mono _ _ _ _ _ _ _ _
   | exact stat_Filestat.mono _ _ _ _ _ _ _ _
   | exact stat_Prestat.mono _ _
   | exact stat_Stream.mono _
   | exact LeO.none _
   | refine LeO.ite ?_ ?_
   | refine LeO.bind ?_ (fun _ => ?_)
  ·intro y0 y1 y2 y3 y4 y5 y6 y7 y8 y9 y10 y11 y12 y13 y14 y15 y16 y17 y18 y19 y20 y21 y22 y23 y24
   unfold gangwaylaw20_StatExact.j3
   repeat' first
   | (with_reducible exact ih0)
   | (with_reducible apply ih1)
   | (with_reducible apply ih2)
   | (with_reducible apply ih3)
   | (with_reducible apply ih4)
   | (with_reducible apply ih5)
   | (with_reducible apply ih6)
   | (with_reducible apply ih7)
   | (with_reducible apply ih8)
   | (with_reducible apply ih9)
   | (with_reducible apply ih10)
   | (with_reducible apply ih11)
   | (with_reducible exact gangwaylaw20_is.mono _ _ _ _ _)
   | (with_reducible exact gangwaylaw20_wakes.mono _)
   | (with_reducible exact gangwayref0_EqBytes.mono _ _ _)
   | (with_reducible exact gangwayref20_Dirent.mono _ _ _ _ _)
   | (with_reducible exact gangwayref20_Event.mono _ _ _ _ _)
   | (with_reducible exact gangwayref20_Fdstat.mono _ _ _ _ _ _ _ _)
   | (with_reducible exact gangwayref20_Filestat.mono _ _ _ _ _ _ _ _)
   | (with_reducible exact gangwayref20_Prestat.mono _ _)
   | (with_reducible exact stat_Dirent.mono _ _ _ _ _)
   | (with_reducible exact stat_Event.mono _ _ _ _ _)
   | (with_reducible exact stat_Fdstat.mono _ _ _ _ _ _ _ _)
   | (with_reducible exact stat_Filestat.mono _ _ _ _ _ _ _ _)
   | (with_reducible exact stat_Prestat.mono _ _)
   | (with_reducible exact stat_Stream.mono _)
   | (with_reducible exact LeO.refl _)
   | (with_reducible exact LeO.none _)
   | (with_reducible refine LeO.ite ?_ ?_)
   | (with_reducible refine LeO.bind ?_ (fun _ => ?_))
   | exact ih0
   | apply ih1
   | apply ih2
   | apply ih3
   | apply ih4
   | apply ih5
   | apply ih6
   | apply ih7
   | apply ih8
   | apply ih9
   | apply ih10
   | apply ih11
   | exact gangwaylaw20_is.mono _ _ _ _ _
   | exact gangwaylaw20_wakes.mono _
   | exact gangwayref0_EqBytes.mono _ _ _
   | exact gangwayref20_Dirent.mono _ _ _ _ _
   | exact gangwayref20_Event.mono _ _ _ _ _
   | exact gangwayref20_Fdstat.mono _ _ _ _ _ _ _ _
   | exact gangwayref20_Filestat.mono _ _ _ _ _ _ _ _
   | exact gangwayref20_Prestat.mono _ _
   | exact stat_Dirent.mono _ _ _ _ _
   | exact stat_Event.mono _ _ _ _ _
   | exact stat_Fdstat.mono _ _ _ _ _ _ _ _
   | exact stat_Filestat.mono _ _ _ _ _ _ _ _
   | exact stat_Prestat.mono _ _
   | exact stat_Stream.mono _
   | exact LeO.none _
   | refine LeO.ite ?_ ?_
   | refine LeO.bind ?_ (fun _ => ?_)
  ·intro y0 y1 y2 y3 y4 y5 y6 y7 y8 y9 y10 y11 y12 y13 y14 y15 y16 y17 y18 y19 y20 y21 y22 y23 y24
   unfold gangwaylaw20_StatExact.j4
   repeat' first
   | (with_reducible exact ih0)
   | (with_reducible apply ih1)
   | (with_reducible apply ih2)
   | (with_reducible apply ih3)
   | (with_reducible apply ih4)
   | (with_reducible apply ih5)
   | (with_reducible apply ih6)
   | (with_reducible apply ih7)
   | (with_reducible apply ih8)
   | (with_reducible apply ih9)
   | (with_reducible apply ih10)
   | (with_reducible apply ih11)
   | (with_reducible exact gangwaylaw20_is.mono _ _ _ _ _)
   | (with_reducible exact gangwaylaw20_wakes.mono _)
   | (with_reducible exact gangwayref0_EqBytes.mono _ _ _)
   | (with_reducible exact gangwayref20_Dirent.mono _ _ _ _ _)
   | (with_reducible exact gangwayref20_Event.mono _ _ _ _ _)
   | (with_reducible exact gangwayref20_Fdstat.mono _ _ _ _ _ _ _ _)
   | (with_reducible exact gangwayref20_Filestat.mono _ _ _ _ _ _ _ _)
   | (with_reducible exact gangwayref20_Prestat.mono _ _)
   | (with_reducible exact stat_Dirent.mono _ _ _ _ _)
   | (with_reducible exact stat_Event.mono _ _ _ _ _)
   | (with_reducible exact stat_Fdstat.mono _ _ _ _ _ _ _ _)
   | (with_reducible exact stat_Filestat.mono _ _ _ _ _ _ _ _)
   | (with_reducible exact stat_Prestat.mono _ _)
   | (with_reducible exact stat_Stream.mono _)
   | (with_reducible exact LeO.refl _)
   | (with_reducible exact LeO.none _)
   | (with_reducible refine LeO.ite ?_ ?_)
   | (with_reducible refine LeO.bind ?_ (fun _ => ?_))
   | exact ih0
   | apply ih1
   | apply ih2
   | apply ih3
   | apply ih4
   | apply ih5
   | apply ih6
   | apply ih7
   | apply ih8
   | apply ih9
   | apply ih10
   | apply ih11
   | exact gangwaylaw20_is.mono _ _ _ _ _
   | exact gangwaylaw20_wakes.mono _
   | exact gangwayref0_EqBytes.mono _ _ _
   | exact gangwayref20_Dirent.mono _ _ _ _ _
   | exact gangwayref20_Event.mono _ _ _ _ _
   | exact gangwayref20_Fdstat.mono _ _ _ _ _ _ _ _
   | exact gangwayref20_Filestat.mono _ _ _ _ _ _ _ _
   | exact gangwayref20_Prestat.mono _ _
   | exact stat_Dirent.mono _ _ _ _ _
   | exact stat_Event.mono _ _ _ _ _
   | exact stat_Fdstat.mono _ _ _ _ _ _ _ _
   | exact stat_Filestat.mono _ _ _ _ _ _ _ _
   | exact stat_Prestat.mono _ _
   | exact stat_Stream.mono _
   | exact LeO.none _
   | refine LeO.ite ?_ ?_
   | refine LeO.bind ?_ (fun _ => ?_)
  ·intro y0 y1 y2 y3 y4 y5 y6 y7 y8 y9 y10 y11 y12 y13 y14 y15 y16 y17 y18 y19 y20 y21 y22 y23 y24 y25
   unfold gangwaylaw20_StatExact.j5
   repeat' first
   | (with_reducible exact ih0)
   | (with_reducible apply ih1)
   | (with_reducible apply ih2)
   | (with_reducible apply ih3)
   | (with_reducible apply ih4)
   | (with_reducible apply ih5)
   | (with_reducible apply ih6)
   | (with_reducible apply ih7)
   | (with_reducible apply ih8)
   | (with_reducible apply ih9)
   | (with_reducible apply ih10)
   | (with_reducible apply ih11)
   | (with_reducible exact gangwaylaw20_is.mono _ _ _ _ _)
   | (with_reducible exact gangwaylaw20_wakes.mono _)
   | (with_reducible exact gangwayref0_EqBytes.mono _ _ _)
   | (with_reducible exact gangwayref20_Dirent.mono _ _ _ _ _)
   | (with_reducible exact gangwayref20_Event.mono _ _ _ _ _)
   | (with_reducible exact gangwayref20_Fdstat.mono _ _ _ _ _ _ _ _)
   | (with_reducible exact gangwayref20_Filestat.mono _ _ _ _ _ _ _ _)
   | (with_reducible exact gangwayref20_Prestat.mono _ _)
   | (with_reducible exact stat_Dirent.mono _ _ _ _ _)
   | (with_reducible exact stat_Event.mono _ _ _ _ _)
   | (with_reducible exact stat_Fdstat.mono _ _ _ _ _ _ _ _)
   | (with_reducible exact stat_Filestat.mono _ _ _ _ _ _ _ _)
   | (with_reducible exact stat_Prestat.mono _ _)
   | (with_reducible exact stat_Stream.mono _)
   | (with_reducible exact LeO.refl _)
   | (with_reducible exact LeO.none _)
   | (with_reducible refine LeO.ite ?_ ?_)
   | (with_reducible refine LeO.bind ?_ (fun _ => ?_))
   | exact ih0
   | apply ih1
   | apply ih2
   | apply ih3
   | apply ih4
   | apply ih5
   | apply ih6
   | apply ih7
   | apply ih8
   | apply ih9
   | apply ih10
   | apply ih11
   | exact gangwaylaw20_is.mono _ _ _ _ _
   | exact gangwaylaw20_wakes.mono _
   | exact gangwayref0_EqBytes.mono _ _ _
   | exact gangwayref20_Dirent.mono _ _ _ _ _
   | exact gangwayref20_Event.mono _ _ _ _ _
   | exact gangwayref20_Fdstat.mono _ _ _ _ _ _ _ _
   | exact gangwayref20_Filestat.mono _ _ _ _ _ _ _ _
   | exact gangwayref20_Prestat.mono _ _
   | exact stat_Dirent.mono _ _ _ _ _
   | exact stat_Event.mono _ _ _ _ _
   | exact stat_Fdstat.mono _ _ _ _ _ _ _ _
   | exact stat_Filestat.mono _ _ _ _ _ _ _ _
   | exact stat_Prestat.mono _ _
   | exact stat_Stream.mono _
   | exact LeO.none _
   | refine LeO.ite ?_ ?_
   | refine LeO.bind ?_ (fun _ => ?_)
  ·intro y0 y1 y2 y3 y4 y5 y6 y7 y8 y9 y10 y11 y12 y13 y14 y15 y16 y17 y18 y19 y20 y21 y22 y23 y24
   unfold gangwaylaw20_StatExact.j6
   repeat' first
   | (with_reducible exact ih0)
   | (with_reducible apply ih1)
   | (with_reducible apply ih2)
   | (with_reducible apply ih3)
   | (with_reducible apply ih4)
   | (with_reducible apply ih5)
   | (with_reducible apply ih6)
   | (with_reducible apply ih7)
   | (with_reducible apply ih8)
   | (with_reducible apply ih9)
   | (with_reducible apply ih10)
   | (with_reducible apply ih11)
   | (with_reducible exact gangwaylaw20_is.mono _ _ _ _ _)
   | (with_reducible exact gangwaylaw20_wakes.mono _)
   | (with_reducible exact gangwayref0_EqBytes.mono _ _ _)
   | (with_reducible exact gangwayref20_Dirent.mono _ _ _ _ _)
   | (with_reducible exact gangwayref20_Event.mono _ _ _ _ _)
   | (with_reducible exact gangwayref20_Fdstat.mono _ _ _ _ _ _ _ _)
   | (with_reducible exact gangwayref20_Filestat.mono _ _ _ _ _ _ _ _)
   | (with_reducible exact gangwayref20_Prestat.mono _ _)
   | (with_reducible exact stat_Dirent.mono _ _ _ _ _)
   | (with_reducible exact stat_Event.mono _ _ _ _ _)
   | (with_reducible exact stat_Fdstat.mono _ _ _ _ _ _ _ _)
   | (with_reducible exact stat_Filestat.mono _ _ _ _ _ _ _ _)
   | (with_reducible exact stat_Prestat.mono _ _)
   | (with_reducible exact stat_Stream.mono _)
   | (with_reducible exact LeO.refl _)
   | (with_reducible exact LeO.none _)
   | (with_reducible refine LeO.ite ?_ ?_)
   | (with_reducible refine LeO.bind ?_ (fun _ => ?_))
   | exact ih0
   | apply ih1
   | apply ih2
   | apply ih3
   | apply ih4
   | apply ih5
   | apply ih6
   | apply ih7
   | apply ih8
   | apply ih9
   | apply ih10
   | apply ih11
   | exact gangwaylaw20_is.mono _ _ _ _ _
   | exact gangwaylaw20_wakes.mono _
   | exact gangwayref0_EqBytes.mono _ _ _
   | exact gangwayref20_Dirent.mono _ _ _ _ _
   | exact gangwayref20_Event.mono _ _ _ _ _
   | exact gangwayref20_Fdstat.mono _ _ _ _ _ _ _ _
   | exact gangwayref20_Filestat.mono _ _ _ _ _ _ _ _
   | exact gangwayref20_Prestat.mono _ _
   | exact stat_Dirent.mono _ _ _ _ _
   | exact stat_Event.mono _ _ _ _ _
   | exact stat_Fdstat.mono _ _ _ _ _ _ _ _
   | exact stat_Filestat.mono _ _ _ _ _ _ _ _
   | exact stat_Prestat.mono _ _
   | exact stat_Stream.mono _
   | exact LeO.none _
   | refine LeO.ite ?_ ?_
   | refine LeO.bind ?_ (fun _ => ?_)
  ·intro y0 y1 y2 y3 y4 y5 y6 y7 y8 y9 y10 y11 y12 y13 y14 y15 y16 y17 y18 y19 y20 y21 y22 y23 y24 y25
   unfold gangwaylaw20_StatExact.j7
   repeat' first
   | (with_reducible exact ih0)
   | (with_reducible apply ih1)
   | (with_reducible apply ih2)
   | (with_reducible apply ih3)
   | (with_reducible apply ih4)
   | (with_reducible apply ih5)
   | (with_reducible apply ih6)
   | (with_reducible apply ih7)
   | (with_reducible apply ih8)
   | (with_reducible apply ih9)
   | (with_reducible apply ih10)
   | (with_reducible apply ih11)
   | (with_reducible exact gangwaylaw20_is.mono _ _ _ _ _)
   | (with_reducible exact gangwaylaw20_wakes.mono _)
   | (with_reducible exact gangwayref0_EqBytes.mono _ _ _)
   | (with_reducible exact gangwayref20_Dirent.mono _ _ _ _ _)
   | (with_reducible exact gangwayref20_Event.mono _ _ _ _ _)
   | (with_reducible exact gangwayref20_Fdstat.mono _ _ _ _ _ _ _ _)
   | (with_reducible exact gangwayref20_Filestat.mono _ _ _ _ _ _ _ _)
   | (with_reducible exact gangwayref20_Prestat.mono _ _)
   | (with_reducible exact stat_Dirent.mono _ _ _ _ _)
   | (with_reducible exact stat_Event.mono _ _ _ _ _)
   | (with_reducible exact stat_Fdstat.mono _ _ _ _ _ _ _ _)
   | (with_reducible exact stat_Filestat.mono _ _ _ _ _ _ _ _)
   | (with_reducible exact stat_Prestat.mono _ _)
   | (with_reducible exact stat_Stream.mono _)
   | (with_reducible exact LeO.refl _)
   | (with_reducible exact LeO.none _)
   | (with_reducible refine LeO.ite ?_ ?_)
   | (with_reducible refine LeO.bind ?_ (fun _ => ?_))
   | exact ih0
   | apply ih1
   | apply ih2
   | apply ih3
   | apply ih4
   | apply ih5
   | apply ih6
   | apply ih7
   | apply ih8
   | apply ih9
   | apply ih10
   | apply ih11
   | exact gangwaylaw20_is.mono _ _ _ _ _
   | exact gangwaylaw20_wakes.mono _
   | exact gangwayref0_EqBytes.mono _ _ _
   | exact gangwayref20_Dirent.mono _ _ _ _ _
   | exact gangwayref20_Event.mono _ _ _ _ _
   | exact gangwayref20_Fdstat.mono _ _ _ _ _ _ _ _
   | exact gangwayref20_Filestat.mono _ _ _ _ _ _ _ _
   | exact gangwayref20_Prestat.mono _ _
   | exact stat_Dirent.mono _ _ _ _ _
   | exact stat_Event.mono _ _ _ _ _
   | exact stat_Fdstat.mono _ _ _ _ _ _ _ _
   | exact stat_Filestat.mono _ _ _ _ _ _ _ _
   | exact stat_Prestat.mono _ _
   | exact stat_Stream.mono _
   | exact LeO.none _
   | refine LeO.ite ?_ ?_
   | refine LeO.bind ?_ (fun _ => ?_)
  ·intro y0 y1 y2 y3 y4 y5 y6 y7 y8 y9 y10 y11 y12 y13 y14 y15 y16 y17 y18 y19 y20 y21 y22 y23 y24
   unfold gangwaylaw20_StatExact.j8
   repeat' first
   | (with_reducible exact ih0)
   | (with_reducible apply ih1)
   | (with_reducible apply ih2)
   | (with_reducible apply ih3)
   | (with_reducible apply ih4)
   | (with_reducible apply ih5)
   | (with_reducible apply ih6)
   | (with_reducible apply ih7)
   | (with_reducible apply ih8)
   | (with_reducible apply ih9)
   | (with_reducible apply ih10)
   | (with_reducible apply ih11)
   | (with_reducible exact gangwaylaw20_is.mono _ _ _ _ _)
   | (with_reducible exact gangwaylaw20_wakes.mono _)
   | (with_reducible exact gangwayref0_EqBytes.mono _ _ _)
   | (with_reducible exact gangwayref20_Dirent.mono _ _ _ _ _)
   | (with_reducible exact gangwayref20_Event.mono _ _ _ _ _)
   | (with_reducible exact gangwayref20_Fdstat.mono _ _ _ _ _ _ _ _)
   | (with_reducible exact gangwayref20_Filestat.mono _ _ _ _ _ _ _ _)
   | (with_reducible exact gangwayref20_Prestat.mono _ _)
   | (with_reducible exact stat_Dirent.mono _ _ _ _ _)
   | (with_reducible exact stat_Event.mono _ _ _ _ _)
   | (with_reducible exact stat_Fdstat.mono _ _ _ _ _ _ _ _)
   | (with_reducible exact stat_Filestat.mono _ _ _ _ _ _ _ _)
   | (with_reducible exact stat_Prestat.mono _ _)
   | (with_reducible exact stat_Stream.mono _)
   | (with_reducible exact LeO.refl _)
   | (with_reducible exact LeO.none _)
   | (with_reducible refine LeO.ite ?_ ?_)
   | (with_reducible refine LeO.bind ?_ (fun _ => ?_))
   | exact ih0
   | apply ih1
   | apply ih2
   | apply ih3
   | apply ih4
   | apply ih5
   | apply ih6
   | apply ih7
   | apply ih8
   | apply ih9
   | apply ih10
   | apply ih11
   | exact gangwaylaw20_is.mono _ _ _ _ _
   | exact gangwaylaw20_wakes.mono _
   | exact gangwayref0_EqBytes.mono _ _ _
   | exact gangwayref20_Dirent.mono _ _ _ _ _
   | exact gangwayref20_Event.mono _ _ _ _ _
   | exact gangwayref20_Fdstat.mono _ _ _ _ _ _ _ _
   | exact gangwayref20_Filestat.mono _ _ _ _ _ _ _ _
   | exact gangwayref20_Prestat.mono _ _
   | exact stat_Dirent.mono _ _ _ _ _
   | exact stat_Event.mono _ _ _ _ _
   | exact stat_Fdstat.mono _ _ _ _ _ _ _ _
   | exact stat_Filestat.mono _ _ _ _ _ _ _ _
   | exact stat_Prestat.mono _ _
   | exact stat_Stream.mono _
   | exact LeO.none _
   | refine LeO.ite ?_ ?_
   | refine LeO.bind ?_ (fun _ => ?_)
  ·intro y0 y1 y2 y3 y4 y5 y6 y7 y8 y9 y10 y11 y12 y13 y14 y15 y16 y17 y18 y19 y20 y21 y22 y23 y24
   unfold gangwaylaw20_StatExact.j9
   repeat' first
   | (with_reducible exact ih0)
   | (with_reducible apply ih1)
   | (with_reducible apply ih2)
   | (with_reducible apply ih3)
   | (with_reducible apply ih4)
   | (with_reducible apply ih5)
   | (with_reducible apply ih6)
   | (with_reducible apply ih7)
   | (with_reducible apply ih8)
   | (with_reducible apply ih9)
   | (with_reducible apply ih10)
   | (with_reducible apply ih11)
   | (with_reducible exact gangwaylaw20_is.mono _ _ _ _ _)
   | (with_reducible exact gangwaylaw20_wakes.mono _)
   | (with_reducible exact gangwayref0_EqBytes.mono _ _ _)
   | (with_reducible exact gangwayref20_Dirent.mono _ _ _ _ _)
   | (with_reducible exact gangwayref20_Event.mono _ _ _ _ _)
   | (with_reducible exact gangwayref20_Fdstat.mono _ _ _ _ _ _ _ _)
   | (with_reducible exact gangwayref20_Filestat.mono _ _ _ _ _ _ _ _)
   | (with_reducible exact gangwayref20_Prestat.mono _ _)
   | (with_reducible exact stat_Dirent.mono _ _ _ _ _)
   | (with_reducible exact stat_Event.mono _ _ _ _ _)
   | (with_reducible exact stat_Fdstat.mono _ _ _ _ _ _ _ _)
   | (with_reducible exact stat_Filestat.mono _ _ _ _ _ _ _ _)
   | (with_reducible exact stat_Prestat.mono _ _)
   | (with_reducible exact stat_Stream.mono _)
   | (with_reducible exact LeO.refl _)
   | (with_reducible exact LeO.none _)
   | (with_reducible refine LeO.ite ?_ ?_)
   | (with_reducible refine LeO.bind ?_ (fun _ => ?_))
   | exact ih0
   | apply ih1
   | apply ih2
   | apply ih3
   | apply ih4
   | apply ih5
   | apply ih6
   | apply ih7
   | apply ih8
   | apply ih9
   | apply ih10
   | apply ih11
   | exact gangwaylaw20_is.mono _ _ _ _ _
   | exact gangwaylaw20_wakes.mono _
   | exact gangwayref0_EqBytes.mono _ _ _
   | exact gangwayref20_Dirent.mono _ _ _ _ _
   | exact gangwayref20_Event.mono _ _ _ _ _
   | exact gangwayref20_Fdstat.mono _ _ _ _ _ _ _ _
   | exact gangwayref20_Filestat.mono _ _ _ _ _ _ _ _
   | exact gangwayref20_Prestat.mono _ _
   | exact stat_Dirent.mono _ _ _ _ _
   | exact stat_Event.mono _ _ _ _ _
   | exact stat_Fdstat.mono _ _ _ _ _ _ _ _
   | exact stat_Filestat.mono _ _ _ _ _ _ _ _
   | exact stat_Prestat.mono _ _
   | exact stat_Stream.mono _
   | exact LeO.none _
   | refine LeO.ite ?_ ?_
   | refine LeO.bind ?_ (fun _ => ?_)
  ·intro y0 y1 y2
   unfold gangwaylaw20_StatExact.j10
   repeat' first
   | (with_reducible exact ih0)
   | (with_reducible apply ih1)
   | (with_reducible apply ih2)
   | (with_reducible apply ih3)
   | (with_reducible apply ih4)
   | (with_reducible apply ih5)
   | (with_reducible apply ih6)
   | (with_reducible apply ih7)
   | (with_reducible apply ih8)
   | (with_reducible apply ih9)
   | (with_reducible apply ih10)
   | (with_reducible apply ih11)
   | (with_reducible exact gangwaylaw20_is.mono _ _ _ _ _)
   | (with_reducible exact gangwaylaw20_wakes.mono _)
   | (with_reducible exact gangwayref0_EqBytes.mono _ _ _)
   | (with_reducible exact gangwayref20_Dirent.mono _ _ _ _ _)
   | (with_reducible exact gangwayref20_Event.mono _ _ _ _ _)
   | (with_reducible exact gangwayref20_Fdstat.mono _ _ _ _ _ _ _ _)
   | (with_reducible exact gangwayref20_Filestat.mono _ _ _ _ _ _ _ _)
   | (with_reducible exact gangwayref20_Prestat.mono _ _)
   | (with_reducible exact stat_Dirent.mono _ _ _ _ _)
   | (with_reducible exact stat_Event.mono _ _ _ _ _)
   | (with_reducible exact stat_Fdstat.mono _ _ _ _ _ _ _ _)
   | (with_reducible exact stat_Filestat.mono _ _ _ _ _ _ _ _)
   | (with_reducible exact stat_Prestat.mono _ _)
   | (with_reducible exact stat_Stream.mono _)
   | (with_reducible exact LeO.refl _)
   | (with_reducible exact LeO.none _)
   | (with_reducible refine LeO.ite ?_ ?_)
   | (with_reducible refine LeO.bind ?_ (fun _ => ?_))
   | exact ih0
   | apply ih1
   | apply ih2
   | apply ih3
   | apply ih4
   | apply ih5
   | apply ih6
   | apply ih7
   | apply ih8
   | apply ih9
   | apply ih10
   | apply ih11
   | exact gangwaylaw20_is.mono _ _ _ _ _
   | exact gangwaylaw20_wakes.mono _
   | exact gangwayref0_EqBytes.mono _ _ _
   | exact gangwayref20_Dirent.mono _ _ _ _ _
   | exact gangwayref20_Event.mono _ _ _ _ _
   | exact gangwayref20_Fdstat.mono _ _ _ _ _ _ _ _
   | exact gangwayref20_Filestat.mono _ _ _ _ _ _ _ _
   | exact gangwayref20_Prestat.mono _ _
   | exact stat_Dirent.mono _ _ _ _ _
   | exact stat_Event.mono _ _ _ _ _
   | exact stat_Fdstat.mono _ _ _ _ _ _ _ _
   | exact stat_Filestat.mono _ _ _ _ _ _ _ _
   | exact stat_Prestat.mono _ _
   | exact stat_Stream.mono _
   | exact LeO.none _
   | refine LeO.ite ?_ ?_
   | refine LeO.bind ?_ (fun _ => ?_)
theorem gangwaylaw20_StatExact.mono : ∀ a0 k, LeO (gangwaylaw20_StatExact.f k a0) (gangwaylaw20_StatExact.f (k + 1) a0) := by
 intro a0 k
 obtain ⟨ih0, ih1, ih2, ih3, ih4, ih5, ih6, ih7, ih8, ih9, ih10, ih11⟩ := gangwaylaw20_StatExact.mono_l k
 unfold gangwaylaw20_StatExact.f
 repeat' first
   | (with_reducible exact ih0)
   | (with_reducible apply ih1)
   | (with_reducible apply ih2)
   | (with_reducible apply ih3)
   | (with_reducible apply ih4)
   | (with_reducible apply ih5)
   | (with_reducible apply ih6)
   | (with_reducible apply ih7)
   | (with_reducible apply ih8)
   | (with_reducible apply ih9)
   | (with_reducible apply ih10)
   | (with_reducible apply ih11)
   | (with_reducible exact gangwaylaw20_is.mono _ _ _ _ _)
   | (with_reducible exact gangwaylaw20_wakes.mono _)
   | (with_reducible exact gangwayref0_EqBytes.mono _ _ _)
   | (with_reducible exact gangwayref20_Dirent.mono _ _ _ _ _)
   | (with_reducible exact gangwayref20_Event.mono _ _ _ _ _)
   | (with_reducible exact gangwayref20_Fdstat.mono _ _ _ _ _ _ _ _)
   | (with_reducible exact gangwayref20_Filestat.mono _ _ _ _ _ _ _ _)
   | (with_reducible exact gangwayref20_Prestat.mono _ _)
   | (with_reducible exact stat_Dirent.mono _ _ _ _ _)
   | (with_reducible exact stat_Event.mono _ _ _ _ _)
   | (with_reducible exact stat_Fdstat.mono _ _ _ _ _ _ _ _)
   | (with_reducible exact stat_Filestat.mono _ _ _ _ _ _ _ _)
   | (with_reducible exact stat_Prestat.mono _ _)
   | (with_reducible exact stat_Stream.mono _)
   | (with_reducible exact LeO.refl _)
   | (with_reducible exact LeO.none _)
   | (with_reducible refine LeO.ite ?_ ?_)
   | (with_reducible refine LeO.bind ?_ (fun _ => ?_))
   | exact ih0
   | apply ih1
   | apply ih2
   | apply ih3
   | apply ih4
   | apply ih5
   | apply ih6
   | apply ih7
   | apply ih8
   | apply ih9
   | apply ih10
   | apply ih11
   | exact gangwaylaw20_is.mono _ _ _ _ _
   | exact gangwaylaw20_wakes.mono _
   | exact gangwayref0_EqBytes.mono _ _ _
   | exact gangwayref20_Dirent.mono _ _ _ _ _
   | exact gangwayref20_Event.mono _ _ _ _ _
   | exact gangwayref20_Fdstat.mono _ _ _ _ _ _ _ _
   | exact gangwayref20_Filestat.mono _ _ _ _ _ _ _ _
   | exact gangwayref20_Prestat.mono _ _
   | exact stat_Dirent.mono _ _ _ _ _
   | exact stat_Event.mono _ _ _ _ _
   | exact stat_Fdstat.mono _ _ _ _ _ _ _ _
   | exact stat_Filestat.mono _ _ _ _ _ _ _ _
   | exact stat_Prestat.mono _ _
   | exact stat_Stream.mono _
   | exact LeO.none _
   | refine LeO.ite ?_ ?_
   | refine LeO.bind ?_ (fun _ => ?_)
def gangwaylaw20_StatExact.T8 : Bool × List (List Nat × List Nat) := (true, [([], []), ([], []), ([], []), ([2], [2]), ([3], [3]), ([], []), ([5], [5]), ([6, 4], [6]), ([0, 1, 4, 7, 7], [0, 1, 4, 7]), ([8], [8])])
def gangwaylaw20_StatExact.B8 : List Nat := [0, 0, 0, 4, 12, 0, 32, 124, 255, 511]
theorem gangwaylaw20_StatExact.tab8 : rtab .any (opsOf Try.f8 8) = gangwaylaw20_StatExact.T8 := by kernel_rfl
theorem gangwaylaw20_StatExact.bits8 : waitsOk gangwaylaw20_StatExact.T8.2 gangwaylaw20_StatExact.B8 = true := by kernel_rfl
def gangwaylaw20_StatExact.T11 : Bool × List (List Nat × List Nat) := (true, [([], []), ([], []), ([], []), ([2], [2]), ([3], [3]), ([4], [4]), ([5], [5]), ([6], [6]), ([7, 6], [6, 7]), ([8, 6], [6, 8]), ([9, 6], [6, 9]), ([6, 10], [6, 10]), ([11, 6], [11]), ([12], [12]), ([13, 12], [12, 13]), ([14, 12], [12, 14]), ([12, 15], [12, 15]), ([16, 12], [16]), ([17], [17]), ([18, 17], [17, 18]), ([19, 17], [17, 19]), ([17, 20], [17, 20]), ([], []), ([22], [22]), ([], []), ([24], [24]), ([23, 25, 17], [23, 25]), ([0, 1, 21, 26, 26], [0, 1, 21, 26]), ([27], [27])])
def gangwaylaw20_StatExact.B11 : List Nat := [0, 0, 0, 4, 12, 28, 60, 124, 252, 508, 1020, 2044, 4092, 8188, 16380, 32764, 65532, 131068, 262140, 524284, 1048572, 2097148, 0, 4194304, 0, 16777216, 63176700, 134217727, 268435455]
theorem gangwaylaw20_StatExact.tab11 : rtab .any (opsOf Try.f8 11) = gangwaylaw20_StatExact.T11 := by kernel_rfl
theorem gangwaylaw20_StatExact.bits11 : waitsOk gangwaylaw20_StatExact.T11.2 gangwaylaw20_StatExact.B11 = true := by kernel_rfl
def gangwaylaw20_StatExact.T14 : Bool × List (List Nat × List Nat) := (true, [([], []), ([], []), ([], []), ([2], [2]), ([3], [3]), ([4], [4]), ([5], [5]), ([6, 5], [5, 6]), ([7, 5], [5, 7]), ([5, 8], [5, 8]), ([9, 5], [9]), ([10], [10]), ([11, 10], [10, 11]), ([12, 10], [10, 12]), ([10, 13], [10, 13]), ([14, 10], [14]), ([15], [15]), ([16, 15], [15, 16]), ([17, 15], [15, 17]), ([15, 18], [15, 18]), ([], []), ([20], [20]), ([], []), ([22], [22]), ([], []), ([24], [24]), ([], []), ([26], [26]), ([21, 23, 25, 27, 15], [21, 23, 25, 27]), ([0, 1, 19, 28, 28], [0, 1, 19, 28]), ([29], [29])])
def gangwaylaw20_StatExact.B14 : List Nat := [0, 0, 0, 4, 12, 28, 60, 124, 252, 508, 1020, 2044, 4092, 8188, 16380, 32764, 65532, 131068, 262140, 524284, 0, 1048576, 0, 4194304, 0, 16777216, 0, 67108864, 267452412, 536870911, 1073741823]
theorem gangwaylaw20_StatExact.tab14 : rtab .any (opsOf Try.f8 14) = gangwaylaw20_StatExact.T14 := by kernel_rfl
theorem gangwaylaw20_StatExact.bits14 : waitsOk gangwaylaw20_StatExact.T14.2 gangwaylaw20_StatExact.B14 = true := by kernel_rfl
def gangwaylaw20_StatExact.T17 : Bool × List (List Nat × List Nat) := (true, [([], []), ([], []), ([], []), ([2], [2]), ([3], [3]), ([], []), ([5], [5]), ([6, 4], [6]), ([0, 1, 4, 7, 7], [0, 1, 4, 7]), ([8], [8])])
def gangwaylaw20_StatExact.B17 : List Nat := [0, 0, 0, 4, 12, 0, 32, 124, 255, 511]
theorem gangwaylaw20_StatExact.tab17 : rtab .any (opsOf Try.f8 17) = gangwaylaw20_StatExact.T17 := by kernel_rfl
theorem gangwaylaw20_StatExact.bits17 : waitsOk gangwaylaw20_StatExact.T17.2 gangwaylaw20_StatExact.B17 = true := by kernel_rfl
def gangwaylaw20_StatExact.T19 : Bool × List (List Nat × List Nat) := (true, [([], []), ([0], [0]), ([1], [1]), ([], []), ([3], [3]), ([4, 2], [4]), ([2, 5, 5], [2, 5]), ([6], [6]), ([7, 6], [7]), ([8, 8], [8]), ([9, 8], [8]), ([9, 10, 10, 8], [8, 9, 10]), ([11, 8], [8, 11]), ([8, 12], [8, 12])])
def gangwaylaw20_StatExact.B19 : List Nat := [0, 1, 3, 0, 8, 31, 63, 127, 255, 511, 1023, 2047, 4095, 8191]
theorem gangwaylaw20_StatExact.tab19 : rtab .any (opsOf Try.f8 19) = gangwaylaw20_StatExact.T19 := by kernel_rfl
theorem gangwaylaw20_StatExact.bits19 : waitsOk gangwaylaw20_StatExact.T19.2 gangwaylaw20_StatExact.B19 = true := by kernel_rfl
set_option maxHeartbeats 8000000 in
set_option maxRecDepth 100000 in
theorem gangwaylaw20_StatExact.calls (k : Nat) (A0 : Option Addr) (c0 : Nat) (l0 : List (S35)) (r : Bool) (w : World) (hr0 : Kd.C k35 w A0 l0.length l0) (hc0 : l0.length ≤ c0) (h : gangwaylaw20_StatExact.f k l0 = some r) :
  Calls Try.prog 8 #[.slice A0 l0.length c0] w fun e w' => e = .returned (.bool r) ∧ Below w.heap.size w w' := by
 have hu35 := Try.underlying35
 have hu28 := Try.underlying28
 have hu31 := Try.underlying31
 have hu33 := Try.underlying33
 have HR0 := Aside0.mk hr0
 have HC0 := Aside0.mk hc0
 clear hr0 hc0
 have HB := Aside0.mk (Below.refl w.heap.size w)
 have H : (gangwaylaw20_StatExact.l0 k l0 0) = some r := h
 clear h
 have HC2 := Aside0.mk H
 clear H
 go_enter Try.func8, Try.ntmps8
 go_upto_block 0 with (fail)
 go_cut [] (fun wc => ∃ (kq : Nat), Aside0 (j11 kq  = some r) ∧ Aside0 (kq ≤ k) ∧ Aside0 (Below w.heap.size w wc))
 case first =>
  have H := HC2.out
  clear HC2
  have H' := Aside0.mk H
  clear H
  go_wp2
  go_loopg [3] k (fun kq v3 w' => ∃ (x3_1 : Int), v3 = .int .i64 x3_1 ∧ Aside0 (gangwaylaw20_StatExact.l0 kq l0 x3_1 = some r) ∧ Aside0 (kq ≤ k) ∧ Aside0 (Below w.heap.size w w'))
  case atStart => exact ⟨(0), (by first | rfl | (simp; done) | (simp [*]; done)), H', ⟨Nat.le_refl _⟩, ⟨by repeat (first | (with_reducible first | exact HB.out | apply below_alloc | apply pw_below_drewN | apply below_drew1) | exact HB.out)⟩⟩
  case round =>
  clear H'
  try clear p2
  obtain ⟨x3_1, rfl, HA, HK1, HB⟩ := hrel
  cases gk with
  | zero => exact absurd HA.out (by simp [gangwaylaw20_StatExact.l0])
  | succ k1 =>
  have H := HA.out
  clear HA
  simp only [gangwaylaw20_StatExact.l0] at H
  have HC3 := Aside0.mk H
  clear H
  go_upto_region 2 with (fail)
  go_cut [14] (fun v14 wc => ∃ (kq : Nat) (x14_2 : Bool), v14 = .bool x14_2 ∧ Aside0 (j1 kq l0 x3_1 x14_2 = some r) ∧ Aside0 (kq ≤ k1) ∧ Aside0 (Below w.heap.size w wc))
  case first =>
   have H := HC3.out
   clear HC3
   by_cases c4 : x3_1 < (l0.length : Int)
   ·rw [if_pos c4] at H
    have c4b0 : decide (x3_1 < (l0.length : Int)) = true := decide_eq_true c4
    clear c4
    (first | rw [c4b0] | (simp only [i64_w, i32_w]; rw [c4b0]) | skip)
    have H' := Aside0.mk H
    clear H
    go_wp2
    go_meet
    case rel => exact ⟨_, (decide (x3_1 < 20)), (by first | rfl | (simp; done) | (simp [*]; done)), H', ⟨by have := HK1.out; first | omega | exact Nat.le_refl _⟩, ⟨by repeat (first | (with_reducible first | exact HB.out | apply below_alloc | apply pw_below_drewN | apply below_drew1) | exact HB.out)⟩⟩
   rw [if_neg c4] at H
   have c4b0 : decide (x3_1 < (l0.length : Int)) = false := decide_eq_false c4
   clear c4
   (first | rw [c4b0] | (simp only [i64_w, i32_w]; rw [c4b0]) | skip)
   have H' := Aside0.mk H
   clear H
   go_wp2
   go_meet
   case rel => exact ⟨_, (false), (by first | rfl | (simp; done) | (simp [*]; done)), H', ⟨by have := HK1.out; first | omega | exact Nat.le_refl _⟩, ⟨by repeat (first | (with_reducible first | exact HB.out | apply below_alloc | apply pw_below_drewN | apply below_drew1) | exact HB.out)⟩⟩
  case rest =>
  as_aux_lemma =>
  clear HC3
  try clear p2
  try clear c4
  try clear c4b0
  try clear p2
  obtain ⟨kq, x14_2, rfl, HA, HJ2, HB⟩ := hcut
  cases kq with
  | zero => exact absurd HA.out (by simp [j1])
  | succ kj2 =>
  have H := HA.out
  clear HA
  simp only [j1] at H
  have HC5 := Aside0.mk H
  clear H
  go_upto_if 14 with (fail)
  go_cut [] (fun wc => ∃ (kq : Nat), Aside0 (j2 kq l0 x3_1 = some r) ∧ Aside0 (kq ≤ kj2) ∧ Aside0 (Below w.heap.size w wc))
  case first =>
   have H := HC5.out
   clear HC5
   by_cases c6 : x14_2 = true
   ·subst c6
    have H1 : (j2 kj2 l0 x3_1) = some r := by rw [if_pos rfl] at H; exact H
    clear H
    have H := H1
    clear H1
    have H' := Aside0.mk H
    clear H
    go_wp2
    go_meet
    case rel => exact ⟨_, H', ⟨by have := HK1.out; have := HJ2.out; first | omega | exact Nat.le_refl _⟩, ⟨by repeat (first | (with_reducible first | exact HB.out | apply below_alloc | apply pw_below_drewN | apply below_drew1) | exact HB.out)⟩⟩
   replace c6 := Bool.eq_false_iff.mpr c6
   subst c6
   have H1 : (j11 kj2) = some r := by rw [if_neg (show ¬ (false = true) by decide)] at H; exact H
   clear H
   have H := H1
   clear H1
   have H' := Aside0.mk H
   clear H
   go_wp2
   go_meet
   case rel => exact ⟨_, H', ⟨by have := HK1.out; have := HJ2.out; first | omega | exact Nat.le_refl _⟩, ⟨by repeat (first | (with_reducible first | exact HB.out | apply below_alloc | apply pw_below_drewN | apply below_drew1) | exact HB.out)⟩⟩
  case rest =>
  as_aux_lemma =>
  clear HC5
  try clear p2
  try clear c4
  try clear c4b0
  try clear c6
  try clear p2
  obtain ⟨kq, HA, HJ4, HB⟩ := hcut
  cases kq with
  | zero => exact absurd HA.out (by simp [j2])
  | succ kj4 =>
  have H := HA.out
  clear HA
  simp only [j2] at H
  by_cases c7 : 0 ≤ x3_1
  rotate_left
  ·rw [if_neg c7] at H
   exact absurd H (by simp)
  as_aux_lemma =>
  rw [if_pos c7] at H
  have c7b0 : decide (0 ≤ x3_1) = true := decide_eq_true c7
  clear c7
  by_cases c8 : x3_1 < (l0.length : Int)
  rotate_left
  ·rw [if_neg c8] at H
   exact absurd H (by simp)
  as_aux_lemma =>
  rw [if_pos c8] at H
  have c8b0 : decide (x3_1 < (l0.length : Int)) = true := decide_eq_true c8
  clear c8
  replace H := Option.bind_eq_some_iff.mp H
  obtain ⟨t444, A90, H⟩ := H
  generalize hP0 : rd_T35 l0 x3_1 = pP0 at H A90
  replace H : (if t444 = true then (some true) else (j3 kj4 l0 x3_1 (pP0.f0.f0) (pP0.f0.f1) (pP0.f0.f2) (pP0.f0.f3) (pP0.f0.f4) (pP0.f0.f5) (pP0.f0.f6) (pP0.f1.f0) (pP0.f1.f1) (pP0.f1.f2) (pP0.f1.f3) (pP0.f1.f4) (pP0.f1.f5) (pP0.f2) (pP0.f3) (pP0.f4) (pP0.f5) (pP0.f6) (pP0.f7.f0) (pP0.f7.f1) (pP0.f7.f2) (pP0.f7.f3) (pP0.f8))) = some r := H
  have A9 := Aside0.mk A90
  clear A90
  have HC10 := Aside0.mk H
  clear H
  have p442 : 0 ≤ (x3_1 : Int) := of_decide_eq_true (by first | (with_reducible assumption) | assumption)
  have q442 : x3_1 < (l0.length : Int) := of_decide_eq_true (by first | (with_reducible assumption) | assumption)
  have hat_ := at_T35 HR0.out x3_1 p442 q442; rw [hP0] at hat_; obtain ⟨ad442, A442_8, c442_8, A442_9, c442_9, A442_22, c442_22, e442, hx442_0, hx442_1, hx442_2, hx442_3, hx442_4, hx442_5, hx442_6, hx442_7, hx442_8, hx442_9, hx442_10, hx442_11, hx442_12, hx442_13, hx442_14, hx442_15, hx442_16, hx442_17, hx442_18, hx442_19, hx442_20, hx442_21, hx442_22, hl442_8, hi442_8, hl442_9, hi442_9, hl442_22, hi442_22⟩ := hat_
  cases e442
  replace hx442_0 := up HB hx442_0
  replace hx442_1 := up HB hx442_1
  replace hx442_2 := up HB hx442_2
  replace hx442_3 := up HB hx442_3
  replace hx442_4 := up HB hx442_4
  replace hx442_5 := up HB hx442_5
  replace hx442_6 := up HB hx442_6
  replace hx442_7 := up HB hx442_7
  replace hx442_8 := up HB hx442_8
  replace hx442_9 := up HB hx442_9
  replace hx442_10 := up HB hx442_10
  replace hx442_11 := up HB hx442_11
  replace hx442_12 := up HB hx442_12
  replace hx442_13 := up HB hx442_13
  replace hx442_14 := up HB hx442_14
  replace hx442_15 := up HB hx442_15
  replace hx442_16 := up HB hx442_16
  replace hx442_17 := up HB hx442_17
  replace hx442_18 := up HB hx442_18
  replace hx442_19 := up HB hx442_19
  replace hx442_20 := up HB hx442_20
  replace hx442_21 := up HB hx442_21
  replace hx442_22 := up HB hx442_22
  have HR442_8 := Aside0.mk hi442_8
  have HC442_8 := Aside0.mk hl442_8
  clear hi442_8 hl442_8
  have HR442_9 := Aside0.mk hi442_9
  have HC442_9 := Aside0.mk hl442_9
  clear hi442_9 hl442_9
  have HR442_22 := Aside0.mk hi442_22
  have HC442_22 := Aside0.mk hl442_22
  clear hi442_22 hl442_22
  replace p442 := eq_true p442
  replace q442 := eq_true q442
  go_upto_if 22 with (first | ((with_reducible refine gate_dst (N := 20) rfl ?_); refine Go.Proofs.YthhmnecnoojcpaaO.load_cells ?hg (N := 20) ?hd 35 (x := ?xo20_) ?ho (ad := ?ad20_) ?hx [.int .i64 (pP0.f0.f0), .int .i64 (pP0.f0.f1), .int .i64 (pP0.f0.f2), .int .i64 (pP0.f0.f3), .int .i64 (pP0.f0.f4), .int .i64 (pP0.f0.f5), .string (pP0.f0.f6), .int .i64 (pP0.f1.f0), .slice A442_8 (pP0.f1.f1).length c442_8, .slice A442_9 (pP0.f1.f2).length c442_9, .string (pP0.f1.f3), .int .i64 (pP0.f1.f4), .int .i64 (pP0.f1.f5), .int .i64 (pP0.f2), .string (pP0.f3), .int .i64 (pP0.f4), .int .i64 (pP0.f5), .int .i64 (pP0.f6), .int .i64 (pP0.f7.f0), .int .i64 (pP0.f7.f1), .int .i64 (pP0.f7.f2), .int .i64 (pP0.f7.f3), .slice A442_22 (pP0.f8).length c442_22] Try.underlying35 (by kernel_rfl) ?hc ?_; (case hd => rfl); (case hg => rfl); (case ho => rfl); (case hx => rfl); (case hc => exact ⟨hx442_0, hx442_1, hx442_2, hx442_3, hx442_4, hx442_5, hx442_6, hx442_7, hx442_8, hx442_9, hx442_10, hx442_11, hx442_12, hx442_13, hx442_14, hx442_15, hx442_16, hx442_17, hx442_18, hx442_19, hx442_20, hx442_21, hx442_22, trivial⟩)) | ((with_reducible refine gate_dst (N := 4) rfl ?_); refine box_event ?hg (N := 4) ?hd (cs := #[.int .i64 0, .int .i64 0, .int .i64 0, .int .i64 0, .int .i64 0, .int .i64 0, .string (⟨#[]⟩ : ByteArray), .int .i64 0, .slice none 0 0, .slice none 0 0, .string (⟨#[]⟩ : ByteArray), .int .i64 0, .int .i64 0, .int .i64 0, .string (⟨#[]⟩ : ByteArray), .int .i64 0, .int .i64 0, .int .i64 0, .int .i64 0, .int .i64 0, .int .i64 0, .int .i64 0, .slice none 0 0]) (t := 35) ?hr ?_; (case hd => rfl); (case hg => rfl); (case hr => first | (go_simp; done) | (go_simp; rfl)); intro gb443 hg w11 hbox hb; have n0_ := Aside0.mk (below_step (by repeat (first | (with_reducible first | exact HB.out | apply below_alloc | apply pw_below_drewN | apply below_drew1) | exact HB.out)) hb); have n1_ := Aside0.mk (hbox); have n2_ := Aside0.mk ((by rw [hg]; exact (below_size (by repeat (first | (with_reducible first | exact HB.out | apply below_alloc | apply pw_below_drewN | apply below_drew1) | exact HB.out))) : w.heap.size ≤ gb443)); have n3_ := Aside0.mk ((by rw [hg]; exact (below_size (by repeat (first | (with_reducible first | exact HB.out | apply below_alloc | apply pw_below_drewN | apply below_drew1) | exact HB.out))) : w.heap.size ≤ gb443)); clear HB; have HB := n0_; have BK443 := n1_; have GW443 := n2_; have GE443 := n3_; clear n0_ n1_ n2_ n3_; clear hb hbox hg) | ((with_reducible refine gate_store (t := 35) (p := 4) rfl ?_); refine Go.Proofs.YthhmnecnoojcpaaO.store_whole ?hg ?hn (ty := 35) (x := ?xs_w12) (y := ?ys_w12) ?ho (g := gb443) ?hx [.int .i64 (pP0.f0.f0), .int .i64 (pP0.f0.f1), .int .i64 (pP0.f0.f2), .int .i64 (pP0.f0.f3), .int .i64 (pP0.f0.f4), .int .i64 (pP0.f0.f5), .string (pP0.f0.f6), .int .i64 (pP0.f1.f0), .slice A442_8 (pP0.f1.f1).length c442_8, .slice A442_9 (pP0.f1.f2).length c442_9, .string (pP0.f1.f3), .int .i64 (pP0.f1.f4), .int .i64 (pP0.f1.f5), .int .i64 (pP0.f2), .string (pP0.f3), .int .i64 (pP0.f4), .int .i64 (pP0.f5), .int .i64 (pP0.f6), .int .i64 (pP0.f7.f0), .int .i64 (pP0.f7.f1), .int .i64 (pP0.f7.f2), .int .i64 (pP0.f7.f3), .slice A442_22 (pP0.f8).length c442_22] ?hy BK443.out (by kernel_rfl) rfl rfl ?_; (case ho => rfl); (case hg => rfl); (case hn => rfl); (case hx => rfl); (case hy => rfl); intro w12 hb_ hO_ hB_; have n0_ := Aside0.mk (hb_); have n1_ := Aside0.mk (hB_ _ _ HB.out GE443.out); clear BK443; clear HB; have BK443 := n0_; have HB := n1_; clear n0_ n1_; clear hb_ hO_ hB_) | ((with_reducible refine gate_dst (N := 21) rfl ?_); refine Go.Proofs.YthhmnecnoojcpaaO.load_whole ?hg (N := 21) ?hd 35 (x := ?xo21_) ?ho (g := gb443) ?hx (cs := #[.int .i64 (pP0.f0.f0), .int .i64 (pP0.f0.f1), .int .i64 (pP0.f0.f2), .int .i64 (pP0.f0.f3), .int .i64 (pP0.f0.f4), .int .i64 (pP0.f0.f5), .string (pP0.f0.f6), .int .i64 (pP0.f1.f0), .slice A442_8 (pP0.f1.f1).length c442_8, .slice A442_9 (pP0.f1.f2).length c442_9, .string (pP0.f1.f3), .int .i64 (pP0.f1.f4), .int .i64 (pP0.f1.f5), .int .i64 (pP0.f2), .string (pP0.f3), .int .i64 (pP0.f4), .int .i64 (pP0.f5), .int .i64 (pP0.f6), .int .i64 (pP0.f7.f0), .int .i64 (pP0.f7.f1), .int .i64 (pP0.f7.f2), .int .i64 (pP0.f7.f3), .slice A442_22 (pP0.f8).length c442_22]) BK443.out Try.underlying35 (by kernel_rfl) ?_; (case hd => rfl); (case hg => rfl); (case ho => rfl); (case hx => rfl)) | ((with_reducible refine gate_callee (f := 15) rfl ?_); refine goesL_ (some 22) rfl rfl Try.func15 (by kernel_rfl) rfl #[.agg #[.int .i64 (pP0.f0.f0), .int .i64 (pP0.f0.f1), .int .i64 (pP0.f0.f2), .int .i64 (pP0.f0.f3), .int .i64 (pP0.f0.f4), .int .i64 (pP0.f0.f5), .string (pP0.f0.f6), .int .i64 (pP0.f1.f0), .slice A442_8 (pP0.f1.f1).length c442_8, .slice A442_9 (pP0.f1.f2).length c442_9, .string (pP0.f1.f3), .int .i64 (pP0.f1.f4), .int .i64 (pP0.f1.f5), .int .i64 (pP0.f2), .string (pP0.f3), .int .i64 (pP0.f4), .int .i64 (pP0.f5), .int .i64 (pP0.f6), .int .i64 (pP0.f7.f0), .int .i64 (pP0.f7.f1), .int .i64 (pP0.f7.f2), .int .i64 (pP0.f7.f3), .slice A442_22 (pP0.f8).length c442_22]] rfl (by (try simp only [List.map_toArray, List.map_cons, List.map_nil]); first | done | rfl | (simp only [List.length_drop, List.length_take]; rfl)) ?_; (with_reducible refine (gangwaylaw20_heavy.calls (pP0.f0.f0) (pP0.f0.f1) (pP0.f0.f2) (pP0.f0.f3) (pP0.f0.f4) (pP0.f0.f5) (pP0.f0.f6) (pP0.f1.f0) _ _ (pP0.f1.f1) _ _ (pP0.f1.f2) (pP0.f1.f3) (pP0.f1.f4) (pP0.f1.f5) (pP0.f2) (pP0.f3) (pP0.f4) (pP0.f5) (pP0.f6) (pP0.f7.f0) (pP0.f7.f1) (pP0.f7.f2) (pP0.f7.f3) _ _ (pP0.f8) t444 _ ?side1 ?side2 ?side3 ?side4 ?side5 ?side6 A9.out).mono ?_); (case side1 => repeat (first | exact (Kd.C_below HR442_8.out HB.out) | (with_reducible refine Kd.C_alloc ?_ _) | (with_reducible refine Kd.C_drewN ?_ _) | (with_reducible refine Kd.C_drew ?_))); (case side2 => exact HC442_8.out); (case side3 => repeat (first | exact (Kd.C_below HR442_9.out HB.out) | (with_reducible refine Kd.C_alloc ?_ _) | (with_reducible refine Kd.C_drewN ?_ _) | (with_reducible refine Kd.C_drew ?_))); (case side4 => exact HC442_9.out); (case side5 => repeat (first | exact (Kd.C_below HR442_22.out HB.out) | (with_reducible refine Kd.C_alloc ?_ _) | (with_reducible refine Kd.C_drewN ?_ _) | (with_reducible refine Kd.C_drew ?_))); (case side6 => exact HC442_22.out); rintro e w13 ⟨rfl, hb⟩; refine ⟨_, rfl, ?_⟩; have n0_ := Aside0.mk (bbelow BK443 (by (with_reducible repeat (first | refine blk_drewN ?_ _ | refine blk_drew ?_ | refine blk_alloc ?_ _)); exact BK443.out) hb); have n1_ := Aside0.mk (below_step (by repeat (first | (with_reducible first | exact HB.out | apply below_alloc | apply pw_below_drewN | apply below_drew1 | refine below_set ?_ GE443.out) | exact HB.out)) hb); clear BK443; clear HB; have BK443 := n0_; have HB := n1_; clear n0_ n1_; (try clear hb); (try clear hb2); (try clear hk); (try clear hi)))
  (try simp only [Act.put, e1, e2, e3])
  go_cut [] (fun wc => ∃ (kq : Nat), Aside0 (j3 kq l0 x3_1 (pP0.f0.f0) (pP0.f0.f1) (pP0.f0.f2) (pP0.f0.f3) (pP0.f0.f4) (pP0.f0.f5) (pP0.f0.f6) (pP0.f1.f0) (pP0.f1.f1) (pP0.f1.f2) (pP0.f1.f3) (pP0.f1.f4) (pP0.f1.f5) (pP0.f2) (pP0.f3) (pP0.f4) (pP0.f5) (pP0.f6) (pP0.f7.f0) (pP0.f7.f1) (pP0.f7.f2) (pP0.f7.f3) (pP0.f8) = some r) ∧ Aside0 (kq ≤ kj4) ∧ Aside0 (wc.heap[gb443]? = some (.cells #[.int .i64 (pP0.f0.f0), .int .i64 (pP0.f0.f1), .int .i64 (pP0.f0.f2), .int .i64 (pP0.f0.f3), .int .i64 (pP0.f0.f4), .int .i64 (pP0.f0.f5), .string (pP0.f0.f6), .int .i64 (pP0.f1.f0), (.slice A442_8 (pP0.f1.f1).length c442_8), (.slice A442_9 (pP0.f1.f2).length c442_9), .string (pP0.f1.f3), .int .i64 (pP0.f1.f4), .int .i64 (pP0.f1.f5), .int .i64 (pP0.f2), .string (pP0.f3), .int .i64 (pP0.f4), .int .i64 (pP0.f5), .int .i64 (pP0.f6), .int .i64 (pP0.f7.f0), .int .i64 (pP0.f7.f1), .int .i64 (pP0.f7.f2), .int .i64 (pP0.f7.f3), (.slice A442_22 (pP0.f8).length c442_22)] 35 (0, 0))) ∧ Aside0 (Below w.heap.size w wc))
  case first =>
   have H := HC10.out
   clear HC10
   by_cases c14 : t444 = true
   ·subst c14
    have H1 : (some true) = some r := by rw [if_pos rfl] at H; exact H
    clear H
    have H := H1
    clear H1
    obtain rfl := Option.some.inj H
    go_wp2
    go_ret
    exact ⟨by first | rfl | (simp [errW_none, errW_some] <;> rfl) | (simp [*, errW_none, errW_some] <;> rfl), by repeat (first | (with_reducible first | exact HB.out | apply below_alloc | apply pw_below_drewN | apply below_drew1 | refine below_set ?_ GE443.out) | exact HB.out)⟩
   replace c14 := Bool.eq_false_iff.mpr c14
   subst c14
   have H1 : (j3 kj4 l0 x3_1 (pP0.f0.f0) (pP0.f0.f1) (pP0.f0.f2) (pP0.f0.f3) (pP0.f0.f4) (pP0.f0.f5) (pP0.f0.f6) (pP0.f1.f0) (pP0.f1.f1) (pP0.f1.f2) (pP0.f1.f3) (pP0.f1.f4) (pP0.f1.f5) (pP0.f2) (pP0.f3) (pP0.f4) (pP0.f5) (pP0.f6) (pP0.f7.f0) (pP0.f7.f1) (pP0.f7.f2) (pP0.f7.f3) (pP0.f8)) = some r := by rw [if_neg (show ¬ (false = true) by decide)] at H; exact H
   clear H
   have H := H1
   clear H1
   have H' := Aside0.mk H
   clear H
   go_wp2
   go_meet
   case rel => exact ⟨_, H', ⟨by have := HK1.out; have := HJ2.out; have := HJ4.out; first | omega | exact Nat.le_refl _⟩, ⟨by (with_reducible repeat (first | refine blk_drewN ?_ _ | refine blk_drew ?_ | refine blk_alloc ?_ _)); exact BK443.out⟩, ⟨by repeat (first | (with_reducible first | exact HB.out | apply below_alloc | apply pw_below_drewN | apply below_drew1 | refine below_set ?_ GE443.out) | exact HB.out)⟩⟩
  case rest =>
  as_aux_lemma =>
  clear HC10
  try clear c1
  try clear p2
  try clear c4
  try clear c4b0
  try clear p4
  try clear q4
  try clear hx4
  try clear c6
  try clear c7
  try clear c7b0
  try clear c8
  try clear c8b0
  try clear c14
  try clear hx442_0
  try clear hx442_1
  try clear hx442_10
  try clear hx442_11
  try clear hx442_12
  try clear hx442_13
  try clear hx442_14
  try clear hx442_15
  try clear hx442_16
  try clear hx442_17
  try clear hx442_18
  try clear hx442_19
  try clear hx442_2
  try clear hx442_20
  try clear hx442_21
  try clear hx442_22
  try clear hx442_3
  try clear hx442_4
  try clear hx442_5
  try clear hx442_6
  try clear hx442_7
  try clear hx442_8
  try clear hx442_9
  try clear p2
  try clear p442
  try clear q442
  obtain ⟨kq, HA, HJ9, BK443, HB⟩ := hcut
  cases kq with
  | zero => exact absurd HA.out (by simp [j3])
  | succ kj9 =>
  have H := HA.out
  clear HA
  simp only [j3] at H
  replace H := Option.bind_eq_some_iff.mp H
  obtain ⟨⟨t445, t448⟩, A150, H⟩ := H
  replace H : ((gangwayref17_MayFd.f (pP0.f0.f0) (pP0.f0.f1) (pP0.f0.f2) (pP0.f0.f3) (pP0.f0.f4) (pP0.f0.f5) (pP0.f0.f6)).bind fun t449 => ((gangwayref20_Fdstat.f kj9 (pP0.f0.f0) (pP0.f0.f1) (pP0.f0.f2) (pP0.f0.f3) (pP0.f0.f4) (pP0.f0.f5) (pP0.f0.f6)).bind fun t450 => ((gangwaylaw20_is.f kj9 t445 t448 t449 t450).bind fun t453 => (if t453 = true then (j4 kj9 l0 x3_1 (pP0.f0.f0) (pP0.f0.f1) (pP0.f0.f2) (pP0.f0.f3) (pP0.f0.f4) (pP0.f0.f5) (pP0.f0.f6) (pP0.f1.f0) (pP0.f1.f1) (pP0.f1.f2) (pP0.f1.f3) (pP0.f1.f4) (pP0.f1.f5) (pP0.f2) (pP0.f3) (pP0.f4) (pP0.f5) (pP0.f6) (pP0.f7.f0) (pP0.f7.f1) (pP0.f7.f2) (pP0.f7.f3) (pP0.f8)) else (none))))) = some r := H
  have A15 := Aside0.mk A150
  clear A150
  replace H := Option.bind_eq_some_iff.mp H
  obtain ⟨t449, A160, H⟩ := H
  replace H : ((gangwayref20_Fdstat.f kj9 (pP0.f0.f0) (pP0.f0.f1) (pP0.f0.f2) (pP0.f0.f3) (pP0.f0.f4) (pP0.f0.f5) (pP0.f0.f6)).bind fun t450 => ((gangwaylaw20_is.f kj9 t445 t448 t449 t450).bind fun t453 => (if t453 = true then (j4 kj9 l0 x3_1 (pP0.f0.f0) (pP0.f0.f1) (pP0.f0.f2) (pP0.f0.f3) (pP0.f0.f4) (pP0.f0.f5) (pP0.f0.f6) (pP0.f1.f0) (pP0.f1.f1) (pP0.f1.f2) (pP0.f1.f3) (pP0.f1.f4) (pP0.f1.f5) (pP0.f2) (pP0.f3) (pP0.f4) (pP0.f5) (pP0.f6) (pP0.f7.f0) (pP0.f7.f1) (pP0.f7.f2) (pP0.f7.f3) (pP0.f8)) else (none)))) = some r := H
  have A16 := Aside0.mk A160
  clear A160
  replace H := Option.bind_eq_some_iff.mp H
  obtain ⟨t450, A170, H⟩ := H
  replace H : ((gangwaylaw20_is.f kj9 t445 t448 t449 t450).bind fun t453 => (if t453 = true then (j4 kj9 l0 x3_1 (pP0.f0.f0) (pP0.f0.f1) (pP0.f0.f2) (pP0.f0.f3) (pP0.f0.f4) (pP0.f0.f5) (pP0.f0.f6) (pP0.f1.f0) (pP0.f1.f1) (pP0.f1.f2) (pP0.f1.f3) (pP0.f1.f4) (pP0.f1.f5) (pP0.f2) (pP0.f3) (pP0.f4) (pP0.f5) (pP0.f6) (pP0.f7.f0) (pP0.f7.f1) (pP0.f7.f2) (pP0.f7.f3) (pP0.f8)) else (none))) = some r := H
  have A17 := Aside0.mk A170
  clear A170
  replace H := Option.bind_eq_some_iff.mp H
  obtain ⟨t453, A180, H⟩ := H
  replace H : (if t453 = true then (j4 kj9 l0 x3_1 (pP0.f0.f0) (pP0.f0.f1) (pP0.f0.f2) (pP0.f0.f3) (pP0.f0.f4) (pP0.f0.f5) (pP0.f0.f6) (pP0.f1.f0) (pP0.f1.f1) (pP0.f1.f2) (pP0.f1.f3) (pP0.f1.f4) (pP0.f1.f5) (pP0.f2) (pP0.f3) (pP0.f4) (pP0.f5) (pP0.f6) (pP0.f7.f0) (pP0.f7.f1) (pP0.f7.f2) (pP0.f7.f3) (pP0.f8)) else (none)) = some r := H
  have A18 := Aside0.mk A180
  clear A180
  have HC19 := Aside0.mk H
  clear H
  have hcz20_0 : wc.cell? ⟨gb443, 0, none⟩ = some (.int .i64 (pP0.f0.f0)) := bc BK443 0
  have hcz20_1 : wc.cell? ⟨gb443, 1, none⟩ = some (.int .i64 (pP0.f0.f1)) := bc BK443 1
  have hcz20_2 : wc.cell? ⟨gb443, 2, none⟩ = some (.int .i64 (pP0.f0.f2)) := bc BK443 2
  have hcz20_3 : wc.cell? ⟨gb443, 3, none⟩ = some (.int .i64 (pP0.f0.f3)) := bc BK443 3
  have hcz20_4 : wc.cell? ⟨gb443, 4, none⟩ = some (.int .i64 (pP0.f0.f4)) := bc BK443 4
  have hcz20_5 : wc.cell? ⟨gb443, 5, none⟩ = some (.int .i64 (pP0.f0.f5)) := bc BK443 5
  have hcz20_6 : wc.cell? ⟨gb443, 6, none⟩ = some (.string (pP0.f0.f6)) := bc BK443 6
  have hcz20_7 : wc.cell? ⟨gb443, 7, none⟩ = some (.int .i64 (pP0.f1.f0)) := bc BK443 7
  have hcz20_8 : wc.cell? ⟨gb443, 8, none⟩ = some (.slice A442_8 (pP0.f1.f1).length c442_8) := bc BK443 8
  have hcz20_9 : wc.cell? ⟨gb443, 9, none⟩ = some (.slice A442_9 (pP0.f1.f2).length c442_9) := bc BK443 9
  have hcz20_10 : wc.cell? ⟨gb443, 10, none⟩ = some (.string (pP0.f1.f3)) := bc BK443 10
  have hcz20_11 : wc.cell? ⟨gb443, 11, none⟩ = some (.int .i64 (pP0.f1.f4)) := bc BK443 11
  have hcz20_12 : wc.cell? ⟨gb443, 12, none⟩ = some (.int .i64 (pP0.f1.f5)) := bc BK443 12
  have hcz20_13 : wc.cell? ⟨gb443, 13, none⟩ = some (.int .i64 (pP0.f2)) := bc BK443 13
  have hcz20_14 : wc.cell? ⟨gb443, 14, none⟩ = some (.string (pP0.f3)) := bc BK443 14
  have hcz20_15 : wc.cell? ⟨gb443, 15, none⟩ = some (.int .i64 (pP0.f4)) := bc BK443 15
  have hcz20_16 : wc.cell? ⟨gb443, 16, none⟩ = some (.int .i64 (pP0.f5)) := bc BK443 16
  have hcz20_17 : wc.cell? ⟨gb443, 17, none⟩ = some (.int .i64 (pP0.f6)) := bc BK443 17
  have hcz20_18 : wc.cell? ⟨gb443, 18, none⟩ = some (.int .i64 (pP0.f7.f0)) := bc BK443 18
  have hcz20_19 : wc.cell? ⟨gb443, 19, none⟩ = some (.int .i64 (pP0.f7.f1)) := bc BK443 19
  have hcz20_20 : wc.cell? ⟨gb443, 20, none⟩ = some (.int .i64 (pP0.f7.f2)) := bc BK443 20
  have hcz20_21 : wc.cell? ⟨gb443, 21, none⟩ = some (.int .i64 (pP0.f7.f3)) := bc BK443 21
  try go_wp2_with (first | ((with_reducible refine gate_callee (f := 21) rfl ?_); refine goesL_ (some 26) rfl rfl Try.func21 (by kernel_rfl) rfl #[.agg #[.int .i64 (pP0.f0.f0), .int .i64 (pP0.f0.f1), .int .i64 (pP0.f0.f2), .int .i64 (pP0.f0.f3), .int .i64 (pP0.f0.f4), .int .i64 (pP0.f0.f5), .string (pP0.f0.f6)]] rfl (by (try simp only [List.map_toArray, List.map_cons, List.map_nil]); first | done | rfl | (simp only [List.length_drop, List.length_take]; rfl)) ?_; (with_reducible refine (stat_Fdstat.calls kj9 (pP0.f0.f0) (pP0.f0.f1) (pP0.f0.f2) (pP0.f0.f3) (pP0.f0.f4) (pP0.f0.f5) (pP0.f0.f6) t445 t448 _ A15.out).mono ?_); rintro e w21 ⟨v446, rfl, ho0, hb⟩; refine ⟨_, rfl, ?_⟩; have n0_ := Aside0.mk (Kd.R_lower ho0 (below_size (by repeat (first | (with_reducible first | exact HB.out | apply below_alloc | apply pw_below_drewN | apply below_drew1 | refine below_set ?_ GE443.out) | exact HB.out)))); have n1_ := Aside0.mk (bbelow BK443 (by (with_reducible repeat (first | refine blk_drewN ?_ _ | refine blk_drew ?_ | refine blk_alloc ?_ _)); exact BK443.out) hb); have n2_ := Aside0.mk (below_step (by repeat (first | (with_reducible first | exact HB.out | apply below_alloc | apply pw_below_drewN | apply below_drew1 | refine below_set ?_ GE443.out) | exact HB.out)) hb); clear BK443; clear HB; have HO447 := n0_; have BK443 := n1_; have HB := n2_; clear n0_ n1_ n2_; (try clear hb); (try clear hb2); (try clear hk); (try clear hi); (try clear ho0)))
  have n0_ := Aside0.mk (Kd.R_drew HO447.out)
  have n1_ := Aside0.mk (blk_drew BK443.out)
  have n2_ := Aside0.mk (below_drew1 HB.out)
  clear HO447
  clear BK443
  clear HB
  have HO447 := n0_
  have BK443 := n1_
  have HB := n2_
  clear n0_ n1_ n2_
  refine start_ (n := 10) (S := fun w' => w'.cell? ⟨gb443, 0, none⟩ = some (.int .i64 (pP0.f0.f0)) ∧ w'.cell? ⟨gb443, 1, none⟩ = some (.int .i64 (pP0.f0.f1)) ∧ w'.cell? ⟨gb443, 2, none⟩ = some (.int .i64 (pP0.f0.f2)) ∧ w'.cell? ⟨gb443, 3, none⟩ = some (.int .i64 (pP0.f0.f3)) ∧ w'.cell? ⟨gb443, 4, none⟩ = some (.int .i64 (pP0.f0.f4)) ∧ w'.cell? ⟨gb443, 5, none⟩ = some (.int .i64 (pP0.f0.f5)) ∧ w'.cell? ⟨gb443, 6, none⟩ = some (.string (pP0.f0.f6))) (ds := []) bb10_ (by kernel_rfl) rfl rfl ⟨bc BK443 0, bc BK443 1, bc BK443 2, bc BK443 3, bc BK443 4, bc BK443 5, bc BK443 6⟩ (fun hHeld => ?_); refine with_tabW gangwaylaw20_StatExact.tab8 gangwaylaw20_StatExact.bits8 (fun HT_ HW_ => ?_)
  generalize w21.drew = w22 at HO447 BK443 HB hHeld ⊢
  refine pure_ (i := 0) (N := some 29) (v := ?_) (a' := ?_) bb9_ rfl rfl (any_of HT_.out (by kernel_rfl)) (fun _ _ _ h => h) (Or.inl ⟨by rfl, ?_⟩) ?_ ?_
  rotate_left; · intro w'; go_simp; with_reducible rfl
  rotate_left; · simp only [Act.put, e1, e2, e3, i64_w, i32_w]; rfl
  refine pure_ (i := 1) (N := some 30) (v := ?_) (a' := ?_) bb8_ rfl rfl (any_of HT_.out (by kernel_rfl)) (fun _ _ _ h => h) (Or.inl ⟨by rfl, ?_⟩) ?_ ?_
  rotate_left; · intro w'; go_simp; with_reducible rfl
  rotate_left; · simp only [Act.put, e1, e2, e3, i64_w, i32_w]; rfl
  refine pure_ (i := 2) (N := some 31) (v := ?_) (a' := ?_) bb7_ rfl rfl (any_of HT_.out (by kernel_rfl)) (fun _ _ _ h => h) (Or.inl ⟨by rfl, ?_⟩) ?_ ?_
  rotate_left; · intro w'; go_simp; with_reducible rfl
  rotate_left; · simp only [Act.put, e1, e2, e3, i64_w, i32_w]; rfl
  refine pure_ (i := 5) (N := some 34) (v := ?_) (a' := ?_) bb6_ rfl rfl (any_of HT_.out (by kernel_rfl)) (fun _ _ _ h => h) (Or.inl ⟨by rfl, ?_⟩) ?_ ?_
  rotate_left; · intro w'; go_simp; with_reducible rfl
  rotate_left; · simp only [Act.put, e1, e2, e3, i64_w, i32_w]; rfl
  refine take_ (i := 3) (N := some 32) (v := ?_) (a' := ?_) bb5_ rfl rfl (take_ofW HT_.out HW_.out (by kernel_rfl)) (fun _ _ _ h => h) (Or.inl ⟨by rfl, ?_⟩) hHeld ?_ ?_
  rotate_left; · rintro w' ⟨s0, s1, s2, s3, s4, s5, s6⟩; go_simp; with_reducible rfl
  rotate_left; · simp only [Act.put, e1, e2, e3, i64_w, i32_w]; rfl
  refine take_ (i := 6) (N := some 35) (v := ?_) (a' := ?_) bb4_ rfl rfl (take_ofW HT_.out HW_.out (by kernel_rfl)) (fun _ _ _ h => h) (Or.inl ⟨by rfl, ?_⟩) hHeld ?_ ?_
  rotate_left; · rintro w' ⟨s0, s1, s2, s3, s4, s5, s6⟩; go_simp; with_reducible rfl
  rotate_left; · simp only [Act.put, e1, e2, e3, i64_w, i32_w]; rfl
  refine one_ (i := 4) (N := some 33) bb3_ rfl rfl (one_of HT_.out (by kernel_rfl)) (by decide) (fun K hK => ?_)
  refine goes_ Try.func22 (by kernel_rfl) rfl #[.agg #[.int .i64 (pP0.f0.f0), .int .i64 (pP0.f0.f1), .int .i64 (pP0.f0.f2), .int .i64 (pP0.f0.f3), .int .i64 (pP0.f0.f4), .int .i64 (pP0.f0.f5), .string (pP0.f0.f6)]] (by rfl) rfl rfl (by (try simp only [List.map_toArray, List.map_cons, List.map_nil]); first | done | rfl | (simp only [List.length_drop, List.length_take]; rfl)) ?_
  with_reducible refine (gangwayref17_MayFd.calls (pP0.f0.f0) (pP0.f0.f1) (pP0.f0.f2) (pP0.f0.f3) (pP0.f0.f4) (pP0.f0.f5) (pP0.f0.f6) t449 _ A16.out).mono ?_
  rintro e w23 ⟨rfl, hb⟩
  refine ⟨_, rfl, ?_⟩
  have n0_ := Aside0.mk (Kd.R_below (by (with_reducible repeat (first | apply Kd.R_alloc | apply Kd.R_drewN | apply Kd.R_drew)); exact HO447.out) hb)
  have n1_ := Aside0.mk (bbelow BK443 (by (with_reducible repeat (first | refine blk_drewN ?_ _ | refine blk_drew ?_ | refine blk_alloc ?_ _)); exact BK443.out) hb)
  have n2_ := Aside0.mk (below_step (by repeat (first | (with_reducible first | exact HB.out | apply below_alloc | apply pw_below_drewN | apply below_drew1 | refine below_set ?_ GE443.out) | exact HB.out)) hb)
  clear HO447
  clear BK443
  clear HB
  have HO447 := n0_
  have BK443 := n1_
  have HB := n2_
  clear n0_ n1_ n2_
  (try clear hb)
  (try clear hb2)
  (try clear hk)
  (try clear hi)
  refine hK.out _ _ ⟨bc BK443 0, bc BK443 1, bc BK443 2, bc BK443 3, bc BK443 4, bc BK443 5, bc BK443 6⟩ (fun hHeld => ?_)
  clear hK K
  refine norm_ (a' := ?_) ?_ ?_
  rotate_left
  ·show Act.put _ (some 33) _ = _
   simp only [Act.put, e1, e2, e3, i64_w, i32_w]
   rfl
  refine one_ (i := 7) (N := some 36) bb2_ rfl rfl (one_of HT_.out (by kernel_rfl)) (by decide) (fun K hK => ?_)
  refine goes_ Try.func23 (by kernel_rfl) rfl #[.agg #[.int .i64 (pP0.f0.f0), .int .i64 (pP0.f0.f1), .int .i64 (pP0.f0.f2), .int .i64 (pP0.f0.f3), .int .i64 (pP0.f0.f4), .int .i64 (pP0.f0.f5), .string (pP0.f0.f6)]] (by rfl) rfl rfl (by (try simp only [List.map_toArray, List.map_cons, List.map_nil]); first | done | rfl | (simp only [List.length_drop, List.length_take]; rfl)) ?_
  with_reducible refine (gangwayref20_Fdstat.calls kj9 (pP0.f0.f0) (pP0.f0.f1) (pP0.f0.f2) (pP0.f0.f3) (pP0.f0.f4) (pP0.f0.f5) (pP0.f0.f6) t450 _ A17.out).mono ?_
  rintro e w24 ⟨v451, rfl, ho0, hb⟩
  refine ⟨_, rfl, ?_⟩
  have n0_ := Aside0.mk (Kd.R_elder' (by (with_reducible repeat (first | apply Kd.R_alloc | apply Kd.R_drewN | apply Kd.R_drew)); exact HO447.out) (Kd.R_base ho0) hb)
  have n1_ := Aside0.mk (Kd.R_lower (Kd.R_new' ho0 (Kd.R_lt (by (with_reducible repeat (first | apply Kd.R_alloc | apply Kd.R_drewN | apply Kd.R_drew)); exact HO447.out))) (below_size (by repeat (first | (with_reducible first | exact HB.out | apply below_alloc | apply pw_below_drewN | apply below_drew1 | refine below_set ?_ GE443.out) | exact HB.out))))
  have n2_ := Aside0.mk (bbelow BK443 (by (with_reducible repeat (first | refine blk_drewN ?_ _ | refine blk_drew ?_ | refine blk_alloc ?_ _)); exact BK443.out) hb)
  have n3_ := Aside0.mk (below_step (by repeat (first | (with_reducible first | exact HB.out | apply below_alloc | apply pw_below_drewN | apply below_drew1 | refine below_set ?_ GE443.out) | exact HB.out)) hb)
  clear HO447
  clear BK443
  clear HB
  have HO447 := n0_
  have HO452 := n1_
  have BK443 := n2_
  have HB := n3_
  clear n0_ n1_ n2_ n3_
  (try clear hb)
  (try clear hb2)
  (try clear hk)
  (try clear hi)
  (try clear ho0)
  obtain ⟨Ao25, co25, eo25⟩ := Kd.R_slice HO447.out
  (first | subst eo25 | (injection eo25 with f1_ f2_ f3_; have f4_ := f1_.symm; have f5_ := f3_.symm; clear f1_ f2_ f3_; subst f4_; subst f5_))
  obtain ⟨Ao26, co26, eo26⟩ := Kd.R_slice HO452.out
  (first | subst eo26 | (injection eo26 with f1_ f2_ f3_; have f4_ := f1_.symm; have f5_ := f3_.symm; clear f1_ f2_ f3_; subst f4_; subst f5_))
  refine hK.out _ _ ⟨bc BK443 0, bc BK443 1, bc BK443 2, bc BK443 3, bc BK443 4, bc BK443 5, bc BK443 6⟩ (fun hHeld => ?_)
  clear hK K
  refine norm_ (a' := ?_) ?_ ?_
  rotate_left
  ·show Act.put _ (some 36) _ = _
   simp only [Act.put, e1, e2, e3, i64_w, i32_w]
   rfl
  refine one_ (i := 8) (N := some 37) bb1_ rfl rfl (one_of HT_.out (by kernel_rfl)) (by decide) (fun K hK => ?_)
  refine goes_ Try.func11 (by kernel_rfl) rfl #[.slice Ao25 t445.length co25, .int .i64 t448, .bool t449, .slice Ao26 t450.length co26] (by rfl) rfl rfl (by (try simp only [List.map_toArray, List.map_cons, List.map_nil]); first | done | rfl | (simp only [List.length_drop, List.length_take]; rfl)) ?_
  with_reducible refine (gangwaylaw20_is.calls kj9 _ _ t445 t448 t449 _ _ t450 t453 _ ?side1 ?side2 ?side3 ?side4 A18.out).mono ?_
  (case side1 => repeat (first | exact (Kd.R_reads' HO447.out).2.2 | (with_reducible refine Kd.C_alloc ?_ _) | (with_reducible refine Kd.C_drewN ?_ _) | (with_reducible refine Kd.C_drew ?_)))
  (case side2 => exact (Kd.R_reads' HO447.out).2.1)
  (case side3 => repeat (first | exact (Kd.R_reads' HO452.out).2.2 | (with_reducible refine Kd.C_alloc ?_ _) | (with_reducible refine Kd.C_drewN ?_ _) | (with_reducible refine Kd.C_drew ?_)))
  (case side4 => exact (Kd.R_reads' HO452.out).2.1)
  rintro e w' ⟨rfl, ⟨nd, rfl⟩⟩
  refine ⟨_, rfl, ?_⟩
  refine hK.out _ _ ⟨bc BK443 0, bc BK443 1, bc BK443 2, bc BK443 3, bc BK443 4, bc BK443 5, bc BK443 6⟩ (fun hHeld => ?_)
  clear hK K
  refine norm_ (a' := ?_) ?_ ?_
  rotate_left
  ·show Act.put _ (some 37) _ = _
   simp only [Act.put, e1, e2, e3, i64_w, i32_w]
   rfl
  refine pure_ (i := 9) (N := some 38) (v := ?_) (a' := ?_) bb0_ rfl rfl (any_of HT_.out (by kernel_rfl)) (fun _ _ _ h => h) (Or.inl ⟨by rfl, ?_⟩) ?_ ?_
  rotate_left; · intro w'; go_simp; with_reducible rfl
  rotate_left; · simp only [Act.put, e1, e2, e3, i64_w, i32_w]; rfl
  refine done_ (done_of HT_.out (by kernel_rfl)) ?_
  go_upto_if 38 with (fail)
  go_cut [] (fun wc => ∃ (kq : Nat), Aside0 (j4 kq l0 x3_1 (pP0.f0.f0) (pP0.f0.f1) (pP0.f0.f2) (pP0.f0.f3) (pP0.f0.f4) (pP0.f0.f5) (pP0.f0.f6) (pP0.f1.f0) (pP0.f1.f1) (pP0.f1.f2) (pP0.f1.f3) (pP0.f1.f4) (pP0.f1.f5) (pP0.f2) (pP0.f3) (pP0.f4) (pP0.f5) (pP0.f6) (pP0.f7.f0) (pP0.f7.f1) (pP0.f7.f2) (pP0.f7.f3) (pP0.f8) = some r) ∧ Aside0 (kq ≤ kj9) ∧ Aside0 (wc.heap[gb443]? = some (.cells #[.int .i64 (pP0.f0.f0), .int .i64 (pP0.f0.f1), .int .i64 (pP0.f0.f2), .int .i64 (pP0.f0.f3), .int .i64 (pP0.f0.f4), .int .i64 (pP0.f0.f5), .string (pP0.f0.f6), .int .i64 (pP0.f1.f0), (.slice A442_8 (pP0.f1.f1).length c442_8), (.slice A442_9 (pP0.f1.f2).length c442_9), .string (pP0.f1.f3), .int .i64 (pP0.f1.f4), .int .i64 (pP0.f1.f5), .int .i64 (pP0.f2), .string (pP0.f3), .int .i64 (pP0.f4), .int .i64 (pP0.f5), .int .i64 (pP0.f6), .int .i64 (pP0.f7.f0), .int .i64 (pP0.f7.f1), .int .i64 (pP0.f7.f2), .int .i64 (pP0.f7.f3), (.slice A442_22 (pP0.f8).length c442_22)] 35 (0, 0))) ∧ Aside0 (Below w.heap.size w wc))
  case first =>
   have H := HC19.out
   clear HC19
   by_cases c27 : t453 = true
   rotate_left
   ·replace c27 := Bool.eq_false_iff.mpr c27
    subst c27
    have H1 : (none) = some r := by rw [if_neg (show ¬ (false = true) by decide)] at H; exact H
    clear H
    have H := H1
    clear H1
    exact absurd H (by simp)
   subst c27
   have H1 : (j4 kj9 l0 x3_1 (pP0.f0.f0) (pP0.f0.f1) (pP0.f0.f2) (pP0.f0.f3) (pP0.f0.f4) (pP0.f0.f5) (pP0.f0.f6) (pP0.f1.f0) (pP0.f1.f1) (pP0.f1.f2) (pP0.f1.f3) (pP0.f1.f4) (pP0.f1.f5) (pP0.f2) (pP0.f3) (pP0.f4) (pP0.f5) (pP0.f6) (pP0.f7.f0) (pP0.f7.f1) (pP0.f7.f2) (pP0.f7.f3) (pP0.f8)) = some r := by rw [if_pos rfl] at H; exact H
   clear H
   have H := H1
   clear H1
   have H' := Aside0.mk H
   clear H
   go_wp2
   go_meet
   case rel => exact ⟨_, H', ⟨by have := HK1.out; have := HJ2.out; have := HJ4.out; have := HJ9.out; first | omega | exact Nat.le_refl _⟩, ⟨by (with_reducible repeat (first | refine blk_drewN ?_ _ | refine blk_drew ?_ | refine blk_alloc ?_ _)); exact BK443.out⟩, ⟨by repeat (first | (with_reducible first | exact HB.out | apply below_alloc | apply pw_below_drewN | apply below_drew1 | refine below_set ?_ GE443.out) | exact HB.out)⟩⟩
  case rest =>
  as_aux_lemma =>
  clear HC19
  try clear c1
  try clear c2
  try clear p2
  try clear c4
  try clear c4b0
  try clear p4
  try clear q4
  try clear hx4
  try clear c6
  try clear c7
  try clear c7b0
  try clear c8
  try clear c8b0
  try clear c11
  try clear c14
  try clear c15
  try clear c21
  try clear c22
  try clear c23
  try clear c27
  try clear hcz20_0
  try clear hcz20_1
  try clear hcz20_10
  try clear hcz20_11
  try clear hcz20_12
  try clear hcz20_13
  try clear hcz20_14
  try clear hcz20_15
  try clear hcz20_16
  try clear hcz20_17
  try clear hcz20_18
  try clear hcz20_19
  try clear hcz20_2
  try clear hcz20_20
  try clear hcz20_21
  try clear hcz20_3
  try clear hcz20_4
  try clear hcz20_5
  try clear hcz20_6
  try clear hcz20_7
  try clear hcz20_8
  try clear hcz20_9
  try clear hx442_0
  try clear hx442_1
  try clear hx442_10
  try clear hx442_11
  try clear hx442_12
  try clear hx442_13
  try clear hx442_14
  try clear hx442_15
  try clear hx442_16
  try clear hx442_17
  try clear hx442_18
  try clear hx442_19
  try clear hx442_2
  try clear hx442_20
  try clear hx442_21
  try clear hx442_22
  try clear hx442_3
  try clear hx442_4
  try clear hx442_5
  try clear hx442_6
  try clear hx442_7
  try clear hx442_8
  try clear hx442_9
  try clear p2
  try clear p4
  try clear p442
  try clear q4
  try clear q442
  obtain ⟨kq, HA, HJ18, BK443, HB⟩ := hcut
  cases kq with
  | zero => exact absurd HA.out (by simp [j4])
  | succ kj18 =>
  have H := HA.out
  clear HA
  simp only [j4] at H
  replace H := Option.bind_eq_some_iff.mp H
  obtain ⟨⟨t454, t457⟩, A280, H⟩ := H
  replace H : (if (pP0.f1.f0) ≥ 1 then (if (pP0.f1.f0) ≤ 3 then (if (pP0.f2) ≥ 0 then ((gangwayref20_Filestat.f kj18 (pP0.f1.f0) (pP0.f1.f1) (pP0.f1.f2) (pP0.f1.f3) (pP0.f1.f4) (pP0.f1.f5) (pP0.f2)).bind fun t458 => ((gangwaylaw20_is.f kj18 t454 t457 (decide ((pP0.f2) < 64)) t458).bind fun t461 => (j5 kj18 l0 x3_1 (!t461) (pP0.f0.f0) (pP0.f0.f1) (pP0.f0.f2) (pP0.f0.f3) (pP0.f0.f4) (pP0.f0.f5) (pP0.f0.f6) (pP0.f1.f0) (pP0.f1.f1) (pP0.f1.f2) (pP0.f1.f3) (pP0.f1.f4) (pP0.f1.f5) (pP0.f2) (pP0.f3) (pP0.f4) (pP0.f5) (pP0.f6) (pP0.f7.f0) (pP0.f7.f1) (pP0.f7.f2) (pP0.f7.f3) (pP0.f8)))) else ((gangwayref20_Filestat.f kj18 (pP0.f1.f0) (pP0.f1.f1) (pP0.f1.f2) (pP0.f1.f3) (pP0.f1.f4) (pP0.f1.f5) (pP0.f2)).bind fun t462 => ((gangwaylaw20_is.f kj18 t454 t457 false t462).bind fun t465 => (j5 kj18 l0 x3_1 (!t465) (pP0.f0.f0) (pP0.f0.f1) (pP0.f0.f2) (pP0.f0.f3) (pP0.f0.f4) (pP0.f0.f5) (pP0.f0.f6) (pP0.f1.f0) (pP0.f1.f1) (pP0.f1.f2) (pP0.f1.f3) (pP0.f1.f4) (pP0.f1.f5) (pP0.f2) (pP0.f3) (pP0.f4) (pP0.f5) (pP0.f6) (pP0.f7.f0) (pP0.f7.f1) (pP0.f7.f2) (pP0.f7.f3) (pP0.f8))))) else ((gangwayref20_Filestat.f kj18 (pP0.f1.f0) (pP0.f1.f1) (pP0.f1.f2) (pP0.f1.f3) (pP0.f1.f4) (pP0.f1.f5) (pP0.f2)).bind fun t466 => ((gangwaylaw20_is.f kj18 t454 t457 false t466).bind fun t469 => (j5 kj18 l0 x3_1 (!t469) (pP0.f0.f0) (pP0.f0.f1) (pP0.f0.f2) (pP0.f0.f3) (pP0.f0.f4) (pP0.f0.f5) (pP0.f0.f6) (pP0.f1.f0) (pP0.f1.f1) (pP0.f1.f2) (pP0.f1.f3) (pP0.f1.f4) (pP0.f1.f5) (pP0.f2) (pP0.f3) (pP0.f4) (pP0.f5) (pP0.f6) (pP0.f7.f0) (pP0.f7.f1) (pP0.f7.f2) (pP0.f7.f3) (pP0.f8))))) else ((gangwayref20_Filestat.f kj18 (pP0.f1.f0) (pP0.f1.f1) (pP0.f1.f2) (pP0.f1.f3) (pP0.f1.f4) (pP0.f1.f5) (pP0.f2)).bind fun t470 => ((gangwaylaw20_is.f kj18 t454 t457 false t470).bind fun t473 => (j5 kj18 l0 x3_1 (!t473) (pP0.f0.f0) (pP0.f0.f1) (pP0.f0.f2) (pP0.f0.f3) (pP0.f0.f4) (pP0.f0.f5) (pP0.f0.f6) (pP0.f1.f0) (pP0.f1.f1) (pP0.f1.f2) (pP0.f1.f3) (pP0.f1.f4) (pP0.f1.f5) (pP0.f2) (pP0.f3) (pP0.f4) (pP0.f5) (pP0.f6) (pP0.f7.f0) (pP0.f7.f1) (pP0.f7.f2) (pP0.f7.f3) (pP0.f8))))) = some r := H
  have A28 := Aside0.mk A280
  clear A280
  have HC29 := Aside0.mk H
  clear H
  have hcz30_0 : wc.cell? ⟨gb443, 0, none⟩ = some (.int .i64 (pP0.f0.f0)) := bc BK443 0
  have hcz30_1 : wc.cell? ⟨gb443, 1, none⟩ = some (.int .i64 (pP0.f0.f1)) := bc BK443 1
  have hcz30_2 : wc.cell? ⟨gb443, 2, none⟩ = some (.int .i64 (pP0.f0.f2)) := bc BK443 2
  have hcz30_3 : wc.cell? ⟨gb443, 3, none⟩ = some (.int .i64 (pP0.f0.f3)) := bc BK443 3
  have hcz30_4 : wc.cell? ⟨gb443, 4, none⟩ = some (.int .i64 (pP0.f0.f4)) := bc BK443 4
  have hcz30_5 : wc.cell? ⟨gb443, 5, none⟩ = some (.int .i64 (pP0.f0.f5)) := bc BK443 5
  have hcz30_6 : wc.cell? ⟨gb443, 6, none⟩ = some (.string (pP0.f0.f6)) := bc BK443 6
  have hcz30_7 : wc.cell? ⟨gb443, 7, none⟩ = some (.int .i64 (pP0.f1.f0)) := bc BK443 7
  have hcz30_8 : wc.cell? ⟨gb443, 8, none⟩ = some (.slice A442_8 (pP0.f1.f1).length c442_8) := bc BK443 8
  have hcz30_9 : wc.cell? ⟨gb443, 9, none⟩ = some (.slice A442_9 (pP0.f1.f2).length c442_9) := bc BK443 9
  have hcz30_10 : wc.cell? ⟨gb443, 10, none⟩ = some (.string (pP0.f1.f3)) := bc BK443 10
  have hcz30_11 : wc.cell? ⟨gb443, 11, none⟩ = some (.int .i64 (pP0.f1.f4)) := bc BK443 11
  have hcz30_12 : wc.cell? ⟨gb443, 12, none⟩ = some (.int .i64 (pP0.f1.f5)) := bc BK443 12
  have hcz30_13 : wc.cell? ⟨gb443, 13, none⟩ = some (.int .i64 (pP0.f2)) := bc BK443 13
  have hcz30_14 : wc.cell? ⟨gb443, 14, none⟩ = some (.string (pP0.f3)) := bc BK443 14
  have hcz30_15 : wc.cell? ⟨gb443, 15, none⟩ = some (.int .i64 (pP0.f4)) := bc BK443 15
  have hcz30_16 : wc.cell? ⟨gb443, 16, none⟩ = some (.int .i64 (pP0.f5)) := bc BK443 16
  have hcz30_17 : wc.cell? ⟨gb443, 17, none⟩ = some (.int .i64 (pP0.f6)) := bc BK443 17
  have hcz30_18 : wc.cell? ⟨gb443, 18, none⟩ = some (.int .i64 (pP0.f7.f0)) := bc BK443 18
  have hcz30_19 : wc.cell? ⟨gb443, 19, none⟩ = some (.int .i64 (pP0.f7.f1)) := bc BK443 19
  have hcz30_20 : wc.cell? ⟨gb443, 20, none⟩ = some (.int .i64 (pP0.f7.f2)) := bc BK443 20
  have hcz30_21 : wc.cell? ⟨gb443, 21, none⟩ = some (.int .i64 (pP0.f7.f3)) := bc BK443 21
  go_upto_region 11 with (first | ((with_reducible refine gate_callee (f := 24) rfl ?_); refine goesL_ (some 44) rfl rfl Try.func24 (by kernel_rfl) rfl #[.agg #[.int .i64 (pP0.f1.f0), .slice A442_8 (pP0.f1.f1).length c442_8, .slice A442_9 (pP0.f1.f2).length c442_9, .string (pP0.f1.f3), .int .i64 (pP0.f1.f4), .int .i64 (pP0.f1.f5)], .int .i64 (pP0.f2)] rfl (by (try simp only [List.map_toArray, List.map_cons, List.map_nil]); first | done | rfl | (simp only [List.length_drop, List.length_take]; rfl)) ?_; (with_reducible refine (stat_Filestat.calls kj18 (pP0.f1.f0) _ _ (pP0.f1.f1) _ _ (pP0.f1.f2) (pP0.f1.f3) (pP0.f1.f4) (pP0.f1.f5) (pP0.f2) t454 t457 _ ?side1 ?side2 ?side3 ?side4 A28.out).mono ?_); (case side1 => repeat (first | exact (Kd.C_below HR442_8.out HB.out) | (with_reducible refine Kd.C_alloc ?_ _) | (with_reducible refine Kd.C_drewN ?_ _) | (with_reducible refine Kd.C_drew ?_))); (case side2 => exact HC442_8.out); (case side3 => repeat (first | exact (Kd.C_below HR442_9.out HB.out) | (with_reducible refine Kd.C_alloc ?_ _) | (with_reducible refine Kd.C_drewN ?_ _) | (with_reducible refine Kd.C_drew ?_))); (case side4 => exact HC442_9.out); rintro e w31 ⟨v455, rfl, ho0, hb⟩; refine ⟨_, rfl, ?_⟩; have n0_ := Aside0.mk (Kd.R_lower ho0 (below_size (by repeat (first | (with_reducible first | exact HB.out | apply below_alloc | apply pw_below_drewN | apply below_drew1 | refine below_set ?_ GE443.out) | exact HB.out)))); have n1_ := Aside0.mk (bbelow BK443 (by (with_reducible repeat (first | refine blk_drewN ?_ _ | refine blk_drew ?_ | refine blk_alloc ?_ _)); exact BK443.out) hb); have n2_ := Aside0.mk (below_step (by repeat (first | (with_reducible first | exact HB.out | apply below_alloc | apply pw_below_drewN | apply below_drew1 | refine below_set ?_ GE443.out) | exact HB.out)) hb); clear BK443; clear HB; have HO456 := n0_; have BK443 := n1_; have HB := n2_; clear n0_ n1_ n2_; (try clear hb); (try clear hb2); (try clear hk); (try clear hi); (try clear ho0)))
  (try simp only [Act.put, e1, e2, e3])
  go_cut [75] (fun v75 wc => ∃ (kq : Nat) (x75_28 : Bool), v75 = .bool x75_28 ∧ Aside0 (j5 kq l0 x3_1 x75_28 (pP0.f0.f0) (pP0.f0.f1) (pP0.f0.f2) (pP0.f0.f3) (pP0.f0.f4) (pP0.f0.f5) (pP0.f0.f6) (pP0.f1.f0) (pP0.f1.f1) (pP0.f1.f2) (pP0.f1.f3) (pP0.f1.f4) (pP0.f1.f5) (pP0.f2) (pP0.f3) (pP0.f4) (pP0.f5) (pP0.f6) (pP0.f7.f0) (pP0.f7.f1) (pP0.f7.f2) (pP0.f7.f3) (pP0.f8) = some r) ∧ Aside0 (kq ≤ kj18) ∧ Aside0 (wc.heap[gb443]? = some (.cells #[.int .i64 (pP0.f0.f0), .int .i64 (pP0.f0.f1), .int .i64 (pP0.f0.f2), .int .i64 (pP0.f0.f3), .int .i64 (pP0.f0.f4), .int .i64 (pP0.f0.f5), .string (pP0.f0.f6), .int .i64 (pP0.f1.f0), (.slice A442_8 (pP0.f1.f1).length c442_8), (.slice A442_9 (pP0.f1.f2).length c442_9), .string (pP0.f1.f3), .int .i64 (pP0.f1.f4), .int .i64 (pP0.f1.f5), .int .i64 (pP0.f2), .string (pP0.f3), .int .i64 (pP0.f4), .int .i64 (pP0.f5), .int .i64 (pP0.f6), .int .i64 (pP0.f7.f0), .int .i64 (pP0.f7.f1), .int .i64 (pP0.f7.f2), .int .i64 (pP0.f7.f3), (.slice A442_22 (pP0.f8).length c442_22)] 35 (0, 0))) ∧ Aside0 (Below w.heap.size w wc))
  case first =>
   have H := HC29.out
   clear HC29
   by_cases c32 : (pP0.f1.f0) ≥ 1
   rotate_left
   ·as_aux_lemma =>
    rw [if_neg c32] at H
    have c32b0 : decide (1 ≤ (pP0.f1.f0)) = false := decide_eq_false c32
    clear c32
    (first | rw [c32b0] | (simp only [i64_w, i32_w]; rw [c32b0]) | skip)
    replace H := Option.bind_eq_some_iff.mp H
    obtain ⟨t470, A530, H⟩ := H
    replace H : ((gangwaylaw20_is.f kj18 t454 t457 false t470).bind fun t473 => (j5 kj18 l0 x3_1 (!t473) (pP0.f0.f0) (pP0.f0.f1) (pP0.f0.f2) (pP0.f0.f3) (pP0.f0.f4) (pP0.f0.f5) (pP0.f0.f6) (pP0.f1.f0) (pP0.f1.f1) (pP0.f1.f2) (pP0.f1.f3) (pP0.f1.f4) (pP0.f1.f5) (pP0.f2) (pP0.f3) (pP0.f4) (pP0.f5) (pP0.f6) (pP0.f7.f0) (pP0.f7.f1) (pP0.f7.f2) (pP0.f7.f3) (pP0.f8))) = some r := H
    have A53 := Aside0.mk A530
    clear A530
    replace H := Option.bind_eq_some_iff.mp H
    obtain ⟨t473, A540, H⟩ := H
    replace H : (j5 kj18 l0 x3_1 (!t473) (pP0.f0.f0) (pP0.f0.f1) (pP0.f0.f2) (pP0.f0.f3) (pP0.f0.f4) (pP0.f0.f5) (pP0.f0.f6) (pP0.f1.f0) (pP0.f1.f1) (pP0.f1.f2) (pP0.f1.f3) (pP0.f1.f4) (pP0.f1.f5) (pP0.f2) (pP0.f3) (pP0.f4) (pP0.f5) (pP0.f6) (pP0.f7.f0) (pP0.f7.f1) (pP0.f7.f2) (pP0.f7.f3) (pP0.f8)) = some r := H
    have A54 := Aside0.mk A540
    clear A540
    have H' := Aside0.mk H
    clear H
    try go_wp2
    have n0_ := Aside0.mk (Kd.R_drew HO456.out)
    have n1_ := Aside0.mk (blk_drew BK443.out)
    have n2_ := Aside0.mk (below_drew1 HB.out)
    clear HO456
    clear BK443
    clear HB
    have HO456 := n0_
    have BK443 := n1_
    have HB := n2_
    clear n0_ n1_ n2_
    refine start_ (n := 29) (S := fun w' => w'.cell? ⟨gb443, 7, none⟩ = some (.int .i64 (pP0.f1.f0)) ∧ w'.cell? ⟨gb443, 8, none⟩ = some (.slice A442_8 (pP0.f1.f1).length c442_8) ∧ w'.cell? ⟨gb443, 9, none⟩ = some (.slice A442_9 (pP0.f1.f2).length c442_9) ∧ w'.cell? ⟨gb443, 10, none⟩ = some (.string (pP0.f1.f3)) ∧ w'.cell? ⟨gb443, 11, none⟩ = some (.int .i64 (pP0.f1.f4)) ∧ w'.cell? ⟨gb443, 12, none⟩ = some (.int .i64 (pP0.f1.f5)) ∧ w'.cell? ⟨gb443, 13, none⟩ = some (.int .i64 (pP0.f2))) (ds := []) bb72_ (by kernel_rfl) rfl rfl ⟨bc BK443 7, bc BK443 8, bc BK443 9, bc BK443 10, bc BK443 11, bc BK443 12, bc BK443 13⟩ (fun hHeld => ?_); refine with_tabW gangwaylaw20_StatExact.tab11 gangwaylaw20_StatExact.bits11 (fun HT_ HW_ => ?_)
    generalize w31.drew = w55 at HO456 BK443 HB hHeld ⊢
    refine pure_ (i := 0) (N := some 47) (v := ?_) (a' := ?_) bb70_ rfl rfl (any_of HT_.out (by kernel_rfl)) (fun _ _ _ h => h) (Or.inl ⟨by rfl, ?_⟩) ?_ ?_
    rotate_left; · intro w'; go_simp; with_reducible rfl
    rotate_left; · simp only [Act.put, e1, e2, e3, i64_w, i32_w]; rfl
    refine pure_ (i := 1) (N := some 48) (v := ?_) (a' := ?_) bb68_ rfl rfl (any_of HT_.out (by kernel_rfl)) (fun _ _ _ h => h) (Or.inl ⟨by rfl, ?_⟩) ?_ ?_
    rotate_left; · intro w'; go_simp; with_reducible rfl
    rotate_left; · simp only [Act.put, e1, e2, e3, i64_w, i32_w]; rfl
    refine pure_ (i := 2) (N := some 49) (v := ?_) (a' := ?_) bb66_ rfl rfl (any_of HT_.out (by kernel_rfl)) (fun _ _ _ h => h) (Or.inl ⟨by rfl, ?_⟩) ?_ ?_
    rotate_left; · intro w'; go_simp; with_reducible rfl
    rotate_left; · simp only [Act.put, e1, e2, e3, i64_w, i32_w]; rfl
    refine pure_ (i := 3) (N := some 50) (v := ?_) (a' := ?_) bb64_ rfl rfl (any_of HT_.out (by kernel_rfl)) (fun _ _ _ h => h) (Or.inl ⟨by rfl, ?_⟩) ?_ ?_
    rotate_left; · intro w'; go_simp; with_reducible rfl
    rotate_left; · simp only [Act.put, e1, e2, e3, i64_w, i32_w]; rfl
    refine pure_ (i := 22) (N := some 69) (v := ?_) (a' := ?_) bb62_ rfl rfl (any_of HT_.out (by kernel_rfl)) (fun _ _ _ h => h) (Or.inl ⟨by rfl, ?_⟩) ?_ ?_
    rotate_left; · intro w'; go_simp; with_reducible rfl
    rotate_left; · simp only [Act.put, e1, e2, e3, i64_w, i32_w]; rfl
    refine pure_ (i := 24) (N := some 71) (v := ?_) (a' := ?_) bb60_ rfl rfl (any_of HT_.out (by kernel_rfl)) (fun _ _ _ h => h) (Or.inl ⟨by rfl, ?_⟩) ?_ ?_
    rotate_left; · intro w'; go_simp; with_reducible rfl
    rotate_left; · simp only [Act.put, e1, e2, e3, i64_w, i32_w]; rfl
    refine take_ (i := 4) (N := some 51) (v := ?_) (a' := ?_) bb58_ rfl rfl (take_ofW HT_.out HW_.out (by kernel_rfl)) (fun _ _ _ h => h) (Or.inl ⟨by rfl, ?_⟩) hHeld ?_ ?_
    rotate_left; · rintro w' ⟨s0, s1, s2, s3, s4, s5, s6⟩; go_simp; with_reducible rfl
    rotate_left; · simp only [Act.put, e1, e2, e3, i64_w, i32_w]; rfl
    refine pure_ (i := 5) (N := some 52) (v := ?_) (a' := ?_) bb56_ rfl rfl (any_of HT_.out (by kernel_rfl)) (fun _ _ _ h => h) (Or.inl ⟨by rfl, ?_⟩) ?_ ?_
    rotate_left; · intro w'; go_simp; with_reducible rfl
    rotate_left; · simp only [Act.put, e1, e2, e3, i64_w, i32_w]; rfl
    refine pure_ (i := 6) (N := some 53) (v := ?_) (a' := ?_) bb54_ rfl rfl (any_of HT_.out (by kernel_rfl)) (fun _ _ _ h => h) (Or.inl ⟨by rfl, ?_⟩) ?_ ?_
    rotate_left; · intro w'; go_simp; with_reducible rfl
    rotate_left; · simp only [Act.put, e1, e2, e3, i64_w, i32_w]; rfl
    refine pure_ (i := 7) (N := some 54) (v := undef) (a' := ?_) bb52_ rfl rfl (any_of HT_.out (by kernel_rfl)) (fun _ _ _ h => h) (Or.inr ⟨by rfl, rfl⟩) ?_ ?_
    rotate_left; · simp only [Act.put, e1, e2, e3, i64_w, i32_w]; rfl
    refine pure_ (i := 8) (N := some 55) (v := undef) (a' := ?_) bb50_ rfl rfl (any_of HT_.out (by kernel_rfl)) (fun _ _ _ h => h) (Or.inr ⟨by rfl, rfl⟩) ?_ ?_
    rotate_left; · simp only [Act.put, e1, e2, e3, i64_w, i32_w]; rfl
    refine pure_ (i := 9) (N := some 56) (v := undef) (a' := ?_) bb48_ rfl rfl (any_of HT_.out (by kernel_rfl)) (fun _ _ _ h => h) (Or.inr ⟨by rfl, rfl⟩) ?_ ?_
    rotate_left; · simp only [Act.put, e1, e2, e3, i64_w, i32_w]; rfl
    refine pure_ (i := 10) (N := some 57) (v := undef) (a' := ?_) bb46_ rfl rfl (any_of HT_.out (by kernel_rfl)) (fun _ _ _ h => h) (Or.inr ⟨by rfl, rfl⟩) ?_ ?_
    rotate_left; · simp only [Act.put, e1, e2, e3, i64_w, i32_w]; rfl
    refine pure_ (i := 11) (N := some 58) (v := ?_) (a' := ?_) bb44_ rfl rfl (any_of HT_.out (by kernel_rfl)) (fun _ _ _ h => h) (Or.inl ⟨by rfl, ?_⟩) ?_ ?_
    rotate_left; · intro w'; go_simp; with_reducible rfl
    rotate_left; · simp only [Act.put, e1, e2, e3, i64_w, i32_w]; rfl
    refine pure_ (i := 12) (N := some 59) (v := ?_) (a' := ?_) bb42_ rfl rfl (any_of HT_.out (by kernel_rfl)) (fun _ _ _ h => h) (Or.inl ⟨by rfl, ?_⟩) ?_ ?_
    rotate_left; · intro w'; go_simp; with_reducible rfl
    rotate_left; · simp only [Act.put, e1, e2, e3, i64_w, i32_w]; rfl
    refine pure_ (i := 13) (N := some 60) (v := undef) (a' := ?_) bb40_ rfl rfl (any_of HT_.out (by kernel_rfl)) (fun _ _ _ h => h) (Or.inr ⟨by rfl, rfl⟩) ?_ ?_
    rotate_left; · simp only [Act.put, e1, e2, e3, i64_w, i32_w]; rfl
    refine pure_ (i := 14) (N := some 61) (v := undef) (a' := ?_) bb38_ rfl rfl (any_of HT_.out (by kernel_rfl)) (fun _ _ _ h => h) (Or.inr ⟨by rfl, rfl⟩) ?_ ?_
    rotate_left; · simp only [Act.put, e1, e2, e3, i64_w, i32_w]; rfl
    refine pure_ (i := 15) (N := some 62) (v := undef) (a' := ?_) bb37_ rfl rfl (any_of HT_.out (by kernel_rfl)) (fun _ _ _ h => h) (Or.inr ⟨by rfl, rfl⟩) ?_ ?_
    rotate_left; · simp only [Act.put, e1, e2, e3, i64_w, i32_w]; rfl
    refine pure_ (i := 16) (N := some 63) (v := ?_) (a' := ?_) bb36_ rfl rfl (any_of HT_.out (by kernel_rfl)) (fun _ _ _ h => h) (Or.inl ⟨by rfl, ?_⟩) ?_ ?_
    rotate_left; · intro w'; go_simp; with_reducible rfl
    rotate_left; · simp only [Act.put, e1, e2, e3, i64_w, i32_w]; rfl
    refine pure_ (i := 17) (N := some 64) (v := ?_) (a' := ?_) bb35_ rfl rfl (any_of HT_.out (by kernel_rfl)) (fun _ _ _ h => h) (Or.inl ⟨by rfl, ?_⟩) ?_ ?_
    rotate_left; · intro w'; go_simp; with_reducible rfl
    rotate_left; · simp only [Act.put, e1, e2, e3, i64_w, i32_w]; rfl
    refine pure_ (i := 18) (N := some 65) (v := undef) (a' := ?_) bb34_ rfl rfl (any_of HT_.out (by kernel_rfl)) (fun _ _ _ h => h) (Or.inr ⟨by rfl, rfl⟩) ?_ ?_
    rotate_left; · simp only [Act.put, e1, e2, e3, i64_w, i32_w]; rfl
    refine pure_ (i := 19) (N := some 66) (v := undef) (a' := ?_) bb33_ rfl rfl (any_of HT_.out (by kernel_rfl)) (fun _ _ _ h => h) (Or.inr ⟨by rfl, rfl⟩) ?_ ?_
    rotate_left; · simp only [Act.put, e1, e2, e3, i64_w, i32_w]; rfl
    refine pure_ (i := 20) (N := some 67) (v := undef) (a' := ?_) bb32_ rfl rfl (any_of HT_.out (by kernel_rfl)) (fun _ _ _ h => h) (Or.inr ⟨by rfl, rfl⟩) ?_ ?_
    rotate_left; · simp only [Act.put, e1, e2, e3, i64_w, i32_w]; rfl
    refine pure_ (i := 21) (N := some 68) (v := ?_) (a' := ?_) bb31_ rfl rfl (any_of HT_.out (by kernel_rfl)) (fun _ _ _ h => h) (Or.inl ⟨by rfl, ?_⟩) ?_ ?_
    rotate_left; · intro w'; go_simp; with_reducible rfl
    rotate_left; · simp only [Act.put, e1, e2, e3, i64_w, i32_w]; rfl
    refine take_ (i := 23) (N := some 70) (v := ?_) (a' := ?_) bb30_ rfl rfl (take_ofW HT_.out HW_.out (by kernel_rfl)) (fun _ _ _ h => h) (Or.inl ⟨by rfl, ?_⟩) hHeld ?_ ?_
    rotate_left; · rintro w' ⟨s0, s1, s2, s3, s4, s5, s6⟩; go_simp; with_reducible rfl
    rotate_left; · simp only [Act.put, e1, e2, e3, i64_w, i32_w]; rfl
    refine take_ (i := 25) (N := some 72) (v := ?_) (a' := ?_) bb29_ rfl rfl (take_ofW HT_.out HW_.out (by kernel_rfl)) (fun _ _ _ h => h) (Or.inl ⟨by rfl, ?_⟩) hHeld ?_ ?_
    rotate_left; · rintro w' ⟨s0, s1, s2, s3, s4, s5, s6⟩; go_simp; with_reducible rfl
    rotate_left; · simp only [Act.put, e1, e2, e3, i64_w, i32_w]; rfl
    refine one_ (i := 26) (N := some 73) bb28_ rfl rfl (one_of HT_.out (by kernel_rfl)) (by decide) (fun K hK => ?_)
    refine goes_ Try.func25 (by kernel_rfl) rfl #[.agg #[.int .i64 (pP0.f1.f0), .slice A442_8 (pP0.f1.f1).length c442_8, .slice A442_9 (pP0.f1.f2).length c442_9, .string (pP0.f1.f3), .int .i64 (pP0.f1.f4), .int .i64 (pP0.f1.f5)], .int .i64 (pP0.f2)] (by rfl) rfl rfl (by (try simp only [List.map_toArray, List.map_cons, List.map_nil]); first | done | rfl | (simp only [List.length_drop, List.length_take]; rfl)) ?_
    with_reducible refine (gangwayref20_Filestat.calls kj18 (pP0.f1.f0) _ _ (pP0.f1.f1) _ _ (pP0.f1.f2) (pP0.f1.f3) (pP0.f1.f4) (pP0.f1.f5) (pP0.f2) t470 _ ?side1 ?side2 ?side3 ?side4 A53.out).mono ?_
    (case side1 => repeat (first | exact (Kd.C_below HR442_8.out HB.out) | (with_reducible refine Kd.C_alloc ?_ _) | (with_reducible refine Kd.C_drewN ?_ _) | (with_reducible refine Kd.C_drew ?_)))
    (case side2 => exact HC442_8.out)
    (case side3 => repeat (first | exact (Kd.C_below HR442_9.out HB.out) | (with_reducible refine Kd.C_alloc ?_ _) | (with_reducible refine Kd.C_drewN ?_ _) | (with_reducible refine Kd.C_drew ?_)))
    (case side4 => exact HC442_9.out)
    rintro e w56 ⟨v471, rfl, ho0, hb⟩
    refine ⟨_, rfl, ?_⟩
    have n0_ := Aside0.mk (Kd.R_elder' (by (with_reducible repeat (first | apply Kd.R_alloc | apply Kd.R_drewN | apply Kd.R_drew)); exact HO456.out) (Kd.R_base ho0) hb)
    have n1_ := Aside0.mk (Kd.R_lower (Kd.R_new' ho0 (Kd.R_lt (by (with_reducible repeat (first | apply Kd.R_alloc | apply Kd.R_drewN | apply Kd.R_drew)); exact HO456.out))) (below_size (by repeat (first | (with_reducible first | exact HB.out | apply below_alloc | apply pw_below_drewN | apply below_drew1 | refine below_set ?_ GE443.out) | exact HB.out))))
    have n2_ := Aside0.mk (bbelow BK443 (by (with_reducible repeat (first | refine blk_drewN ?_ _ | refine blk_drew ?_ | refine blk_alloc ?_ _)); exact BK443.out) hb)
    have n3_ := Aside0.mk (below_step (by repeat (first | (with_reducible first | exact HB.out | apply below_alloc | apply pw_below_drewN | apply below_drew1 | refine below_set ?_ GE443.out) | exact HB.out)) hb)
    clear HO456
    clear BK443
    clear HB
    have HO456 := n0_
    have HO472 := n1_
    have BK443 := n2_
    have HB := n3_
    clear n0_ n1_ n2_ n3_
    (try clear hb)
    (try clear hb2)
    (try clear hk)
    (try clear hi)
    (try clear ho0)
    obtain ⟨Ao57, co57, eo57⟩ := Kd.R_slice HO456.out
    (first | subst eo57 | (injection eo57 with f1_ f2_ f3_; have f4_ := f1_.symm; have f5_ := f3_.symm; clear f1_ f2_ f3_; subst f4_; subst f5_))
    obtain ⟨Ao58, co58, eo58⟩ := Kd.R_slice HO472.out
    (first | subst eo58 | (injection eo58 with f1_ f2_ f3_; have f4_ := f1_.symm; have f5_ := f3_.symm; clear f1_ f2_ f3_; subst f4_; subst f5_))
    refine hK.out _ _ ⟨bc BK443 7, bc BK443 8, bc BK443 9, bc BK443 10, bc BK443 11, bc BK443 12, bc BK443 13⟩ (fun hHeld => ?_)
    clear hK K
    refine norm_ (a' := ?_) ?_ ?_
    rotate_left
    ·show Act.put _ (some 73) _ = _
     simp only [Act.put, e1, e2, e3, i64_w, i32_w]
     rfl
    refine one_ (i := 27) (N := some 74) bb27_ rfl rfl (one_of HT_.out (by kernel_rfl)) (by decide) (fun K hK => ?_)
    refine goes_ Try.func11 (by kernel_rfl) rfl #[.slice Ao57 t454.length co57, .int .i64 t457, .bool false, .slice Ao58 t470.length co58] (by rfl) rfl rfl (by (try simp only [List.map_toArray, List.map_cons, List.map_nil]); first | done | rfl | (simp only [List.length_drop, List.length_take]; rfl)) ?_
    with_reducible refine (gangwaylaw20_is.calls kj18 _ _ t454 t457 false _ _ t470 t473 _ ?side1 ?side2 ?side3 ?side4 A54.out).mono ?_
    (case side1 => repeat (first | exact (Kd.R_reads' HO456.out).2.2 | (with_reducible refine Kd.C_alloc ?_ _) | (with_reducible refine Kd.C_drewN ?_ _) | (with_reducible refine Kd.C_drew ?_)))
    (case side2 => exact (Kd.R_reads' HO456.out).2.1)
    (case side3 => repeat (first | exact (Kd.R_reads' HO472.out).2.2 | (with_reducible refine Kd.C_alloc ?_ _) | (with_reducible refine Kd.C_drewN ?_ _) | (with_reducible refine Kd.C_drew ?_)))
    (case side4 => exact (Kd.R_reads' HO472.out).2.1)
    rintro e w' ⟨rfl, ⟨nd, rfl⟩⟩
    refine ⟨_, rfl, ?_⟩
    refine hK.out _ _ ⟨bc BK443 7, bc BK443 8, bc BK443 9, bc BK443 10, bc BK443 11, bc BK443 12, bc BK443 13⟩ (fun hHeld => ?_)
    clear hK K
    refine norm_ (a' := ?_) ?_ ?_
    rotate_left
    ·show Act.put _ (some 74) _ = _
     simp only [Act.put, e1, e2, e3, i64_w, i32_w]
     rfl
    refine pure_ (i := 28) (N := some 75) (v := ?_) (a' := ?_) bb26_ rfl rfl (any_of HT_.out (by kernel_rfl)) (fun _ _ _ h => h) (Or.inl ⟨by rfl, ?_⟩) ?_ ?_
    rotate_left; · intro w'; go_simp; with_reducible rfl
    rotate_left; · simp only [Act.put, e1, e2, e3, i64_w, i32_w]; rfl
    refine done_ (done_of HT_.out (by kernel_rfl)) ?_
    try go_wp2
    go_meet
    case rel => exact ⟨_, (!t473), (by first | rfl | (simp; done) | (simp [*]; done)), H', ⟨by have := HK1.out; have := HJ2.out; have := HJ4.out; have := HJ9.out; have := HJ18.out; first | omega | exact Nat.le_refl _⟩, ⟨by (with_reducible repeat (first | refine blk_drewN ?_ _ | refine blk_drew ?_ | refine blk_alloc ?_ _)); exact BK443.out⟩, ⟨by repeat (first | (with_reducible first | exact HB.out | apply below_alloc | apply pw_below_drewN | apply below_drew1 | refine below_set ?_ GE443.out) | exact HB.out)⟩⟩
   as_aux_lemma =>
   rw [if_pos c32] at H
   have c32b0 : decide (1 ≤ (pP0.f1.f0)) = true := decide_eq_true c32
   clear c32
   (first | rw [c32b0] | (simp only [i64_w, i32_w]; rw [c32b0]) | skip)
   by_cases c33 : (pP0.f1.f0) ≤ 3
   rotate_left
   ·as_aux_lemma =>
    rw [if_neg c33] at H
    have c33b0 : decide ((pP0.f1.f0) ≤ 3) = false := decide_eq_false c33
    clear c33
    replace H := Option.bind_eq_some_iff.mp H
    obtain ⟨t466, A470, H⟩ := H
    replace H : ((gangwaylaw20_is.f kj18 t454 t457 false t466).bind fun t469 => (j5 kj18 l0 x3_1 (!t469) (pP0.f0.f0) (pP0.f0.f1) (pP0.f0.f2) (pP0.f0.f3) (pP0.f0.f4) (pP0.f0.f5) (pP0.f0.f6) (pP0.f1.f0) (pP0.f1.f1) (pP0.f1.f2) (pP0.f1.f3) (pP0.f1.f4) (pP0.f1.f5) (pP0.f2) (pP0.f3) (pP0.f4) (pP0.f5) (pP0.f6) (pP0.f7.f0) (pP0.f7.f1) (pP0.f7.f2) (pP0.f7.f3) (pP0.f8))) = some r := H
    have A47 := Aside0.mk A470
    clear A470
    replace H := Option.bind_eq_some_iff.mp H
    obtain ⟨t469, A480, H⟩ := H
    replace H : (j5 kj18 l0 x3_1 (!t469) (pP0.f0.f0) (pP0.f0.f1) (pP0.f0.f2) (pP0.f0.f3) (pP0.f0.f4) (pP0.f0.f5) (pP0.f0.f6) (pP0.f1.f0) (pP0.f1.f1) (pP0.f1.f2) (pP0.f1.f3) (pP0.f1.f4) (pP0.f1.f5) (pP0.f2) (pP0.f3) (pP0.f4) (pP0.f5) (pP0.f6) (pP0.f7.f0) (pP0.f7.f1) (pP0.f7.f2) (pP0.f7.f3) (pP0.f8)) = some r := H
    have A48 := Aside0.mk A480
    clear A480
    have H' := Aside0.mk H
    clear H
    try go_wp2
    have n0_ := Aside0.mk (Kd.R_drew HO456.out)
    have n1_ := Aside0.mk (blk_drew BK443.out)
    have n2_ := Aside0.mk (below_drew1 HB.out)
    clear HO456
    clear BK443
    clear HB
    have HO456 := n0_
    have BK443 := n1_
    have HB := n2_
    clear n0_ n1_ n2_
    refine start_ (n := 29) (S := fun w' => w'.cell? ⟨gb443, 7, none⟩ = some (.int .i64 (pP0.f1.f0)) ∧ w'.cell? ⟨gb443, 8, none⟩ = some (.slice A442_8 (pP0.f1.f1).length c442_8) ∧ w'.cell? ⟨gb443, 9, none⟩ = some (.slice A442_9 (pP0.f1.f2).length c442_9) ∧ w'.cell? ⟨gb443, 10, none⟩ = some (.string (pP0.f1.f3)) ∧ w'.cell? ⟨gb443, 11, none⟩ = some (.int .i64 (pP0.f1.f4)) ∧ w'.cell? ⟨gb443, 12, none⟩ = some (.int .i64 (pP0.f1.f5)) ∧ w'.cell? ⟨gb443, 13, none⟩ = some (.int .i64 (pP0.f2))) (ds := []) bb72_ (by kernel_rfl) rfl rfl ⟨bc BK443 7, bc BK443 8, bc BK443 9, bc BK443 10, bc BK443 11, bc BK443 12, bc BK443 13⟩ (fun hHeld => ?_); refine with_tabW gangwaylaw20_StatExact.tab11 gangwaylaw20_StatExact.bits11 (fun HT_ HW_ => ?_)
    generalize w31.drew = w49 at HO456 BK443 HB hHeld ⊢
    refine pure_ (i := 0) (N := some 47) (v := ?_) (a' := ?_) bb70_ rfl rfl (any_of HT_.out (by kernel_rfl)) (fun _ _ _ h => h) (Or.inl ⟨by rfl, ?_⟩) ?_ ?_
    rotate_left; · intro w'; go_simp; with_reducible rfl
    rotate_left; · simp only [Act.put, e1, e2, e3, i64_w, i32_w]; rfl
    refine pure_ (i := 1) (N := some 48) (v := ?_) (a' := ?_) bb68_ rfl rfl (any_of HT_.out (by kernel_rfl)) (fun _ _ _ h => h) (Or.inl ⟨by rfl, ?_⟩) ?_ ?_
    rotate_left; · intro w'; go_simp; with_reducible rfl
    rotate_left; · simp only [Act.put, e1, e2, e3, i64_w, i32_w]; rfl
    refine pure_ (i := 2) (N := some 49) (v := ?_) (a' := ?_) bb66_ rfl rfl (any_of HT_.out (by kernel_rfl)) (fun _ _ _ h => h) (Or.inl ⟨by rfl, ?_⟩) ?_ ?_
    rotate_left; · intro w'; go_simp; with_reducible rfl
    rotate_left; · simp only [Act.put, e1, e2, e3, i64_w, i32_w]; rfl
    refine pure_ (i := 3) (N := some 50) (v := ?_) (a' := ?_) bb64_ rfl rfl (any_of HT_.out (by kernel_rfl)) (fun _ _ _ h => h) (Or.inl ⟨by rfl, ?_⟩) ?_ ?_
    rotate_left; · intro w'; go_simp; with_reducible rfl
    rotate_left; · simp only [Act.put, e1, e2, e3, i64_w, i32_w]; rfl
    refine pure_ (i := 22) (N := some 69) (v := ?_) (a' := ?_) bb62_ rfl rfl (any_of HT_.out (by kernel_rfl)) (fun _ _ _ h => h) (Or.inl ⟨by rfl, ?_⟩) ?_ ?_
    rotate_left; · intro w'; go_simp; with_reducible rfl
    rotate_left; · simp only [Act.put, e1, e2, e3, i64_w, i32_w]; rfl
    refine pure_ (i := 24) (N := some 71) (v := ?_) (a' := ?_) bb60_ rfl rfl (any_of HT_.out (by kernel_rfl)) (fun _ _ _ h => h) (Or.inl ⟨by rfl, ?_⟩) ?_ ?_
    rotate_left; · intro w'; go_simp; with_reducible rfl
    rotate_left; · simp only [Act.put, e1, e2, e3, i64_w, i32_w]; rfl
    refine take_ (i := 4) (N := some 51) (v := ?_) (a' := ?_) bb58_ rfl rfl (take_ofW HT_.out HW_.out (by kernel_rfl)) (fun _ _ _ h => h) (Or.inl ⟨by rfl, ?_⟩) hHeld ?_ ?_
    rotate_left; · rintro w' ⟨s0, s1, s2, s3, s4, s5, s6⟩; go_simp; with_reducible rfl
    rotate_left; · simp only [Act.put, e1, e2, e3, i64_w, i32_w]; rfl
    refine pure_ (i := 5) (N := some 52) (v := ?_) (a' := ?_) bb56_ rfl rfl (any_of HT_.out (by kernel_rfl)) (fun _ _ _ h => h) (Or.inl ⟨by rfl, ?_⟩) ?_ ?_
    rotate_left; · intro w'; go_simp; with_reducible rfl
    rotate_left; · simp only [Act.put, e1, e2, e3, i64_w, i32_w]; rfl
    refine pure_ (i := 6) (N := some 53) (v := ?_) (a' := ?_) bb54_ rfl rfl (any_of HT_.out (by kernel_rfl)) (fun _ _ _ h => h) (Or.inl ⟨by rfl, ?_⟩) ?_ ?_
    rotate_left; · intro w'; go_simp; with_reducible rfl
    rotate_left; · simp only [Act.put, e1, e2, e3, i64_w, i32_w]; rfl
    refine pure_ (i := 7) (N := some 54) (v := ?_) (a' := ?_) bb52_ rfl rfl (any_of HT_.out (by kernel_rfl)) (fun _ _ _ h => h) (Or.inl ⟨by rfl, ?_⟩) ?_ ?_
    rotate_left; · intro w'; go_simp; with_reducible rfl
    rotate_left; · simp only [Act.put, e1, e2, e3, i64_w, i32_w]; rfl
    refine pure_ (i := 8) (N := some 55) (v := ?_) (a' := ?_) bb50_ rfl rfl (any_of HT_.out (by kernel_rfl)) (fun _ _ _ h => h) (Or.inl ⟨by rfl, ?_⟩) ?_ ?_
    rotate_left; · intro w'; go_simp; with_reducible rfl
    rotate_left; · simp only [Act.put, e1, e2, e3, i64_w, i32_w]; rfl
    refine take_ (i := 9) (N := some 56) (v := ?_) (a' := ?_) bb48_ rfl rfl (take_ofW HT_.out HW_.out (by kernel_rfl)) (fun _ _ _ h => h) (Or.inl ⟨by rfl, ?_⟩) hHeld ?_ ?_
    rotate_left; · rintro w' ⟨s0, s1, s2, s3, s4, s5, s6⟩; go_simp; with_reducible rfl
    rotate_left; · simp only [Act.put, e1, e2, e3, i64_w, i32_w]; rfl
    refine pure_ (i := 10) (N := some 57) (v := ?_) (a' := ?_) bb46_ rfl rfl (any_of HT_.out (by kernel_rfl)) (fun _ _ _ h => h) (Or.inl ⟨by rfl, ?_⟩) ?_ ?_
    rotate_left; · intro w'; go_simp; with_reducible rfl
    rotate_left; · simp only [Act.put, e1, e2, e3, i64_w, i32_w]; rfl
    refine pure_ (i := 11) (N := some 58) (v := ?_) (a' := ?_) bb44_ rfl rfl (any_of HT_.out (by kernel_rfl)) (fun _ _ _ h => h) (Or.inl ⟨by rfl, ?_⟩) ?_ ?_
    rotate_left; · intro w'; go_simp; with_reducible rfl
    rotate_left; · simp only [Act.put, e1, e2, e3, i64_w, i32_w]; rfl
    refine pure_ (i := 12) (N := some 59) (v := ?_) (a' := ?_) bb42_ rfl rfl (any_of HT_.out (by kernel_rfl)) (fun _ _ _ h => h) (Or.inl ⟨by rfl, ?_⟩) ?_ ?_
    rotate_left; · intro w'; go_simp; with_reducible rfl
    rotate_left; · simp only [Act.put, e1, e2, e3, i64_w, i32_w]; rfl
    refine pure_ (i := 13) (N := some 60) (v := undef) (a' := ?_) bb40_ rfl rfl (any_of HT_.out (by kernel_rfl)) (fun _ _ _ h => h) (Or.inr ⟨by rfl, rfl⟩) ?_ ?_
    rotate_left; · simp only [Act.put, e1, e2, e3, i64_w, i32_w]; rfl
    refine pure_ (i := 14) (N := some 61) (v := undef) (a' := ?_) bb38_ rfl rfl (any_of HT_.out (by kernel_rfl)) (fun _ _ _ h => h) (Or.inr ⟨by rfl, rfl⟩) ?_ ?_
    rotate_left; · simp only [Act.put, e1, e2, e3, i64_w, i32_w]; rfl
    refine pure_ (i := 15) (N := some 62) (v := undef) (a' := ?_) bb37_ rfl rfl (any_of HT_.out (by kernel_rfl)) (fun _ _ _ h => h) (Or.inr ⟨by rfl, rfl⟩) ?_ ?_
    rotate_left; · simp only [Act.put, e1, e2, e3, i64_w, i32_w]; rfl
    refine pure_ (i := 16) (N := some 63) (v := ?_) (a' := ?_) bb36_ rfl rfl (any_of HT_.out (by kernel_rfl)) (fun _ _ _ h => h) (Or.inl ⟨by rfl, ?_⟩) ?_ ?_
    rotate_left; · intro w'; go_simp; with_reducible rfl
    rotate_left; · simp only [Act.put, e1, e2, e3, i64_w, i32_w]; rfl
    refine pure_ (i := 17) (N := some 64) (v := ?_) (a' := ?_) bb35_ rfl rfl (any_of HT_.out (by kernel_rfl)) (fun _ _ _ h => h) (Or.inl ⟨by rfl, ?_⟩) ?_ ?_
    rotate_left; · intro w'; go_simp; with_reducible rfl
    rotate_left; · simp only [Act.put, e1, e2, e3, i64_w, i32_w]; rfl
    refine pure_ (i := 18) (N := some 65) (v := undef) (a' := ?_) bb34_ rfl rfl (any_of HT_.out (by kernel_rfl)) (fun _ _ _ h => h) (Or.inr ⟨by rfl, rfl⟩) ?_ ?_
    rotate_left; · simp only [Act.put, e1, e2, e3, i64_w, i32_w]; rfl
    refine pure_ (i := 19) (N := some 66) (v := undef) (a' := ?_) bb33_ rfl rfl (any_of HT_.out (by kernel_rfl)) (fun _ _ _ h => h) (Or.inr ⟨by rfl, rfl⟩) ?_ ?_
    rotate_left; · simp only [Act.put, e1, e2, e3, i64_w, i32_w]; rfl
    refine pure_ (i := 20) (N := some 67) (v := undef) (a' := ?_) bb32_ rfl rfl (any_of HT_.out (by kernel_rfl)) (fun _ _ _ h => h) (Or.inr ⟨by rfl, rfl⟩) ?_ ?_
    rotate_left; · simp only [Act.put, e1, e2, e3, i64_w, i32_w]; rfl
    refine pure_ (i := 21) (N := some 68) (v := ?_) (a' := ?_) bb31_ rfl rfl (any_of HT_.out (by kernel_rfl)) (fun _ _ _ h => h) (Or.inl ⟨by rfl, ?_⟩) ?_ ?_
    rotate_left; · intro w'; go_simp; with_reducible rfl
    rotate_left; · simp only [Act.put, e1, e2, e3, i64_w, i32_w]; rfl
    refine take_ (i := 23) (N := some 70) (v := ?_) (a' := ?_) bb30_ rfl rfl (take_ofW HT_.out HW_.out (by kernel_rfl)) (fun _ _ _ h => h) (Or.inl ⟨by rfl, ?_⟩) hHeld ?_ ?_
    rotate_left; · rintro w' ⟨s0, s1, s2, s3, s4, s5, s6⟩; go_simp; with_reducible rfl
    rotate_left; · simp only [Act.put, e1, e2, e3, i64_w, i32_w]; rfl
    refine take_ (i := 25) (N := some 72) (v := ?_) (a' := ?_) bb29_ rfl rfl (take_ofW HT_.out HW_.out (by kernel_rfl)) (fun _ _ _ h => h) (Or.inl ⟨by rfl, ?_⟩) hHeld ?_ ?_
    rotate_left; · rintro w' ⟨s0, s1, s2, s3, s4, s5, s6⟩; go_simp; with_reducible rfl
    rotate_left; · simp only [Act.put, e1, e2, e3, i64_w, i32_w]; rfl
    refine one_ (i := 26) (N := some 73) bb28_ rfl rfl (one_of HT_.out (by kernel_rfl)) (by decide) (fun K hK => ?_)
    refine goes_ Try.func25 (by kernel_rfl) rfl #[.agg #[.int .i64 (pP0.f1.f0), .slice A442_8 (pP0.f1.f1).length c442_8, .slice A442_9 (pP0.f1.f2).length c442_9, .string (pP0.f1.f3), .int .i64 (pP0.f1.f4), .int .i64 (pP0.f1.f5)], .int .i64 (pP0.f2)] (by rfl) rfl rfl (by (try simp only [List.map_toArray, List.map_cons, List.map_nil]); first | done | rfl | (simp only [List.length_drop, List.length_take]; rfl)) ?_
    with_reducible refine (gangwayref20_Filestat.calls kj18 (pP0.f1.f0) _ _ (pP0.f1.f1) _ _ (pP0.f1.f2) (pP0.f1.f3) (pP0.f1.f4) (pP0.f1.f5) (pP0.f2) t466 _ ?side1 ?side2 ?side3 ?side4 A47.out).mono ?_
    (case side1 => repeat (first | exact (Kd.C_below HR442_8.out HB.out) | (with_reducible refine Kd.C_alloc ?_ _) | (with_reducible refine Kd.C_drewN ?_ _) | (with_reducible refine Kd.C_drew ?_)))
    (case side2 => exact HC442_8.out)
    (case side3 => repeat (first | exact (Kd.C_below HR442_9.out HB.out) | (with_reducible refine Kd.C_alloc ?_ _) | (with_reducible refine Kd.C_drewN ?_ _) | (with_reducible refine Kd.C_drew ?_)))
    (case side4 => exact HC442_9.out)
    rintro e w50 ⟨v467, rfl, ho0, hb⟩
    refine ⟨_, rfl, ?_⟩
    have n0_ := Aside0.mk (Kd.R_elder' (by (with_reducible repeat (first | apply Kd.R_alloc | apply Kd.R_drewN | apply Kd.R_drew)); exact HO456.out) (Kd.R_base ho0) hb)
    have n1_ := Aside0.mk (Kd.R_lower (Kd.R_new' ho0 (Kd.R_lt (by (with_reducible repeat (first | apply Kd.R_alloc | apply Kd.R_drewN | apply Kd.R_drew)); exact HO456.out))) (below_size (by repeat (first | (with_reducible first | exact HB.out | apply below_alloc | apply pw_below_drewN | apply below_drew1 | refine below_set ?_ GE443.out) | exact HB.out))))
    have n2_ := Aside0.mk (bbelow BK443 (by (with_reducible repeat (first | refine blk_drewN ?_ _ | refine blk_drew ?_ | refine blk_alloc ?_ _)); exact BK443.out) hb)
    have n3_ := Aside0.mk (below_step (by repeat (first | (with_reducible first | exact HB.out | apply below_alloc | apply pw_below_drewN | apply below_drew1 | refine below_set ?_ GE443.out) | exact HB.out)) hb)
    clear HO456
    clear BK443
    clear HB
    have HO456 := n0_
    have HO468 := n1_
    have BK443 := n2_
    have HB := n3_
    clear n0_ n1_ n2_ n3_
    (try clear hb)
    (try clear hb2)
    (try clear hk)
    (try clear hi)
    (try clear ho0)
    obtain ⟨Ao51, co51, eo51⟩ := Kd.R_slice HO456.out
    (first | subst eo51 | (injection eo51 with f1_ f2_ f3_; have f4_ := f1_.symm; have f5_ := f3_.symm; clear f1_ f2_ f3_; subst f4_; subst f5_))
    obtain ⟨Ao52, co52, eo52⟩ := Kd.R_slice HO468.out
    (first | subst eo52 | (injection eo52 with f1_ f2_ f3_; have f4_ := f1_.symm; have f5_ := f3_.symm; clear f1_ f2_ f3_; subst f4_; subst f5_))
    refine hK.out _ _ ⟨bc BK443 7, bc BK443 8, bc BK443 9, bc BK443 10, bc BK443 11, bc BK443 12, bc BK443 13⟩ (fun hHeld => ?_)
    clear hK K
    refine norm_ (a' := ?_) ?_ ?_
    rotate_left
    ·show Act.put _ (some 73) _ = _
     simp only [Act.put, e1, e2, e3, i64_w, i32_w]
     rfl
    refine one_ (i := 27) (N := some 74) bb27_ rfl rfl (one_of HT_.out (by kernel_rfl)) (by decide) (fun K hK => ?_)
    refine goes_ Try.func11 (by kernel_rfl) rfl #[.slice Ao51 t454.length co51, .int .i64 t457, .bool false, .slice Ao52 t466.length co52] (by rfl) rfl rfl (by (try simp only [List.map_toArray, List.map_cons, List.map_nil]); first | done | rfl | (simp only [List.length_drop, List.length_take]; rfl)) ?_
    with_reducible refine (gangwaylaw20_is.calls kj18 _ _ t454 t457 false _ _ t466 t469 _ ?side1 ?side2 ?side3 ?side4 A48.out).mono ?_
    (case side1 => repeat (first | exact (Kd.R_reads' HO456.out).2.2 | (with_reducible refine Kd.C_alloc ?_ _) | (with_reducible refine Kd.C_drewN ?_ _) | (with_reducible refine Kd.C_drew ?_)))
    (case side2 => exact (Kd.R_reads' HO456.out).2.1)
    (case side3 => repeat (first | exact (Kd.R_reads' HO468.out).2.2 | (with_reducible refine Kd.C_alloc ?_ _) | (with_reducible refine Kd.C_drewN ?_ _) | (with_reducible refine Kd.C_drew ?_)))
    (case side4 => exact (Kd.R_reads' HO468.out).2.1)
    rintro e w' ⟨rfl, ⟨nd, rfl⟩⟩
    refine ⟨_, rfl, ?_⟩
    refine hK.out _ _ ⟨bc BK443 7, bc BK443 8, bc BK443 9, bc BK443 10, bc BK443 11, bc BK443 12, bc BK443 13⟩ (fun hHeld => ?_)
    clear hK K
    refine norm_ (a' := ?_) ?_ ?_
    rotate_left
    ·show Act.put _ (some 74) _ = _
     simp only [Act.put, e1, e2, e3, i64_w, i32_w]
     rfl
    refine pure_ (i := 28) (N := some 75) (v := ?_) (a' := ?_) bb26_ rfl rfl (any_of HT_.out (by kernel_rfl)) (fun _ _ _ h => h) (Or.inl ⟨by rfl, ?_⟩) ?_ ?_
    rotate_left; · intro w'; go_simp; with_reducible rfl
    rotate_left; · simp only [Act.put, e1, e2, e3, i64_w, i32_w]; rfl
    refine done_ (done_of HT_.out (by kernel_rfl)) ?_
    try go_wp2
    go_meet
    case rel => exact ⟨_, (!t469), (by first | rfl | (simp; done) | (simp [*]; done)), H', ⟨by have := HK1.out; have := HJ2.out; have := HJ4.out; have := HJ9.out; have := HJ18.out; first | omega | exact Nat.le_refl _⟩, ⟨by (with_reducible repeat (first | refine blk_drewN ?_ _ | refine blk_drew ?_ | refine blk_alloc ?_ _)); exact BK443.out⟩, ⟨by repeat (first | (with_reducible first | exact HB.out | apply below_alloc | apply pw_below_drewN | apply below_drew1 | refine below_set ?_ GE443.out) | exact HB.out)⟩⟩
   as_aux_lemma =>
   rw [if_pos c33] at H
   have c33b0 : decide ((pP0.f1.f0) ≤ 3) = true := decide_eq_true c33
   clear c33
   by_cases c34 : (pP0.f2) ≥ 0
   rotate_left
   ·as_aux_lemma =>
    rw [if_neg c34] at H
    have c34b0 : decide (0 ≤ (pP0.f2)) = false := decide_eq_false c34
    clear c34
    replace H := Option.bind_eq_some_iff.mp H
    obtain ⟨t462, A410, H⟩ := H
    replace H : ((gangwaylaw20_is.f kj18 t454 t457 false t462).bind fun t465 => (j5 kj18 l0 x3_1 (!t465) (pP0.f0.f0) (pP0.f0.f1) (pP0.f0.f2) (pP0.f0.f3) (pP0.f0.f4) (pP0.f0.f5) (pP0.f0.f6) (pP0.f1.f0) (pP0.f1.f1) (pP0.f1.f2) (pP0.f1.f3) (pP0.f1.f4) (pP0.f1.f5) (pP0.f2) (pP0.f3) (pP0.f4) (pP0.f5) (pP0.f6) (pP0.f7.f0) (pP0.f7.f1) (pP0.f7.f2) (pP0.f7.f3) (pP0.f8))) = some r := H
    have A41 := Aside0.mk A410
    clear A410
    replace H := Option.bind_eq_some_iff.mp H
    obtain ⟨t465, A420, H⟩ := H
    replace H : (j5 kj18 l0 x3_1 (!t465) (pP0.f0.f0) (pP0.f0.f1) (pP0.f0.f2) (pP0.f0.f3) (pP0.f0.f4) (pP0.f0.f5) (pP0.f0.f6) (pP0.f1.f0) (pP0.f1.f1) (pP0.f1.f2) (pP0.f1.f3) (pP0.f1.f4) (pP0.f1.f5) (pP0.f2) (pP0.f3) (pP0.f4) (pP0.f5) (pP0.f6) (pP0.f7.f0) (pP0.f7.f1) (pP0.f7.f2) (pP0.f7.f3) (pP0.f8)) = some r := H
    have A42 := Aside0.mk A420
    clear A420
    have H' := Aside0.mk H
    clear H
    try go_wp2
    have n0_ := Aside0.mk (Kd.R_drew HO456.out)
    have n1_ := Aside0.mk (blk_drew BK443.out)
    have n2_ := Aside0.mk (below_drew1 HB.out)
    clear HO456
    clear BK443
    clear HB
    have HO456 := n0_
    have BK443 := n1_
    have HB := n2_
    clear n0_ n1_ n2_
    refine start_ (n := 29) (S := fun w' => w'.cell? ⟨gb443, 7, none⟩ = some (.int .i64 (pP0.f1.f0)) ∧ w'.cell? ⟨gb443, 8, none⟩ = some (.slice A442_8 (pP0.f1.f1).length c442_8) ∧ w'.cell? ⟨gb443, 9, none⟩ = some (.slice A442_9 (pP0.f1.f2).length c442_9) ∧ w'.cell? ⟨gb443, 10, none⟩ = some (.string (pP0.f1.f3)) ∧ w'.cell? ⟨gb443, 11, none⟩ = some (.int .i64 (pP0.f1.f4)) ∧ w'.cell? ⟨gb443, 12, none⟩ = some (.int .i64 (pP0.f1.f5)) ∧ w'.cell? ⟨gb443, 13, none⟩ = some (.int .i64 (pP0.f2))) (ds := []) bb72_ (by kernel_rfl) rfl rfl ⟨bc BK443 7, bc BK443 8, bc BK443 9, bc BK443 10, bc BK443 11, bc BK443 12, bc BK443 13⟩ (fun hHeld => ?_); refine with_tabW gangwaylaw20_StatExact.tab11 gangwaylaw20_StatExact.bits11 (fun HT_ HW_ => ?_)
    generalize w31.drew = w43 at HO456 BK443 HB hHeld ⊢
    refine pure_ (i := 0) (N := some 47) (v := ?_) (a' := ?_) bb70_ rfl rfl (any_of HT_.out (by kernel_rfl)) (fun _ _ _ h => h) (Or.inl ⟨by rfl, ?_⟩) ?_ ?_
    rotate_left; · intro w'; go_simp; with_reducible rfl
    rotate_left; · simp only [Act.put, e1, e2, e3, i64_w, i32_w]; rfl
    refine pure_ (i := 1) (N := some 48) (v := ?_) (a' := ?_) bb68_ rfl rfl (any_of HT_.out (by kernel_rfl)) (fun _ _ _ h => h) (Or.inl ⟨by rfl, ?_⟩) ?_ ?_
    rotate_left; · intro w'; go_simp; with_reducible rfl
    rotate_left; · simp only [Act.put, e1, e2, e3, i64_w, i32_w]; rfl
    refine pure_ (i := 2) (N := some 49) (v := ?_) (a' := ?_) bb66_ rfl rfl (any_of HT_.out (by kernel_rfl)) (fun _ _ _ h => h) (Or.inl ⟨by rfl, ?_⟩) ?_ ?_
    rotate_left; · intro w'; go_simp; with_reducible rfl
    rotate_left; · simp only [Act.put, e1, e2, e3, i64_w, i32_w]; rfl
    refine pure_ (i := 3) (N := some 50) (v := ?_) (a' := ?_) bb64_ rfl rfl (any_of HT_.out (by kernel_rfl)) (fun _ _ _ h => h) (Or.inl ⟨by rfl, ?_⟩) ?_ ?_
    rotate_left; · intro w'; go_simp; with_reducible rfl
    rotate_left; · simp only [Act.put, e1, e2, e3, i64_w, i32_w]; rfl
    refine pure_ (i := 22) (N := some 69) (v := ?_) (a' := ?_) bb62_ rfl rfl (any_of HT_.out (by kernel_rfl)) (fun _ _ _ h => h) (Or.inl ⟨by rfl, ?_⟩) ?_ ?_
    rotate_left; · intro w'; go_simp; with_reducible rfl
    rotate_left; · simp only [Act.put, e1, e2, e3, i64_w, i32_w]; rfl
    refine pure_ (i := 24) (N := some 71) (v := ?_) (a' := ?_) bb60_ rfl rfl (any_of HT_.out (by kernel_rfl)) (fun _ _ _ h => h) (Or.inl ⟨by rfl, ?_⟩) ?_ ?_
    rotate_left; · intro w'; go_simp; with_reducible rfl
    rotate_left; · simp only [Act.put, e1, e2, e3, i64_w, i32_w]; rfl
    refine take_ (i := 4) (N := some 51) (v := ?_) (a' := ?_) bb58_ rfl rfl (take_ofW HT_.out HW_.out (by kernel_rfl)) (fun _ _ _ h => h) (Or.inl ⟨by rfl, ?_⟩) hHeld ?_ ?_
    rotate_left; · rintro w' ⟨s0, s1, s2, s3, s4, s5, s6⟩; go_simp; with_reducible rfl
    rotate_left; · simp only [Act.put, e1, e2, e3, i64_w, i32_w]; rfl
    refine pure_ (i := 5) (N := some 52) (v := ?_) (a' := ?_) bb56_ rfl rfl (any_of HT_.out (by kernel_rfl)) (fun _ _ _ h => h) (Or.inl ⟨by rfl, ?_⟩) ?_ ?_
    rotate_left; · intro w'; go_simp; with_reducible rfl
    rotate_left; · simp only [Act.put, e1, e2, e3, i64_w, i32_w]; rfl
    refine pure_ (i := 6) (N := some 53) (v := ?_) (a' := ?_) bb54_ rfl rfl (any_of HT_.out (by kernel_rfl)) (fun _ _ _ h => h) (Or.inl ⟨by rfl, ?_⟩) ?_ ?_
    rotate_left; · intro w'; go_simp; with_reducible rfl
    rotate_left; · simp only [Act.put, e1, e2, e3, i64_w, i32_w]; rfl
    refine pure_ (i := 7) (N := some 54) (v := ?_) (a' := ?_) bb52_ rfl rfl (any_of HT_.out (by kernel_rfl)) (fun _ _ _ h => h) (Or.inl ⟨by rfl, ?_⟩) ?_ ?_
    rotate_left; · intro w'; go_simp; with_reducible rfl
    rotate_left; · simp only [Act.put, e1, e2, e3, i64_w, i32_w]; rfl
    refine pure_ (i := 8) (N := some 55) (v := ?_) (a' := ?_) bb50_ rfl rfl (any_of HT_.out (by kernel_rfl)) (fun _ _ _ h => h) (Or.inl ⟨by rfl, ?_⟩) ?_ ?_
    rotate_left; · intro w'; go_simp; with_reducible rfl
    rotate_left; · simp only [Act.put, e1, e2, e3, i64_w, i32_w]; rfl
    refine take_ (i := 9) (N := some 56) (v := ?_) (a' := ?_) bb48_ rfl rfl (take_ofW HT_.out HW_.out (by kernel_rfl)) (fun _ _ _ h => h) (Or.inl ⟨by rfl, ?_⟩) hHeld ?_ ?_
    rotate_left; · rintro w' ⟨s0, s1, s2, s3, s4, s5, s6⟩; go_simp; with_reducible rfl
    rotate_left; · simp only [Act.put, e1, e2, e3, i64_w, i32_w]; rfl
    refine pure_ (i := 10) (N := some 57) (v := ?_) (a' := ?_) bb46_ rfl rfl (any_of HT_.out (by kernel_rfl)) (fun _ _ _ h => h) (Or.inl ⟨by rfl, ?_⟩) ?_ ?_
    rotate_left; · intro w'; go_simp; with_reducible rfl
    rotate_left; · simp only [Act.put, e1, e2, e3, i64_w, i32_w]; rfl
    refine pure_ (i := 11) (N := some 58) (v := ?_) (a' := ?_) bb44_ rfl rfl (any_of HT_.out (by kernel_rfl)) (fun _ _ _ h => h) (Or.inl ⟨by rfl, ?_⟩) ?_ ?_
    rotate_left; · intro w'; go_simp; with_reducible rfl
    rotate_left; · simp only [Act.put, e1, e2, e3, i64_w, i32_w]; rfl
    refine pure_ (i := 12) (N := some 59) (v := ?_) (a' := ?_) bb42_ rfl rfl (any_of HT_.out (by kernel_rfl)) (fun _ _ _ h => h) (Or.inl ⟨by rfl, ?_⟩) ?_ ?_
    rotate_left; · intro w'; go_simp; with_reducible rfl
    rotate_left; · simp only [Act.put, e1, e2, e3, i64_w, i32_w]; rfl
    refine pure_ (i := 13) (N := some 60) (v := ?_) (a' := ?_) bb40_ rfl rfl (any_of HT_.out (by kernel_rfl)) (fun _ _ _ h => h) (Or.inl ⟨by rfl, ?_⟩) ?_ ?_
    rotate_left; · intro w'; go_simp; with_reducible rfl
    rotate_left; · simp only [Act.put, e1, e2, e3, i64_w, i32_w]; rfl
    refine take_ (i := 14) (N := some 61) (v := ?_) (a' := ?_) bb38_ rfl rfl (take_ofW HT_.out HW_.out (by kernel_rfl)) (fun _ _ _ h => h) (Or.inl ⟨by rfl, ?_⟩) hHeld ?_ ?_
    rotate_left; · rintro w' ⟨s0, s1, s2, s3, s4, s5, s6⟩; go_simp; with_reducible rfl
    rotate_left; · simp only [Act.put, e1, e2, e3, i64_w, i32_w]; rfl
    refine pure_ (i := 15) (N := some 62) (v := ?_) (a' := ?_) bb37_ rfl rfl (any_of HT_.out (by kernel_rfl)) (fun _ _ _ h => h) (Or.inl ⟨by rfl, ?_⟩) ?_ ?_
    rotate_left; · intro w'; go_simp; with_reducible rfl
    rotate_left; · simp only [Act.put, e1, e2, e3, i64_w, i32_w]; rfl
    refine pure_ (i := 16) (N := some 63) (v := ?_) (a' := ?_) bb36_ rfl rfl (any_of HT_.out (by kernel_rfl)) (fun _ _ _ h => h) (Or.inl ⟨by rfl, ?_⟩) ?_ ?_
    rotate_left; · intro w'; go_simp; with_reducible rfl
    rotate_left; · simp only [Act.put, e1, e2, e3, i64_w, i32_w]; rfl
    refine pure_ (i := 17) (N := some 64) (v := ?_) (a' := ?_) bb35_ rfl rfl (any_of HT_.out (by kernel_rfl)) (fun _ _ _ h => h) (Or.inl ⟨by rfl, ?_⟩) ?_ ?_
    rotate_left; · intro w'; go_simp; with_reducible rfl
    rotate_left; · simp only [Act.put, e1, e2, e3, i64_w, i32_w]; rfl
    refine pure_ (i := 18) (N := some 65) (v := undef) (a' := ?_) bb34_ rfl rfl (any_of HT_.out (by kernel_rfl)) (fun _ _ _ h => h) (Or.inr ⟨by rfl, rfl⟩) ?_ ?_
    rotate_left; · simp only [Act.put, e1, e2, e3, i64_w, i32_w]; rfl
    refine pure_ (i := 19) (N := some 66) (v := undef) (a' := ?_) bb33_ rfl rfl (any_of HT_.out (by kernel_rfl)) (fun _ _ _ h => h) (Or.inr ⟨by rfl, rfl⟩) ?_ ?_
    rotate_left; · simp only [Act.put, e1, e2, e3, i64_w, i32_w]; rfl
    refine pure_ (i := 20) (N := some 67) (v := undef) (a' := ?_) bb32_ rfl rfl (any_of HT_.out (by kernel_rfl)) (fun _ _ _ h => h) (Or.inr ⟨by rfl, rfl⟩) ?_ ?_
    rotate_left; · simp only [Act.put, e1, e2, e3, i64_w, i32_w]; rfl
    refine pure_ (i := 21) (N := some 68) (v := ?_) (a' := ?_) bb31_ rfl rfl (any_of HT_.out (by kernel_rfl)) (fun _ _ _ h => h) (Or.inl ⟨by rfl, ?_⟩) ?_ ?_
    rotate_left; · intro w'; go_simp; with_reducible rfl
    rotate_left; · simp only [Act.put, e1, e2, e3, i64_w, i32_w]; rfl
    refine take_ (i := 23) (N := some 70) (v := ?_) (a' := ?_) bb30_ rfl rfl (take_ofW HT_.out HW_.out (by kernel_rfl)) (fun _ _ _ h => h) (Or.inl ⟨by rfl, ?_⟩) hHeld ?_ ?_
    rotate_left; · rintro w' ⟨s0, s1, s2, s3, s4, s5, s6⟩; go_simp; with_reducible rfl
    rotate_left; · simp only [Act.put, e1, e2, e3, i64_w, i32_w]; rfl
    refine take_ (i := 25) (N := some 72) (v := ?_) (a' := ?_) bb29_ rfl rfl (take_ofW HT_.out HW_.out (by kernel_rfl)) (fun _ _ _ h => h) (Or.inl ⟨by rfl, ?_⟩) hHeld ?_ ?_
    rotate_left; · rintro w' ⟨s0, s1, s2, s3, s4, s5, s6⟩; go_simp; with_reducible rfl
    rotate_left; · simp only [Act.put, e1, e2, e3, i64_w, i32_w]; rfl
    refine one_ (i := 26) (N := some 73) bb28_ rfl rfl (one_of HT_.out (by kernel_rfl)) (by decide) (fun K hK => ?_)
    refine goes_ Try.func25 (by kernel_rfl) rfl #[.agg #[.int .i64 (pP0.f1.f0), .slice A442_8 (pP0.f1.f1).length c442_8, .slice A442_9 (pP0.f1.f2).length c442_9, .string (pP0.f1.f3), .int .i64 (pP0.f1.f4), .int .i64 (pP0.f1.f5)], .int .i64 (pP0.f2)] (by rfl) rfl rfl (by (try simp only [List.map_toArray, List.map_cons, List.map_nil]); first | done | rfl | (simp only [List.length_drop, List.length_take]; rfl)) ?_
    with_reducible refine (gangwayref20_Filestat.calls kj18 (pP0.f1.f0) _ _ (pP0.f1.f1) _ _ (pP0.f1.f2) (pP0.f1.f3) (pP0.f1.f4) (pP0.f1.f5) (pP0.f2) t462 _ ?side1 ?side2 ?side3 ?side4 A41.out).mono ?_
    (case side1 => repeat (first | exact (Kd.C_below HR442_8.out HB.out) | (with_reducible refine Kd.C_alloc ?_ _) | (with_reducible refine Kd.C_drewN ?_ _) | (with_reducible refine Kd.C_drew ?_)))
    (case side2 => exact HC442_8.out)
    (case side3 => repeat (first | exact (Kd.C_below HR442_9.out HB.out) | (with_reducible refine Kd.C_alloc ?_ _) | (with_reducible refine Kd.C_drewN ?_ _) | (with_reducible refine Kd.C_drew ?_)))
    (case side4 => exact HC442_9.out)
    rintro e w44 ⟨v463, rfl, ho0, hb⟩
    refine ⟨_, rfl, ?_⟩
    have n0_ := Aside0.mk (Kd.R_elder' (by (with_reducible repeat (first | apply Kd.R_alloc | apply Kd.R_drewN | apply Kd.R_drew)); exact HO456.out) (Kd.R_base ho0) hb)
    have n1_ := Aside0.mk (Kd.R_lower (Kd.R_new' ho0 (Kd.R_lt (by (with_reducible repeat (first | apply Kd.R_alloc | apply Kd.R_drewN | apply Kd.R_drew)); exact HO456.out))) (below_size (by repeat (first | (with_reducible first | exact HB.out | apply below_alloc | apply pw_below_drewN | apply below_drew1 | refine below_set ?_ GE443.out) | exact HB.out))))
    have n2_ := Aside0.mk (bbelow BK443 (by (with_reducible repeat (first | refine blk_drewN ?_ _ | refine blk_drew ?_ | refine blk_alloc ?_ _)); exact BK443.out) hb)
    have n3_ := Aside0.mk (below_step (by repeat (first | (with_reducible first | exact HB.out | apply below_alloc | apply pw_below_drewN | apply below_drew1 | refine below_set ?_ GE443.out) | exact HB.out)) hb)
    clear HO456
    clear BK443
    clear HB
    have HO456 := n0_
    have HO464 := n1_
    have BK443 := n2_
    have HB := n3_
    clear n0_ n1_ n2_ n3_
    (try clear hb)
    (try clear hb2)
    (try clear hk)
    (try clear hi)
    (try clear ho0)
    obtain ⟨Ao45, co45, eo45⟩ := Kd.R_slice HO456.out
    (first | subst eo45 | (injection eo45 with f1_ f2_ f3_; have f4_ := f1_.symm; have f5_ := f3_.symm; clear f1_ f2_ f3_; subst f4_; subst f5_))
    obtain ⟨Ao46, co46, eo46⟩ := Kd.R_slice HO464.out
    (first | subst eo46 | (injection eo46 with f1_ f2_ f3_; have f4_ := f1_.symm; have f5_ := f3_.symm; clear f1_ f2_ f3_; subst f4_; subst f5_))
    refine hK.out _ _ ⟨bc BK443 7, bc BK443 8, bc BK443 9, bc BK443 10, bc BK443 11, bc BK443 12, bc BK443 13⟩ (fun hHeld => ?_)
    clear hK K
    refine norm_ (a' := ?_) ?_ ?_
    rotate_left
    ·show Act.put _ (some 73) _ = _
     simp only [Act.put, e1, e2, e3, i64_w, i32_w]
     rfl
    refine one_ (i := 27) (N := some 74) bb27_ rfl rfl (one_of HT_.out (by kernel_rfl)) (by decide) (fun K hK => ?_)
    refine goes_ Try.func11 (by kernel_rfl) rfl #[.slice Ao45 t454.length co45, .int .i64 t457, .bool false, .slice Ao46 t462.length co46] (by rfl) rfl rfl (by (try simp only [List.map_toArray, List.map_cons, List.map_nil]); first | done | rfl | (simp only [List.length_drop, List.length_take]; rfl)) ?_
    with_reducible refine (gangwaylaw20_is.calls kj18 _ _ t454 t457 false _ _ t462 t465 _ ?side1 ?side2 ?side3 ?side4 A42.out).mono ?_
    (case side1 => repeat (first | exact (Kd.R_reads' HO456.out).2.2 | (with_reducible refine Kd.C_alloc ?_ _) | (with_reducible refine Kd.C_drewN ?_ _) | (with_reducible refine Kd.C_drew ?_)))
    (case side2 => exact (Kd.R_reads' HO456.out).2.1)
    (case side3 => repeat (first | exact (Kd.R_reads' HO464.out).2.2 | (with_reducible refine Kd.C_alloc ?_ _) | (with_reducible refine Kd.C_drewN ?_ _) | (with_reducible refine Kd.C_drew ?_)))
    (case side4 => exact (Kd.R_reads' HO464.out).2.1)
    rintro e w' ⟨rfl, ⟨nd, rfl⟩⟩
    refine ⟨_, rfl, ?_⟩
    refine hK.out _ _ ⟨bc BK443 7, bc BK443 8, bc BK443 9, bc BK443 10, bc BK443 11, bc BK443 12, bc BK443 13⟩ (fun hHeld => ?_)
    clear hK K
    refine norm_ (a' := ?_) ?_ ?_
    rotate_left
    ·show Act.put _ (some 74) _ = _
     simp only [Act.put, e1, e2, e3, i64_w, i32_w]
     rfl
    refine pure_ (i := 28) (N := some 75) (v := ?_) (a' := ?_) bb26_ rfl rfl (any_of HT_.out (by kernel_rfl)) (fun _ _ _ h => h) (Or.inl ⟨by rfl, ?_⟩) ?_ ?_
    rotate_left; · intro w'; go_simp; with_reducible rfl
    rotate_left; · simp only [Act.put, e1, e2, e3, i64_w, i32_w]; rfl
    refine done_ (done_of HT_.out (by kernel_rfl)) ?_
    try go_wp2
    go_meet
    case rel => exact ⟨_, (!t465), (by first | rfl | (simp; done) | (simp [*]; done)), H', ⟨by have := HK1.out; have := HJ2.out; have := HJ4.out; have := HJ9.out; have := HJ18.out; first | omega | exact Nat.le_refl _⟩, ⟨by (with_reducible repeat (first | refine blk_drewN ?_ _ | refine blk_drew ?_ | refine blk_alloc ?_ _)); exact BK443.out⟩, ⟨by repeat (first | (with_reducible first | exact HB.out | apply below_alloc | apply pw_below_drewN | apply below_drew1 | refine below_set ?_ GE443.out) | exact HB.out)⟩⟩
   as_aux_lemma =>
   rw [if_pos c34] at H
   have c34b0 : decide (0 ≤ (pP0.f2)) = true := decide_eq_true c34
   clear c34
   replace H := Option.bind_eq_some_iff.mp H
   obtain ⟨t458, A350, H⟩ := H
   replace H : ((gangwaylaw20_is.f kj18 t454 t457 (decide ((pP0.f2) < 64)) t458).bind fun t461 => (j5 kj18 l0 x3_1 (!t461) (pP0.f0.f0) (pP0.f0.f1) (pP0.f0.f2) (pP0.f0.f3) (pP0.f0.f4) (pP0.f0.f5) (pP0.f0.f6) (pP0.f1.f0) (pP0.f1.f1) (pP0.f1.f2) (pP0.f1.f3) (pP0.f1.f4) (pP0.f1.f5) (pP0.f2) (pP0.f3) (pP0.f4) (pP0.f5) (pP0.f6) (pP0.f7.f0) (pP0.f7.f1) (pP0.f7.f2) (pP0.f7.f3) (pP0.f8))) = some r := H
   have A35 := Aside0.mk A350
   clear A350
   replace H := Option.bind_eq_some_iff.mp H
   obtain ⟨t461, A360, H⟩ := H
   replace H : (j5 kj18 l0 x3_1 (!t461) (pP0.f0.f0) (pP0.f0.f1) (pP0.f0.f2) (pP0.f0.f3) (pP0.f0.f4) (pP0.f0.f5) (pP0.f0.f6) (pP0.f1.f0) (pP0.f1.f1) (pP0.f1.f2) (pP0.f1.f3) (pP0.f1.f4) (pP0.f1.f5) (pP0.f2) (pP0.f3) (pP0.f4) (pP0.f5) (pP0.f6) (pP0.f7.f0) (pP0.f7.f1) (pP0.f7.f2) (pP0.f7.f3) (pP0.f8)) = some r := H
   have A36 := Aside0.mk A360
   clear A360
   have H' := Aside0.mk H
   clear H
   try go_wp2
   have n0_ := Aside0.mk (Kd.R_drew HO456.out)
   have n1_ := Aside0.mk (blk_drew BK443.out)
   have n2_ := Aside0.mk (below_drew1 HB.out)
   clear HO456
   clear BK443
   clear HB
   have HO456 := n0_
   have BK443 := n1_
   have HB := n2_
   clear n0_ n1_ n2_
   refine start_ (n := 29) (S := fun w' => w'.cell? ⟨gb443, 7, none⟩ = some (.int .i64 (pP0.f1.f0)) ∧ w'.cell? ⟨gb443, 8, none⟩ = some (.slice A442_8 (pP0.f1.f1).length c442_8) ∧ w'.cell? ⟨gb443, 9, none⟩ = some (.slice A442_9 (pP0.f1.f2).length c442_9) ∧ w'.cell? ⟨gb443, 10, none⟩ = some (.string (pP0.f1.f3)) ∧ w'.cell? ⟨gb443, 11, none⟩ = some (.int .i64 (pP0.f1.f4)) ∧ w'.cell? ⟨gb443, 12, none⟩ = some (.int .i64 (pP0.f1.f5)) ∧ w'.cell? ⟨gb443, 13, none⟩ = some (.int .i64 (pP0.f2))) (ds := []) bb72_ (by kernel_rfl) rfl rfl ⟨bc BK443 7, bc BK443 8, bc BK443 9, bc BK443 10, bc BK443 11, bc BK443 12, bc BK443 13⟩ (fun hHeld => ?_); refine with_tabW gangwaylaw20_StatExact.tab11 gangwaylaw20_StatExact.bits11 (fun HT_ HW_ => ?_)
   generalize w31.drew = w37 at HO456 BK443 HB hHeld ⊢
   refine pure_ (i := 0) (N := some 47) (v := ?_) (a' := ?_) bb70_ rfl rfl (any_of HT_.out (by kernel_rfl)) (fun _ _ _ h => h) (Or.inl ⟨by rfl, ?_⟩) ?_ ?_
   rotate_left; · intro w'; go_simp; with_reducible rfl
   rotate_left; · simp only [Act.put, e1, e2, e3, i64_w, i32_w]; rfl
   refine pure_ (i := 1) (N := some 48) (v := ?_) (a' := ?_) bb68_ rfl rfl (any_of HT_.out (by kernel_rfl)) (fun _ _ _ h => h) (Or.inl ⟨by rfl, ?_⟩) ?_ ?_
   rotate_left; · intro w'; go_simp; with_reducible rfl
   rotate_left; · simp only [Act.put, e1, e2, e3, i64_w, i32_w]; rfl
   refine pure_ (i := 2) (N := some 49) (v := ?_) (a' := ?_) bb66_ rfl rfl (any_of HT_.out (by kernel_rfl)) (fun _ _ _ h => h) (Or.inl ⟨by rfl, ?_⟩) ?_ ?_
   rotate_left; · intro w'; go_simp; with_reducible rfl
   rotate_left; · simp only [Act.put, e1, e2, e3, i64_w, i32_w]; rfl
   refine pure_ (i := 3) (N := some 50) (v := ?_) (a' := ?_) bb64_ rfl rfl (any_of HT_.out (by kernel_rfl)) (fun _ _ _ h => h) (Or.inl ⟨by rfl, ?_⟩) ?_ ?_
   rotate_left; · intro w'; go_simp; with_reducible rfl
   rotate_left; · simp only [Act.put, e1, e2, e3, i64_w, i32_w]; rfl
   refine pure_ (i := 22) (N := some 69) (v := ?_) (a' := ?_) bb62_ rfl rfl (any_of HT_.out (by kernel_rfl)) (fun _ _ _ h => h) (Or.inl ⟨by rfl, ?_⟩) ?_ ?_
   rotate_left; · intro w'; go_simp; with_reducible rfl
   rotate_left; · simp only [Act.put, e1, e2, e3, i64_w, i32_w]; rfl
   refine pure_ (i := 24) (N := some 71) (v := ?_) (a' := ?_) bb60_ rfl rfl (any_of HT_.out (by kernel_rfl)) (fun _ _ _ h => h) (Or.inl ⟨by rfl, ?_⟩) ?_ ?_
   rotate_left; · intro w'; go_simp; with_reducible rfl
   rotate_left; · simp only [Act.put, e1, e2, e3, i64_w, i32_w]; rfl
   refine take_ (i := 4) (N := some 51) (v := ?_) (a' := ?_) bb58_ rfl rfl (take_ofW HT_.out HW_.out (by kernel_rfl)) (fun _ _ _ h => h) (Or.inl ⟨by rfl, ?_⟩) hHeld ?_ ?_
   rotate_left; · rintro w' ⟨s0, s1, s2, s3, s4, s5, s6⟩; go_simp; with_reducible rfl
   rotate_left; · simp only [Act.put, e1, e2, e3, i64_w, i32_w]; rfl
   refine pure_ (i := 5) (N := some 52) (v := ?_) (a' := ?_) bb56_ rfl rfl (any_of HT_.out (by kernel_rfl)) (fun _ _ _ h => h) (Or.inl ⟨by rfl, ?_⟩) ?_ ?_
   rotate_left; · intro w'; go_simp; with_reducible rfl
   rotate_left; · simp only [Act.put, e1, e2, e3, i64_w, i32_w]; rfl
   refine pure_ (i := 6) (N := some 53) (v := ?_) (a' := ?_) bb54_ rfl rfl (any_of HT_.out (by kernel_rfl)) (fun _ _ _ h => h) (Or.inl ⟨by rfl, ?_⟩) ?_ ?_
   rotate_left; · intro w'; go_simp; with_reducible rfl
   rotate_left; · simp only [Act.put, e1, e2, e3, i64_w, i32_w]; rfl
   refine pure_ (i := 7) (N := some 54) (v := ?_) (a' := ?_) bb52_ rfl rfl (any_of HT_.out (by kernel_rfl)) (fun _ _ _ h => h) (Or.inl ⟨by rfl, ?_⟩) ?_ ?_
   rotate_left; · intro w'; go_simp; with_reducible rfl
   rotate_left; · simp only [Act.put, e1, e2, e3, i64_w, i32_w]; rfl
   refine pure_ (i := 8) (N := some 55) (v := ?_) (a' := ?_) bb50_ rfl rfl (any_of HT_.out (by kernel_rfl)) (fun _ _ _ h => h) (Or.inl ⟨by rfl, ?_⟩) ?_ ?_
   rotate_left; · intro w'; go_simp; with_reducible rfl
   rotate_left; · simp only [Act.put, e1, e2, e3, i64_w, i32_w]; rfl
   refine take_ (i := 9) (N := some 56) (v := ?_) (a' := ?_) bb48_ rfl rfl (take_ofW HT_.out HW_.out (by kernel_rfl)) (fun _ _ _ h => h) (Or.inl ⟨by rfl, ?_⟩) hHeld ?_ ?_
   rotate_left; · rintro w' ⟨s0, s1, s2, s3, s4, s5, s6⟩; go_simp; with_reducible rfl
   rotate_left; · simp only [Act.put, e1, e2, e3, i64_w, i32_w]; rfl
   refine pure_ (i := 10) (N := some 57) (v := ?_) (a' := ?_) bb46_ rfl rfl (any_of HT_.out (by kernel_rfl)) (fun _ _ _ h => h) (Or.inl ⟨by rfl, ?_⟩) ?_ ?_
   rotate_left; · intro w'; go_simp; with_reducible rfl
   rotate_left; · simp only [Act.put, e1, e2, e3, i64_w, i32_w]; rfl
   refine pure_ (i := 11) (N := some 58) (v := ?_) (a' := ?_) bb44_ rfl rfl (any_of HT_.out (by kernel_rfl)) (fun _ _ _ h => h) (Or.inl ⟨by rfl, ?_⟩) ?_ ?_
   rotate_left; · intro w'; go_simp; with_reducible rfl
   rotate_left; · simp only [Act.put, e1, e2, e3, i64_w, i32_w]; rfl
   refine pure_ (i := 12) (N := some 59) (v := ?_) (a' := ?_) bb42_ rfl rfl (any_of HT_.out (by kernel_rfl)) (fun _ _ _ h => h) (Or.inl ⟨by rfl, ?_⟩) ?_ ?_
   rotate_left; · intro w'; go_simp; with_reducible rfl
   rotate_left; · simp only [Act.put, e1, e2, e3, i64_w, i32_w]; rfl
   refine pure_ (i := 13) (N := some 60) (v := ?_) (a' := ?_) bb40_ rfl rfl (any_of HT_.out (by kernel_rfl)) (fun _ _ _ h => h) (Or.inl ⟨by rfl, ?_⟩) ?_ ?_
   rotate_left; · intro w'; go_simp; with_reducible rfl
   rotate_left; · simp only [Act.put, e1, e2, e3, i64_w, i32_w]; rfl
   refine take_ (i := 14) (N := some 61) (v := ?_) (a' := ?_) bb38_ rfl rfl (take_ofW HT_.out HW_.out (by kernel_rfl)) (fun _ _ _ h => h) (Or.inl ⟨by rfl, ?_⟩) hHeld ?_ ?_
   rotate_left; · rintro w' ⟨s0, s1, s2, s3, s4, s5, s6⟩; go_simp; with_reducible rfl
   rotate_left; · simp only [Act.put, e1, e2, e3, i64_w, i32_w]; rfl
   refine pure_ (i := 15) (N := some 62) (v := ?_) (a' := ?_) bb37_ rfl rfl (any_of HT_.out (by kernel_rfl)) (fun _ _ _ h => h) (Or.inl ⟨by rfl, ?_⟩) ?_ ?_
   rotate_left; · intro w'; go_simp; with_reducible rfl
   rotate_left; · simp only [Act.put, e1, e2, e3, i64_w, i32_w]; rfl
   refine pure_ (i := 16) (N := some 63) (v := ?_) (a' := ?_) bb36_ rfl rfl (any_of HT_.out (by kernel_rfl)) (fun _ _ _ h => h) (Or.inl ⟨by rfl, ?_⟩) ?_ ?_
   rotate_left; · intro w'; go_simp; with_reducible rfl
   rotate_left; · simp only [Act.put, e1, e2, e3, i64_w, i32_w]; rfl
   refine pure_ (i := 17) (N := some 64) (v := ?_) (a' := ?_) bb35_ rfl rfl (any_of HT_.out (by kernel_rfl)) (fun _ _ _ h => h) (Or.inl ⟨by rfl, ?_⟩) ?_ ?_
   rotate_left; · intro w'; go_simp; with_reducible rfl
   rotate_left; · simp only [Act.put, e1, e2, e3, i64_w, i32_w]; rfl
   refine pure_ (i := 18) (N := some 65) (v := ?_) (a' := ?_) bb34_ rfl rfl (any_of HT_.out (by kernel_rfl)) (fun _ _ _ h => h) (Or.inl ⟨by rfl, ?_⟩) ?_ ?_
   rotate_left; · intro w'; go_simp; with_reducible rfl
   rotate_left; · simp only [Act.put, e1, e2, e3, i64_w, i32_w]; rfl
   refine take_ (i := 19) (N := some 66) (v := ?_) (a' := ?_) bb33_ rfl rfl (take_ofW HT_.out HW_.out (by kernel_rfl)) (fun _ _ _ h => h) (Or.inl ⟨by rfl, ?_⟩) hHeld ?_ ?_
   rotate_left; · rintro w' ⟨s0, s1, s2, s3, s4, s5, s6⟩; go_simp; with_reducible rfl
   rotate_left; · simp only [Act.put, e1, e2, e3, i64_w, i32_w]; rfl
   refine pure_ (i := 20) (N := some 67) (v := ?_) (a' := ?_) bb32_ rfl rfl (any_of HT_.out (by kernel_rfl)) (fun _ _ _ h => h) (Or.inl ⟨by rfl, ?_⟩) ?_ ?_
   rotate_left; · intro w'; go_simp; with_reducible rfl
   rotate_left; · simp only [Act.put, e1, e2, e3, i64_w, i32_w]; rfl
   refine pure_ (i := 21) (N := some 68) (v := ?_) (a' := ?_) bb31_ rfl rfl (any_of HT_.out (by kernel_rfl)) (fun _ _ _ h => h) (Or.inl ⟨by rfl, ?_⟩) ?_ ?_
   rotate_left; · intro w'; go_simp; with_reducible rfl
   rotate_left; · simp only [Act.put, e1, e2, e3, i64_w, i32_w]; rfl
   refine take_ (i := 23) (N := some 70) (v := ?_) (a' := ?_) bb30_ rfl rfl (take_ofW HT_.out HW_.out (by kernel_rfl)) (fun _ _ _ h => h) (Or.inl ⟨by rfl, ?_⟩) hHeld ?_ ?_
   rotate_left; · rintro w' ⟨s0, s1, s2, s3, s4, s5, s6⟩; go_simp; with_reducible rfl
   rotate_left; · simp only [Act.put, e1, e2, e3, i64_w, i32_w]; rfl
   refine take_ (i := 25) (N := some 72) (v := ?_) (a' := ?_) bb29_ rfl rfl (take_ofW HT_.out HW_.out (by kernel_rfl)) (fun _ _ _ h => h) (Or.inl ⟨by rfl, ?_⟩) hHeld ?_ ?_
   rotate_left; · rintro w' ⟨s0, s1, s2, s3, s4, s5, s6⟩; go_simp; with_reducible rfl
   rotate_left; · simp only [Act.put, e1, e2, e3, i64_w, i32_w]; rfl
   refine one_ (i := 26) (N := some 73) bb28_ rfl rfl (one_of HT_.out (by kernel_rfl)) (by decide) (fun K hK => ?_)
   refine goes_ Try.func25 (by kernel_rfl) rfl #[.agg #[.int .i64 (pP0.f1.f0), .slice A442_8 (pP0.f1.f1).length c442_8, .slice A442_9 (pP0.f1.f2).length c442_9, .string (pP0.f1.f3), .int .i64 (pP0.f1.f4), .int .i64 (pP0.f1.f5)], .int .i64 (pP0.f2)] (by rfl) rfl rfl (by (try simp only [List.map_toArray, List.map_cons, List.map_nil]); first | done | rfl | (simp only [List.length_drop, List.length_take]; rfl)) ?_
   with_reducible refine (gangwayref20_Filestat.calls kj18 (pP0.f1.f0) _ _ (pP0.f1.f1) _ _ (pP0.f1.f2) (pP0.f1.f3) (pP0.f1.f4) (pP0.f1.f5) (pP0.f2) t458 _ ?side1 ?side2 ?side3 ?side4 A35.out).mono ?_
   (case side1 => repeat (first | exact (Kd.C_below HR442_8.out HB.out) | (with_reducible refine Kd.C_alloc ?_ _) | (with_reducible refine Kd.C_drewN ?_ _) | (with_reducible refine Kd.C_drew ?_)))
   (case side2 => exact HC442_8.out)
   (case side3 => repeat (first | exact (Kd.C_below HR442_9.out HB.out) | (with_reducible refine Kd.C_alloc ?_ _) | (with_reducible refine Kd.C_drewN ?_ _) | (with_reducible refine Kd.C_drew ?_)))
   (case side4 => exact HC442_9.out)
   rintro e w38 ⟨v459, rfl, ho0, hb⟩
   refine ⟨_, rfl, ?_⟩
   have n0_ := Aside0.mk (Kd.R_elder' (by (with_reducible repeat (first | apply Kd.R_alloc | apply Kd.R_drewN | apply Kd.R_drew)); exact HO456.out) (Kd.R_base ho0) hb)
   have n1_ := Aside0.mk (Kd.R_lower (Kd.R_new' ho0 (Kd.R_lt (by (with_reducible repeat (first | apply Kd.R_alloc | apply Kd.R_drewN | apply Kd.R_drew)); exact HO456.out))) (below_size (by repeat (first | (with_reducible first | exact HB.out | apply below_alloc | apply pw_below_drewN | apply below_drew1 | refine below_set ?_ GE443.out) | exact HB.out))))
   have n2_ := Aside0.mk (bbelow BK443 (by (with_reducible repeat (first | refine blk_drewN ?_ _ | refine blk_drew ?_ | refine blk_alloc ?_ _)); exact BK443.out) hb)
   have n3_ := Aside0.mk (below_step (by repeat (first | (with_reducible first | exact HB.out | apply below_alloc | apply pw_below_drewN | apply below_drew1 | refine below_set ?_ GE443.out) | exact HB.out)) hb)
   clear HO456
   clear BK443
   clear HB
   have HO456 := n0_
   have HO460 := n1_
   have BK443 := n2_
   have HB := n3_
   clear n0_ n1_ n2_ n3_
   (try clear hb)
   (try clear hb2)
   (try clear hk)
   (try clear hi)
   (try clear ho0)
   obtain ⟨Ao39, co39, eo39⟩ := Kd.R_slice HO456.out
   (first | subst eo39 | (injection eo39 with f1_ f2_ f3_; have f4_ := f1_.symm; have f5_ := f3_.symm; clear f1_ f2_ f3_; subst f4_; subst f5_))
   obtain ⟨Ao40, co40, eo40⟩ := Kd.R_slice HO460.out
   (first | subst eo40 | (injection eo40 with f1_ f2_ f3_; have f4_ := f1_.symm; have f5_ := f3_.symm; clear f1_ f2_ f3_; subst f4_; subst f5_))
   refine hK.out _ _ ⟨bc BK443 7, bc BK443 8, bc BK443 9, bc BK443 10, bc BK443 11, bc BK443 12, bc BK443 13⟩ (fun hHeld => ?_)
   clear hK K
   refine norm_ (a' := ?_) ?_ ?_
   rotate_left
   ·show Act.put _ (some 73) _ = _
    simp only [Act.put, e1, e2, e3, i64_w, i32_w]
    rfl
   refine one_ (i := 27) (N := some 74) bb27_ rfl rfl (one_of HT_.out (by kernel_rfl)) (by decide) (fun K hK => ?_)
   refine goes_ Try.func11 (by kernel_rfl) rfl #[.slice Ao39 t454.length co39, .int .i64 t457, .bool (decide ((pP0.f2) < 64)), .slice Ao40 t458.length co40] (by rfl) rfl rfl (by (try simp only [List.map_toArray, List.map_cons, List.map_nil]); first | done | rfl | (simp only [List.length_drop, List.length_take]; rfl)) ?_
   with_reducible refine (gangwaylaw20_is.calls kj18 _ _ t454 t457 (decide ((pP0.f2) < 64)) _ _ t458 t461 _ ?side1 ?side2 ?side3 ?side4 A36.out).mono ?_
   (case side1 => repeat (first | exact (Kd.R_reads' HO456.out).2.2 | (with_reducible refine Kd.C_alloc ?_ _) | (with_reducible refine Kd.C_drewN ?_ _) | (with_reducible refine Kd.C_drew ?_)))
   (case side2 => exact (Kd.R_reads' HO456.out).2.1)
   (case side3 => repeat (first | exact (Kd.R_reads' HO460.out).2.2 | (with_reducible refine Kd.C_alloc ?_ _) | (with_reducible refine Kd.C_drewN ?_ _) | (with_reducible refine Kd.C_drew ?_)))
   (case side4 => exact (Kd.R_reads' HO460.out).2.1)
   rintro e w' ⟨rfl, ⟨nd, rfl⟩⟩
   refine ⟨_, rfl, ?_⟩
   refine hK.out _ _ ⟨bc BK443 7, bc BK443 8, bc BK443 9, bc BK443 10, bc BK443 11, bc BK443 12, bc BK443 13⟩ (fun hHeld => ?_)
   clear hK K
   refine norm_ (a' := ?_) ?_ ?_
   rotate_left
   ·show Act.put _ (some 74) _ = _
    simp only [Act.put, e1, e2, e3, i64_w, i32_w]
    rfl
   refine pure_ (i := 28) (N := some 75) (v := ?_) (a' := ?_) bb26_ rfl rfl (any_of HT_.out (by kernel_rfl)) (fun _ _ _ h => h) (Or.inl ⟨by rfl, ?_⟩) ?_ ?_
   rotate_left; · intro w'; go_simp; with_reducible rfl
   rotate_left; · simp only [Act.put, e1, e2, e3, i64_w, i32_w]; rfl
   refine done_ (done_of HT_.out (by kernel_rfl)) ?_
   try go_wp2
   go_meet
   case rel => exact ⟨_, (!t461), (by first | rfl | (simp; done) | (simp [*]; done)), H', ⟨by have := HK1.out; have := HJ2.out; have := HJ4.out; have := HJ9.out; have := HJ18.out; first | omega | exact Nat.le_refl _⟩, ⟨by (with_reducible repeat (first | refine blk_drewN ?_ _ | refine blk_drew ?_ | refine blk_alloc ?_ _)); exact BK443.out⟩, ⟨by repeat (first | (with_reducible first | exact HB.out | apply below_alloc | apply pw_below_drewN | apply below_drew1 | refine below_set ?_ GE443.out) | exact HB.out)⟩⟩
  case rest =>
  as_aux_lemma =>
  clear HC29
  try clear c1
  try clear c2
  try clear p2
  try clear c3
  try clear c4
  try clear c11
  try clear c25
  try clear c32
  try clear c32b0
  try clear c33
  try clear c33b0
  try clear c44
  obtain ⟨kq, x75_28, rfl, HA, HJ28, BK443, HB⟩ := hcut
  cases kq with
  | zero => exact absurd HA.out (by simp [j5])
  | succ kj28 =>
  have H := HA.out
  clear HA
  simp only [j5] at H
  have HC59 := Aside0.mk H
  clear H
  go_upto_if 75 with (fail)
  go_cut [] (fun wc => ∃ (kq : Nat), Aside0 (j6 kq l0 x3_1 (pP0.f0.f0) (pP0.f0.f1) (pP0.f0.f2) (pP0.f0.f3) (pP0.f0.f4) (pP0.f0.f5) (pP0.f0.f6) (pP0.f1.f0) (pP0.f1.f1) (pP0.f1.f2) (pP0.f1.f3) (pP0.f1.f4) (pP0.f1.f5) (pP0.f2) (pP0.f3) (pP0.f4) (pP0.f5) (pP0.f6) (pP0.f7.f0) (pP0.f7.f1) (pP0.f7.f2) (pP0.f7.f3) (pP0.f8) = some r) ∧ Aside0 (kq ≤ kj28) ∧ Aside0 (wc.heap[gb443]? = some (.cells #[.int .i64 (pP0.f0.f0), .int .i64 (pP0.f0.f1), .int .i64 (pP0.f0.f2), .int .i64 (pP0.f0.f3), .int .i64 (pP0.f0.f4), .int .i64 (pP0.f0.f5), .string (pP0.f0.f6), .int .i64 (pP0.f1.f0), (.slice A442_8 (pP0.f1.f1).length c442_8), (.slice A442_9 (pP0.f1.f2).length c442_9), .string (pP0.f1.f3), .int .i64 (pP0.f1.f4), .int .i64 (pP0.f1.f5), .int .i64 (pP0.f2), .string (pP0.f3), .int .i64 (pP0.f4), .int .i64 (pP0.f5), .int .i64 (pP0.f6), .int .i64 (pP0.f7.f0), .int .i64 (pP0.f7.f1), .int .i64 (pP0.f7.f2), .int .i64 (pP0.f7.f3), (.slice A442_22 (pP0.f8).length c442_22)] 35 (0, 0))) ∧ Aside0 (Below w.heap.size w wc))
  case first =>
   have H := HC59.out
   clear HC59
   by_cases c60 : x75_28 = true
   ·subst c60
    have H1 : (none) = some r := by rw [if_pos rfl] at H; exact H
    clear H
    have H := H1
    clear H1
    exact absurd H (by simp)
   replace c60 := Bool.eq_false_iff.mpr c60
   subst c60
   have H1 : (j6 kj28 l0 x3_1 (pP0.f0.f0) (pP0.f0.f1) (pP0.f0.f2) (pP0.f0.f3) (pP0.f0.f4) (pP0.f0.f5) (pP0.f0.f6) (pP0.f1.f0) (pP0.f1.f1) (pP0.f1.f2) (pP0.f1.f3) (pP0.f1.f4) (pP0.f1.f5) (pP0.f2) (pP0.f3) (pP0.f4) (pP0.f5) (pP0.f6) (pP0.f7.f0) (pP0.f7.f1) (pP0.f7.f2) (pP0.f7.f3) (pP0.f8)) = some r := by rw [if_neg (show ¬ (false = true) by decide)] at H; exact H
   clear H
   have H := H1
   clear H1
   have H' := Aside0.mk H
   clear H
   go_wp2
   go_meet
   case rel => exact ⟨_, H', ⟨by have := HK1.out; have := HJ2.out; have := HJ4.out; have := HJ9.out; have := HJ18.out; have := HJ28.out; first | omega | exact Nat.le_refl _⟩, ⟨by (with_reducible repeat (first | refine blk_drewN ?_ _ | refine blk_drew ?_ | refine blk_alloc ?_ _)); exact BK443.out⟩, ⟨by repeat (first | (with_reducible first | exact HB.out | apply below_alloc | apply pw_below_drewN | apply below_drew1 | refine below_set ?_ GE443.out) | exact HB.out)⟩⟩
  case rest =>
  as_aux_lemma =>
  clear HC59
  try clear c1
  try clear c2
  try clear p2
  try clear c3
  try clear c4
  try clear c6
  try clear c11
  try clear c25
  try clear c32
  try clear c32b0
  try clear c33
  try clear c33b0
  try clear c44
  try clear c60
  try clear p2
  obtain ⟨kq, HA, HJ58, BK443, HB⟩ := hcut
  cases kq with
  | zero => exact absurd HA.out (by simp [j6])
  | succ kj58 =>
  have H := HA.out
  clear HA
  simp only [j6] at H
  replace H := Option.bind_eq_some_iff.mp H
  obtain ⟨⟨t474, t475⟩, A610, H⟩ := H
  replace H : (if (pP0.f4) ≥ 0 then (if (pP0.f5) ≥ 0 then (if (pP0.f6) ≥ 1 then ((gangwayref20_Dirent.f kj58 (pP0.f4) (pP0.f5) (pP0.f3) (pP0.f6)).bind fun t478 => ((gangwaylaw20_is.f kj58 t474 t475 (decide ((pP0.f6) ≤ 3)) t478).bind fun t481 => (j7 kj58 l0 x3_1 (!t481) (pP0.f0.f0) (pP0.f0.f1) (pP0.f0.f2) (pP0.f0.f3) (pP0.f0.f4) (pP0.f0.f5) (pP0.f0.f6) (pP0.f1.f0) (pP0.f1.f1) (pP0.f1.f2) (pP0.f1.f3) (pP0.f1.f4) (pP0.f1.f5) (pP0.f2) (pP0.f3) (pP0.f4) (pP0.f5) (pP0.f6) (pP0.f7.f0) (pP0.f7.f1) (pP0.f7.f2) (pP0.f7.f3) (pP0.f8)))) else ((gangwayref20_Dirent.f kj58 (pP0.f4) (pP0.f5) (pP0.f3) (pP0.f6)).bind fun t482 => ((gangwaylaw20_is.f kj58 t474 t475 false t482).bind fun t485 => (j7 kj58 l0 x3_1 (!t485) (pP0.f0.f0) (pP0.f0.f1) (pP0.f0.f2) (pP0.f0.f3) (pP0.f0.f4) (pP0.f0.f5) (pP0.f0.f6) (pP0.f1.f0) (pP0.f1.f1) (pP0.f1.f2) (pP0.f1.f3) (pP0.f1.f4) (pP0.f1.f5) (pP0.f2) (pP0.f3) (pP0.f4) (pP0.f5) (pP0.f6) (pP0.f7.f0) (pP0.f7.f1) (pP0.f7.f2) (pP0.f7.f3) (pP0.f8))))) else ((gangwayref20_Dirent.f kj58 (pP0.f4) (pP0.f5) (pP0.f3) (pP0.f6)).bind fun t486 => ((gangwaylaw20_is.f kj58 t474 t475 false t486).bind fun t489 => (j7 kj58 l0 x3_1 (!t489) (pP0.f0.f0) (pP0.f0.f1) (pP0.f0.f2) (pP0.f0.f3) (pP0.f0.f4) (pP0.f0.f5) (pP0.f0.f6) (pP0.f1.f0) (pP0.f1.f1) (pP0.f1.f2) (pP0.f1.f3) (pP0.f1.f4) (pP0.f1.f5) (pP0.f2) (pP0.f3) (pP0.f4) (pP0.f5) (pP0.f6) (pP0.f7.f0) (pP0.f7.f1) (pP0.f7.f2) (pP0.f7.f3) (pP0.f8))))) else ((gangwayref20_Dirent.f kj58 (pP0.f4) (pP0.f5) (pP0.f3) (pP0.f6)).bind fun t490 => ((gangwaylaw20_is.f kj58 t474 t475 false t490).bind fun t493 => (j7 kj58 l0 x3_1 (!t493) (pP0.f0.f0) (pP0.f0.f1) (pP0.f0.f2) (pP0.f0.f3) (pP0.f0.f4) (pP0.f0.f5) (pP0.f0.f6) (pP0.f1.f0) (pP0.f1.f1) (pP0.f1.f2) (pP0.f1.f3) (pP0.f1.f4) (pP0.f1.f5) (pP0.f2) (pP0.f3) (pP0.f4) (pP0.f5) (pP0.f6) (pP0.f7.f0) (pP0.f7.f1) (pP0.f7.f2) (pP0.f7.f3) (pP0.f8))))) = some r := H
  have A61 := Aside0.mk A610
  clear A610
  have HC62 := Aside0.mk H
  clear H
  have hcz63_0 : wc.cell? ⟨gb443, 0, none⟩ = some (.int .i64 (pP0.f0.f0)) := bc BK443 0
  have hcz63_1 : wc.cell? ⟨gb443, 1, none⟩ = some (.int .i64 (pP0.f0.f1)) := bc BK443 1
  have hcz63_2 : wc.cell? ⟨gb443, 2, none⟩ = some (.int .i64 (pP0.f0.f2)) := bc BK443 2
  have hcz63_3 : wc.cell? ⟨gb443, 3, none⟩ = some (.int .i64 (pP0.f0.f3)) := bc BK443 3
  have hcz63_4 : wc.cell? ⟨gb443, 4, none⟩ = some (.int .i64 (pP0.f0.f4)) := bc BK443 4
  have hcz63_5 : wc.cell? ⟨gb443, 5, none⟩ = some (.int .i64 (pP0.f0.f5)) := bc BK443 5
  have hcz63_6 : wc.cell? ⟨gb443, 6, none⟩ = some (.string (pP0.f0.f6)) := bc BK443 6
  have hcz63_7 : wc.cell? ⟨gb443, 7, none⟩ = some (.int .i64 (pP0.f1.f0)) := bc BK443 7
  have hcz63_8 : wc.cell? ⟨gb443, 8, none⟩ = some (.slice A442_8 (pP0.f1.f1).length c442_8) := bc BK443 8
  have hcz63_9 : wc.cell? ⟨gb443, 9, none⟩ = some (.slice A442_9 (pP0.f1.f2).length c442_9) := bc BK443 9
  have hcz63_10 : wc.cell? ⟨gb443, 10, none⟩ = some (.string (pP0.f1.f3)) := bc BK443 10
  have hcz63_11 : wc.cell? ⟨gb443, 11, none⟩ = some (.int .i64 (pP0.f1.f4)) := bc BK443 11
  have hcz63_12 : wc.cell? ⟨gb443, 12, none⟩ = some (.int .i64 (pP0.f1.f5)) := bc BK443 12
  have hcz63_13 : wc.cell? ⟨gb443, 13, none⟩ = some (.int .i64 (pP0.f2)) := bc BK443 13
  have hcz63_14 : wc.cell? ⟨gb443, 14, none⟩ = some (.string (pP0.f3)) := bc BK443 14
  have hcz63_15 : wc.cell? ⟨gb443, 15, none⟩ = some (.int .i64 (pP0.f4)) := bc BK443 15
  have hcz63_16 : wc.cell? ⟨gb443, 16, none⟩ = some (.int .i64 (pP0.f5)) := bc BK443 16
  have hcz63_17 : wc.cell? ⟨gb443, 17, none⟩ = some (.int .i64 (pP0.f6)) := bc BK443 17
  have hcz63_18 : wc.cell? ⟨gb443, 18, none⟩ = some (.int .i64 (pP0.f7.f0)) := bc BK443 18
  have hcz63_19 : wc.cell? ⟨gb443, 19, none⟩ = some (.int .i64 (pP0.f7.f1)) := bc BK443 19
  have hcz63_20 : wc.cell? ⟨gb443, 20, none⟩ = some (.int .i64 (pP0.f7.f2)) := bc BK443 20
  have hcz63_21 : wc.cell? ⟨gb443, 21, none⟩ = some (.int .i64 (pP0.f7.f3)) := bc BK443 21
  go_upto_region 14 with (first | ((with_reducible refine gate_callee (f := 16) rfl ?_); refine goesL_ (some 85) rfl rfl Try.func16 (by kernel_rfl) rfl #[.int .i64 (pP0.f4), .int .i64 (pP0.f5), .string (pP0.f3), .int .i64 (pP0.f6)] rfl (by (try simp only [List.map_toArray, List.map_cons, List.map_nil]); first | done | rfl | (simp only [List.length_drop, List.length_take]; rfl)) ?_; (with_reducible refine (stat_Dirent.calls kj58 (pP0.f4) (pP0.f5) (pP0.f3) (pP0.f6) t474 t475 _ A61.out).mono ?_); rintro e w64 ⟨v476, rfl, ho0, hb⟩; refine ⟨_, rfl, ?_⟩; have n0_ := Aside0.mk (Kd.R_lower ho0 (below_size (by repeat (first | (with_reducible first | exact HB.out | apply below_alloc | apply pw_below_drewN | apply below_drew1 | refine below_set ?_ GE443.out) | exact HB.out)))); have n1_ := Aside0.mk (bbelow BK443 (by (with_reducible repeat (first | refine blk_drewN ?_ _ | refine blk_drew ?_ | refine blk_alloc ?_ _)); exact BK443.out) hb); have n2_ := Aside0.mk (below_step (by repeat (first | (with_reducible first | exact HB.out | apply below_alloc | apply pw_below_drewN | apply below_drew1 | refine below_set ?_ GE443.out) | exact HB.out)) hb); clear BK443; clear HB; have HO477 := n0_; have BK443 := n1_; have HB := n2_; clear n0_ n1_ n2_; (try clear hb); (try clear hb2); (try clear hk); (try clear hi); (try clear ho0)))
  (try simp only [Act.put, e1, e2, e3])
  go_cut [118] (fun v118 wc => ∃ (kq : Nat) (x118_61 : Bool), v118 = .bool x118_61 ∧ Aside0 (j7 kq l0 x3_1 x118_61 (pP0.f0.f0) (pP0.f0.f1) (pP0.f0.f2) (pP0.f0.f3) (pP0.f0.f4) (pP0.f0.f5) (pP0.f0.f6) (pP0.f1.f0) (pP0.f1.f1) (pP0.f1.f2) (pP0.f1.f3) (pP0.f1.f4) (pP0.f1.f5) (pP0.f2) (pP0.f3) (pP0.f4) (pP0.f5) (pP0.f6) (pP0.f7.f0) (pP0.f7.f1) (pP0.f7.f2) (pP0.f7.f3) (pP0.f8) = some r) ∧ Aside0 (kq ≤ kj58) ∧ Aside0 (wc.heap[gb443]? = some (.cells #[.int .i64 (pP0.f0.f0), .int .i64 (pP0.f0.f1), .int .i64 (pP0.f0.f2), .int .i64 (pP0.f0.f3), .int .i64 (pP0.f0.f4), .int .i64 (pP0.f0.f5), .string (pP0.f0.f6), .int .i64 (pP0.f1.f0), (.slice A442_8 (pP0.f1.f1).length c442_8), (.slice A442_9 (pP0.f1.f2).length c442_9), .string (pP0.f1.f3), .int .i64 (pP0.f1.f4), .int .i64 (pP0.f1.f5), .int .i64 (pP0.f2), .string (pP0.f3), .int .i64 (pP0.f4), .int .i64 (pP0.f5), .int .i64 (pP0.f6), .int .i64 (pP0.f7.f0), .int .i64 (pP0.f7.f1), .int .i64 (pP0.f7.f2), .int .i64 (pP0.f7.f3), (.slice A442_22 (pP0.f8).length c442_22)] 35 (0, 0))) ∧ Aside0 (Below w.heap.size w wc))
  case first =>
   have H := HC62.out
   clear HC62
   by_cases c65 : (pP0.f4) ≥ 0
   rotate_left
   ·as_aux_lemma =>
    rw [if_neg c65] at H
    have c65b0 : decide (0 ≤ (pP0.f4)) = false := decide_eq_false c65
    clear c65
    (first | rw [c65b0] | (simp only [i64_w, i32_w]; rw [c65b0]) | skip)
    replace H := Option.bind_eq_some_iff.mp H
    obtain ⟨t490, A860, H⟩ := H
    replace H : ((gangwaylaw20_is.f kj58 t474 t475 false t490).bind fun t493 => (j7 kj58 l0 x3_1 (!t493) (pP0.f0.f0) (pP0.f0.f1) (pP0.f0.f2) (pP0.f0.f3) (pP0.f0.f4) (pP0.f0.f5) (pP0.f0.f6) (pP0.f1.f0) (pP0.f1.f1) (pP0.f1.f2) (pP0.f1.f3) (pP0.f1.f4) (pP0.f1.f5) (pP0.f2) (pP0.f3) (pP0.f4) (pP0.f5) (pP0.f6) (pP0.f7.f0) (pP0.f7.f1) (pP0.f7.f2) (pP0.f7.f3) (pP0.f8))) = some r := H
    have A86 := Aside0.mk A860
    clear A860
    replace H := Option.bind_eq_some_iff.mp H
    obtain ⟨t493, A870, H⟩ := H
    replace H : (j7 kj58 l0 x3_1 (!t493) (pP0.f0.f0) (pP0.f0.f1) (pP0.f0.f2) (pP0.f0.f3) (pP0.f0.f4) (pP0.f0.f5) (pP0.f0.f6) (pP0.f1.f0) (pP0.f1.f1) (pP0.f1.f2) (pP0.f1.f3) (pP0.f1.f4) (pP0.f1.f5) (pP0.f2) (pP0.f3) (pP0.f4) (pP0.f5) (pP0.f6) (pP0.f7.f0) (pP0.f7.f1) (pP0.f7.f2) (pP0.f7.f3) (pP0.f8)) = some r := H
    have A87 := Aside0.mk A870
    clear A870
    have H' := Aside0.mk H
    clear H
    try go_wp2
    have n0_ := Aside0.mk (Kd.R_drew HO477.out)
    have n1_ := Aside0.mk (blk_drew BK443.out)
    have n2_ := Aside0.mk (below_drew1 HB.out)
    clear HO477
    clear BK443
    clear HB
    have HO477 := n0_
    have BK443 := n1_
    have HB := n2_
    clear n0_ n1_ n2_
    refine start_ (n := 31) (S := fun w' => w'.cell? ⟨gb443, 14, none⟩ = some (.string (pP0.f3)) ∧ w'.cell? ⟨gb443, 15, none⟩ = some (.int .i64 (pP0.f4)) ∧ w'.cell? ⟨gb443, 16, none⟩ = some (.int .i64 (pP0.f5)) ∧ w'.cell? ⟨gb443, 17, none⟩ = some (.int .i64 (pP0.f6))) (ds := []) bb87_ (by kernel_rfl) rfl rfl ⟨bc BK443 14, bc BK443 15, bc BK443 16, bc BK443 17⟩ (fun hHeld => ?_); refine with_tabW gangwaylaw20_StatExact.tab14 gangwaylaw20_StatExact.bits14 (fun HT_ HW_ => ?_)
    generalize w64.drew = w88 at HO477 BK443 HB hHeld ⊢
    refine pure_ (i := 0) (N := some 88) (v := ?_) (a' := ?_) bb86_ rfl rfl (any_of HT_.out (by kernel_rfl)) (fun _ _ _ h => h) (Or.inl ⟨by rfl, ?_⟩) ?_ ?_
    rotate_left; · intro w'; go_simp; with_reducible rfl
    rotate_left; · simp only [Act.put, e1, e2, e3, i64_w, i32_w]; rfl
    refine pure_ (i := 1) (N := some 89) (v := ?_) (a' := ?_) bb85_ rfl rfl (any_of HT_.out (by kernel_rfl)) (fun _ _ _ h => h) (Or.inl ⟨by rfl, ?_⟩) ?_ ?_
    rotate_left; · intro w'; go_simp; with_reducible rfl
    rotate_left; · simp only [Act.put, e1, e2, e3, i64_w, i32_w]; rfl
    refine pure_ (i := 2) (N := some 90) (v := ?_) (a' := ?_) bb84_ rfl rfl (any_of HT_.out (by kernel_rfl)) (fun _ _ _ h => h) (Or.inl ⟨by rfl, ?_⟩) ?_ ?_
    rotate_left; · intro w'; go_simp; with_reducible rfl
    rotate_left; · simp only [Act.put, e1, e2, e3, i64_w, i32_w]; rfl
    refine pure_ (i := 20) (N := some 108) (v := ?_) (a' := ?_) bb83_ rfl rfl (any_of HT_.out (by kernel_rfl)) (fun _ _ _ h => h) (Or.inl ⟨by rfl, ?_⟩) ?_ ?_
    rotate_left; · intro w'; go_simp; with_reducible rfl
    rotate_left; · simp only [Act.put, e1, e2, e3, i64_w, i32_w]; rfl
    refine pure_ (i := 22) (N := some 110) (v := ?_) (a' := ?_) bb82_ rfl rfl (any_of HT_.out (by kernel_rfl)) (fun _ _ _ h => h) (Or.inl ⟨by rfl, ?_⟩) ?_ ?_
    rotate_left; · intro w'; go_simp; with_reducible rfl
    rotate_left; · simp only [Act.put, e1, e2, e3, i64_w, i32_w]; rfl
    refine pure_ (i := 24) (N := some 112) (v := ?_) (a' := ?_) bb81_ rfl rfl (any_of HT_.out (by kernel_rfl)) (fun _ _ _ h => h) (Or.inl ⟨by rfl, ?_⟩) ?_ ?_
    rotate_left; · intro w'; go_simp; with_reducible rfl
    rotate_left; · simp only [Act.put, e1, e2, e3, i64_w, i32_w]; rfl
    refine pure_ (i := 26) (N := some 114) (v := ?_) (a' := ?_) bb80_ rfl rfl (any_of HT_.out (by kernel_rfl)) (fun _ _ _ h => h) (Or.inl ⟨by rfl, ?_⟩) ?_ ?_
    rotate_left; · intro w'; go_simp; with_reducible rfl
    rotate_left; · simp only [Act.put, e1, e2, e3, i64_w, i32_w]; rfl
    refine take_ (i := 3) (N := some 91) (v := ?_) (a' := ?_) bb79_ rfl rfl (take_ofW HT_.out HW_.out (by kernel_rfl)) (fun _ _ _ h => h) (Or.inl ⟨by rfl, ?_⟩) hHeld ?_ ?_
    rotate_left; · rintro w' ⟨s0, s1, s2, s3⟩; go_simp; with_reducible rfl
    rotate_left; · simp only [Act.put, e1, e2, e3, i64_w, i32_w]; rfl
    refine pure_ (i := 4) (N := some 92) (v := ?_) (a' := ?_) bb78_ rfl rfl (any_of HT_.out (by kernel_rfl)) (fun _ _ _ h => h) (Or.inl ⟨by rfl, ?_⟩) ?_ ?_
    rotate_left; · intro w'; go_simp; with_reducible rfl
    rotate_left; · simp only [Act.put, e1, e2, e3, i64_w, i32_w]; rfl
    refine pure_ (i := 5) (N := some 93) (v := ?_) (a' := ?_) bb77_ rfl rfl (any_of HT_.out (by kernel_rfl)) (fun _ _ _ h => h) (Or.inl ⟨by rfl, ?_⟩) ?_ ?_
    rotate_left; · intro w'; go_simp; with_reducible rfl
    rotate_left; · simp only [Act.put, e1, e2, e3, i64_w, i32_w]; rfl
    refine pure_ (i := 6) (N := some 94) (v := undef) (a' := ?_) bb76_ rfl rfl (any_of HT_.out (by kernel_rfl)) (fun _ _ _ h => h) (Or.inr ⟨by rfl, rfl⟩) ?_ ?_
    rotate_left; · simp only [Act.put, e1, e2, e3, i64_w, i32_w]; rfl
    refine pure_ (i := 7) (N := some 95) (v := undef) (a' := ?_) bb75_ rfl rfl (any_of HT_.out (by kernel_rfl)) (fun _ _ _ h => h) (Or.inr ⟨by rfl, rfl⟩) ?_ ?_
    rotate_left; · simp only [Act.put, e1, e2, e3, i64_w, i32_w]; rfl
    refine pure_ (i := 8) (N := some 96) (v := undef) (a' := ?_) bb74_ rfl rfl (any_of HT_.out (by kernel_rfl)) (fun _ _ _ h => h) (Or.inr ⟨by rfl, rfl⟩) ?_ ?_
    rotate_left; · simp only [Act.put, e1, e2, e3, i64_w, i32_w]; rfl
    refine pure_ (i := 9) (N := some 97) (v := ?_) (a' := ?_) bb73_ rfl rfl (any_of HT_.out (by kernel_rfl)) (fun _ _ _ h => h) (Or.inl ⟨by rfl, ?_⟩) ?_ ?_
    rotate_left; · intro w'; go_simp; with_reducible rfl
    rotate_left; · simp only [Act.put, e1, e2, e3, i64_w, i32_w]; rfl
    refine pure_ (i := 10) (N := some 98) (v := ?_) (a' := ?_) bb71_ rfl rfl (any_of HT_.out (by kernel_rfl)) (fun _ _ _ h => h) (Or.inl ⟨by rfl, ?_⟩) ?_ ?_
    rotate_left; · intro w'; go_simp; with_reducible rfl
    rotate_left; · simp only [Act.put, e1, e2, e3, i64_w, i32_w]; rfl
    refine pure_ (i := 11) (N := some 99) (v := undef) (a' := ?_) bb69_ rfl rfl (any_of HT_.out (by kernel_rfl)) (fun _ _ _ h => h) (Or.inr ⟨by rfl, rfl⟩) ?_ ?_
    rotate_left; · simp only [Act.put, e1, e2, e3, i64_w, i32_w]; rfl
    refine pure_ (i := 12) (N := some 100) (v := undef) (a' := ?_) bb67_ rfl rfl (any_of HT_.out (by kernel_rfl)) (fun _ _ _ h => h) (Or.inr ⟨by rfl, rfl⟩) ?_ ?_
    rotate_left; · simp only [Act.put, e1, e2, e3, i64_w, i32_w]; rfl
    refine pure_ (i := 13) (N := some 101) (v := undef) (a' := ?_) bb65_ rfl rfl (any_of HT_.out (by kernel_rfl)) (fun _ _ _ h => h) (Or.inr ⟨by rfl, rfl⟩) ?_ ?_
    rotate_left; · simp only [Act.put, e1, e2, e3, i64_w, i32_w]; rfl
    refine pure_ (i := 14) (N := some 102) (v := ?_) (a' := ?_) bb63_ rfl rfl (any_of HT_.out (by kernel_rfl)) (fun _ _ _ h => h) (Or.inl ⟨by rfl, ?_⟩) ?_ ?_
    rotate_left; · intro w'; go_simp; with_reducible rfl
    rotate_left; · simp only [Act.put, e1, e2, e3, i64_w, i32_w]; rfl
    refine pure_ (i := 15) (N := some 103) (v := ?_) (a' := ?_) bb61_ rfl rfl (any_of HT_.out (by kernel_rfl)) (fun _ _ _ h => h) (Or.inl ⟨by rfl, ?_⟩) ?_ ?_
    rotate_left; · intro w'; go_simp; with_reducible rfl
    rotate_left; · simp only [Act.put, e1, e2, e3, i64_w, i32_w]; rfl
    refine pure_ (i := 16) (N := some 104) (v := undef) (a' := ?_) bb59_ rfl rfl (any_of HT_.out (by kernel_rfl)) (fun _ _ _ h => h) (Or.inr ⟨by rfl, rfl⟩) ?_ ?_
    rotate_left; · simp only [Act.put, e1, e2, e3, i64_w, i32_w]; rfl
    refine pure_ (i := 17) (N := some 105) (v := undef) (a' := ?_) bb57_ rfl rfl (any_of HT_.out (by kernel_rfl)) (fun _ _ _ h => h) (Or.inr ⟨by rfl, rfl⟩) ?_ ?_
    rotate_left; · simp only [Act.put, e1, e2, e3, i64_w, i32_w]; rfl
    refine pure_ (i := 18) (N := some 106) (v := undef) (a' := ?_) bb55_ rfl rfl (any_of HT_.out (by kernel_rfl)) (fun _ _ _ h => h) (Or.inr ⟨by rfl, rfl⟩) ?_ ?_
    rotate_left; · simp only [Act.put, e1, e2, e3, i64_w, i32_w]; rfl
    refine pure_ (i := 19) (N := some 107) (v := ?_) (a' := ?_) bb53_ rfl rfl (any_of HT_.out (by kernel_rfl)) (fun _ _ _ h => h) (Or.inl ⟨by rfl, ?_⟩) ?_ ?_
    rotate_left; · intro w'; go_simp; with_reducible rfl
    rotate_left; · simp only [Act.put, e1, e2, e3, i64_w, i32_w]; rfl
    refine take_ (i := 21) (N := some 109) (v := ?_) (a' := ?_) bb51_ rfl rfl (take_ofW HT_.out HW_.out (by kernel_rfl)) (fun _ _ _ h => h) (Or.inl ⟨by rfl, ?_⟩) hHeld ?_ ?_
    rotate_left; · rintro w' ⟨s0, s1, s2, s3⟩; go_simp; with_reducible rfl
    rotate_left; · simp only [Act.put, e1, e2, e3, i64_w, i32_w]; rfl
    refine take_ (i := 23) (N := some 111) (v := ?_) (a' := ?_) bb49_ rfl rfl (take_ofW HT_.out HW_.out (by kernel_rfl)) (fun _ _ _ h => h) (Or.inl ⟨by rfl, ?_⟩) hHeld ?_ ?_
    rotate_left; · rintro w' ⟨s0, s1, s2, s3⟩; go_simp; with_reducible rfl
    rotate_left; · simp only [Act.put, e1, e2, e3, i64_w, i32_w]; rfl
    refine take_ (i := 25) (N := some 113) (v := ?_) (a' := ?_) bb47_ rfl rfl (take_ofW HT_.out HW_.out (by kernel_rfl)) (fun _ _ _ h => h) (Or.inl ⟨by rfl, ?_⟩) hHeld ?_ ?_
    rotate_left; · rintro w' ⟨s0, s1, s2, s3⟩; go_simp; with_reducible rfl
    rotate_left; · simp only [Act.put, e1, e2, e3, i64_w, i32_w]; rfl
    refine take_ (i := 27) (N := some 115) (v := ?_) (a' := ?_) bb45_ rfl rfl (take_ofW HT_.out HW_.out (by kernel_rfl)) (fun _ _ _ h => h) (Or.inl ⟨by rfl, ?_⟩) hHeld ?_ ?_
    rotate_left; · rintro w' ⟨s0, s1, s2, s3⟩; go_simp; with_reducible rfl
    rotate_left; · simp only [Act.put, e1, e2, e3, i64_w, i32_w]; rfl
    refine one_ (i := 28) (N := some 116) bb43_ rfl rfl (one_of HT_.out (by kernel_rfl)) (by decide) (fun K hK => ?_)
    refine goes_ Try.func17 (by kernel_rfl) rfl #[.int .i64 (pP0.f4), .int .i64 (pP0.f5), .string (pP0.f3), .int .i64 (pP0.f6)] (by rfl) rfl rfl (by (try simp only [List.map_toArray, List.map_cons, List.map_nil]); first | done | rfl | (simp only [List.length_drop, List.length_take]; rfl)) ?_
    with_reducible refine (gangwayref20_Dirent.calls kj58 (pP0.f4) (pP0.f5) (pP0.f3) (pP0.f6) t490 _ A86.out).mono ?_
    rintro e w89 ⟨v491, rfl, ho0, hb⟩
    refine ⟨_, rfl, ?_⟩
    have n0_ := Aside0.mk (Kd.R_elder' (by (with_reducible repeat (first | apply Kd.R_alloc | apply Kd.R_drewN | apply Kd.R_drew)); exact HO477.out) (Kd.R_base ho0) hb)
    have n1_ := Aside0.mk (Kd.R_lower (Kd.R_new' ho0 (Kd.R_lt (by (with_reducible repeat (first | apply Kd.R_alloc | apply Kd.R_drewN | apply Kd.R_drew)); exact HO477.out))) (below_size (by repeat (first | (with_reducible first | exact HB.out | apply below_alloc | apply pw_below_drewN | apply below_drew1 | refine below_set ?_ GE443.out) | exact HB.out))))
    have n2_ := Aside0.mk (bbelow BK443 (by (with_reducible repeat (first | refine blk_drewN ?_ _ | refine blk_drew ?_ | refine blk_alloc ?_ _)); exact BK443.out) hb)
    have n3_ := Aside0.mk (below_step (by repeat (first | (with_reducible first | exact HB.out | apply below_alloc | apply pw_below_drewN | apply below_drew1 | refine below_set ?_ GE443.out) | exact HB.out)) hb)
    clear HO477
    clear BK443
    clear HB
    have HO477 := n0_
    have HO492 := n1_
    have BK443 := n2_
    have HB := n3_
    clear n0_ n1_ n2_ n3_
    (try clear hb)
    (try clear hb2)
    (try clear hk)
    (try clear hi)
    (try clear ho0)
    obtain ⟨Ao90, co90, eo90⟩ := Kd.R_slice HO477.out
    (first | subst eo90 | (injection eo90 with f1_ f2_ f3_; have f4_ := f1_.symm; have f5_ := f3_.symm; clear f1_ f2_ f3_; subst f4_; subst f5_))
    obtain ⟨Ao91, co91, eo91⟩ := Kd.R_slice HO492.out
    (first | subst eo91 | (injection eo91 with f1_ f2_ f3_; have f4_ := f1_.symm; have f5_ := f3_.symm; clear f1_ f2_ f3_; subst f4_; subst f5_))
    refine hK.out _ _ ⟨bc BK443 14, bc BK443 15, bc BK443 16, bc BK443 17⟩ (fun hHeld => ?_)
    clear hK K
    refine norm_ (a' := ?_) ?_ ?_
    rotate_left
    ·show Act.put _ (some 116) _ = _
     simp only [Act.put, e1, e2, e3, i64_w, i32_w]
     rfl
    refine one_ (i := 29) (N := some 117) bb41_ rfl rfl (one_of HT_.out (by kernel_rfl)) (by decide) (fun K hK => ?_)
    refine goes_ Try.func11 (by kernel_rfl) rfl #[.slice Ao90 t474.length co90, .int .i64 t475, .bool false, .slice Ao91 t490.length co91] (by rfl) rfl rfl (by (try simp only [List.map_toArray, List.map_cons, List.map_nil]); first | done | rfl | (simp only [List.length_drop, List.length_take]; rfl)) ?_
    with_reducible refine (gangwaylaw20_is.calls kj58 _ _ t474 t475 false _ _ t490 t493 _ ?side1 ?side2 ?side3 ?side4 A87.out).mono ?_
    (case side1 => repeat (first | exact (Kd.R_reads' HO477.out).2.2 | (with_reducible refine Kd.C_alloc ?_ _) | (with_reducible refine Kd.C_drewN ?_ _) | (with_reducible refine Kd.C_drew ?_)))
    (case side2 => exact (Kd.R_reads' HO477.out).2.1)
    (case side3 => repeat (first | exact (Kd.R_reads' HO492.out).2.2 | (with_reducible refine Kd.C_alloc ?_ _) | (with_reducible refine Kd.C_drewN ?_ _) | (with_reducible refine Kd.C_drew ?_)))
    (case side4 => exact (Kd.R_reads' HO492.out).2.1)
    rintro e w' ⟨rfl, ⟨nd, rfl⟩⟩
    refine ⟨_, rfl, ?_⟩
    refine hK.out _ _ ⟨bc BK443 14, bc BK443 15, bc BK443 16, bc BK443 17⟩ (fun hHeld => ?_)
    clear hK K
    refine norm_ (a' := ?_) ?_ ?_
    rotate_left
    ·show Act.put _ (some 117) _ = _
     simp only [Act.put, e1, e2, e3, i64_w, i32_w]
     rfl
    refine pure_ (i := 30) (N := some 118) (v := ?_) (a' := ?_) bb39_ rfl rfl (any_of HT_.out (by kernel_rfl)) (fun _ _ _ h => h) (Or.inl ⟨by rfl, ?_⟩) ?_ ?_
    rotate_left; · intro w'; go_simp; with_reducible rfl
    rotate_left; · simp only [Act.put, e1, e2, e3, i64_w, i32_w]; rfl
    refine done_ (done_of HT_.out (by kernel_rfl)) ?_
    try go_wp2
    go_meet
    case rel => exact ⟨_, (!t493), (by first | rfl | (simp; done) | (simp [*]; done)), H', ⟨by have := HK1.out; have := HJ2.out; have := HJ4.out; have := HJ9.out; have := HJ18.out; have := HJ28.out; have := HJ58.out; first | omega | exact Nat.le_refl _⟩, ⟨by (with_reducible repeat (first | refine blk_drewN ?_ _ | refine blk_drew ?_ | refine blk_alloc ?_ _)); exact BK443.out⟩, ⟨by repeat (first | (with_reducible first | exact HB.out | apply below_alloc | apply pw_below_drewN | apply below_drew1 | refine below_set ?_ GE443.out) | exact HB.out)⟩⟩
   as_aux_lemma =>
   rw [if_pos c65] at H
   have c65b0 : decide (0 ≤ (pP0.f4)) = true := decide_eq_true c65
   clear c65
   (first | rw [c65b0] | (simp only [i64_w, i32_w]; rw [c65b0]) | skip)
   by_cases c66 : (pP0.f5) ≥ 0
   rotate_left
   ·as_aux_lemma =>
    rw [if_neg c66] at H
    have c66b0 : decide (0 ≤ (pP0.f5)) = false := decide_eq_false c66
    clear c66
    replace H := Option.bind_eq_some_iff.mp H
    obtain ⟨t486, A800, H⟩ := H
    replace H : ((gangwaylaw20_is.f kj58 t474 t475 false t486).bind fun t489 => (j7 kj58 l0 x3_1 (!t489) (pP0.f0.f0) (pP0.f0.f1) (pP0.f0.f2) (pP0.f0.f3) (pP0.f0.f4) (pP0.f0.f5) (pP0.f0.f6) (pP0.f1.f0) (pP0.f1.f1) (pP0.f1.f2) (pP0.f1.f3) (pP0.f1.f4) (pP0.f1.f5) (pP0.f2) (pP0.f3) (pP0.f4) (pP0.f5) (pP0.f6) (pP0.f7.f0) (pP0.f7.f1) (pP0.f7.f2) (pP0.f7.f3) (pP0.f8))) = some r := H
    have A80 := Aside0.mk A800
    clear A800
    replace H := Option.bind_eq_some_iff.mp H
    obtain ⟨t489, A810, H⟩ := H
    replace H : (j7 kj58 l0 x3_1 (!t489) (pP0.f0.f0) (pP0.f0.f1) (pP0.f0.f2) (pP0.f0.f3) (pP0.f0.f4) (pP0.f0.f5) (pP0.f0.f6) (pP0.f1.f0) (pP0.f1.f1) (pP0.f1.f2) (pP0.f1.f3) (pP0.f1.f4) (pP0.f1.f5) (pP0.f2) (pP0.f3) (pP0.f4) (pP0.f5) (pP0.f6) (pP0.f7.f0) (pP0.f7.f1) (pP0.f7.f2) (pP0.f7.f3) (pP0.f8)) = some r := H
    have A81 := Aside0.mk A810
    clear A810
    have H' := Aside0.mk H
    clear H
    try go_wp2
    have n0_ := Aside0.mk (Kd.R_drew HO477.out)
    have n1_ := Aside0.mk (blk_drew BK443.out)
    have n2_ := Aside0.mk (below_drew1 HB.out)
    clear HO477
    clear BK443
    clear HB
    have HO477 := n0_
    have BK443 := n1_
    have HB := n2_
    clear n0_ n1_ n2_
    refine start_ (n := 31) (S := fun w' => w'.cell? ⟨gb443, 14, none⟩ = some (.string (pP0.f3)) ∧ w'.cell? ⟨gb443, 15, none⟩ = some (.int .i64 (pP0.f4)) ∧ w'.cell? ⟨gb443, 16, none⟩ = some (.int .i64 (pP0.f5)) ∧ w'.cell? ⟨gb443, 17, none⟩ = some (.int .i64 (pP0.f6))) (ds := []) bb87_ (by kernel_rfl) rfl rfl ⟨bc BK443 14, bc BK443 15, bc BK443 16, bc BK443 17⟩ (fun hHeld => ?_); refine with_tabW gangwaylaw20_StatExact.tab14 gangwaylaw20_StatExact.bits14 (fun HT_ HW_ => ?_)
    generalize w64.drew = w82 at HO477 BK443 HB hHeld ⊢
    refine pure_ (i := 0) (N := some 88) (v := ?_) (a' := ?_) bb86_ rfl rfl (any_of HT_.out (by kernel_rfl)) (fun _ _ _ h => h) (Or.inl ⟨by rfl, ?_⟩) ?_ ?_
    rotate_left; · intro w'; go_simp; with_reducible rfl
    rotate_left; · simp only [Act.put, e1, e2, e3, i64_w, i32_w]; rfl
    refine pure_ (i := 1) (N := some 89) (v := ?_) (a' := ?_) bb85_ rfl rfl (any_of HT_.out (by kernel_rfl)) (fun _ _ _ h => h) (Or.inl ⟨by rfl, ?_⟩) ?_ ?_
    rotate_left; · intro w'; go_simp; with_reducible rfl
    rotate_left; · simp only [Act.put, e1, e2, e3, i64_w, i32_w]; rfl
    refine pure_ (i := 2) (N := some 90) (v := ?_) (a' := ?_) bb84_ rfl rfl (any_of HT_.out (by kernel_rfl)) (fun _ _ _ h => h) (Or.inl ⟨by rfl, ?_⟩) ?_ ?_
    rotate_left; · intro w'; go_simp; with_reducible rfl
    rotate_left; · simp only [Act.put, e1, e2, e3, i64_w, i32_w]; rfl
    refine pure_ (i := 20) (N := some 108) (v := ?_) (a' := ?_) bb83_ rfl rfl (any_of HT_.out (by kernel_rfl)) (fun _ _ _ h => h) (Or.inl ⟨by rfl, ?_⟩) ?_ ?_
    rotate_left; · intro w'; go_simp; with_reducible rfl
    rotate_left; · simp only [Act.put, e1, e2, e3, i64_w, i32_w]; rfl
    refine pure_ (i := 22) (N := some 110) (v := ?_) (a' := ?_) bb82_ rfl rfl (any_of HT_.out (by kernel_rfl)) (fun _ _ _ h => h) (Or.inl ⟨by rfl, ?_⟩) ?_ ?_
    rotate_left; · intro w'; go_simp; with_reducible rfl
    rotate_left; · simp only [Act.put, e1, e2, e3, i64_w, i32_w]; rfl
    refine pure_ (i := 24) (N := some 112) (v := ?_) (a' := ?_) bb81_ rfl rfl (any_of HT_.out (by kernel_rfl)) (fun _ _ _ h => h) (Or.inl ⟨by rfl, ?_⟩) ?_ ?_
    rotate_left; · intro w'; go_simp; with_reducible rfl
    rotate_left; · simp only [Act.put, e1, e2, e3, i64_w, i32_w]; rfl
    refine pure_ (i := 26) (N := some 114) (v := ?_) (a' := ?_) bb80_ rfl rfl (any_of HT_.out (by kernel_rfl)) (fun _ _ _ h => h) (Or.inl ⟨by rfl, ?_⟩) ?_ ?_
    rotate_left; · intro w'; go_simp; with_reducible rfl
    rotate_left; · simp only [Act.put, e1, e2, e3, i64_w, i32_w]; rfl
    refine take_ (i := 3) (N := some 91) (v := ?_) (a' := ?_) bb79_ rfl rfl (take_ofW HT_.out HW_.out (by kernel_rfl)) (fun _ _ _ h => h) (Or.inl ⟨by rfl, ?_⟩) hHeld ?_ ?_
    rotate_left; · rintro w' ⟨s0, s1, s2, s3⟩; go_simp; with_reducible rfl
    rotate_left; · simp only [Act.put, e1, e2, e3, i64_w, i32_w]; rfl
    refine pure_ (i := 4) (N := some 92) (v := ?_) (a' := ?_) bb78_ rfl rfl (any_of HT_.out (by kernel_rfl)) (fun _ _ _ h => h) (Or.inl ⟨by rfl, ?_⟩) ?_ ?_
    rotate_left; · intro w'; go_simp; with_reducible rfl
    rotate_left; · simp only [Act.put, e1, e2, e3, i64_w, i32_w]; rfl
    refine pure_ (i := 5) (N := some 93) (v := ?_) (a' := ?_) bb77_ rfl rfl (any_of HT_.out (by kernel_rfl)) (fun _ _ _ h => h) (Or.inl ⟨by rfl, ?_⟩) ?_ ?_
    rotate_left; · intro w'; go_simp; with_reducible rfl
    rotate_left; · simp only [Act.put, e1, e2, e3, i64_w, i32_w]; rfl
    refine pure_ (i := 6) (N := some 94) (v := ?_) (a' := ?_) bb76_ rfl rfl (any_of HT_.out (by kernel_rfl)) (fun _ _ _ h => h) (Or.inl ⟨by rfl, ?_⟩) ?_ ?_
    rotate_left; · intro w'; go_simp; with_reducible rfl
    rotate_left; · simp only [Act.put, e1, e2, e3, i64_w, i32_w]; rfl
    refine take_ (i := 7) (N := some 95) (v := ?_) (a' := ?_) bb75_ rfl rfl (take_ofW HT_.out HW_.out (by kernel_rfl)) (fun _ _ _ h => h) (Or.inl ⟨by rfl, ?_⟩) hHeld ?_ ?_
    rotate_left; · rintro w' ⟨s0, s1, s2, s3⟩; go_simp; with_reducible rfl
    rotate_left; · simp only [Act.put, e1, e2, e3, i64_w, i32_w]; rfl
    refine pure_ (i := 8) (N := some 96) (v := ?_) (a' := ?_) bb74_ rfl rfl (any_of HT_.out (by kernel_rfl)) (fun _ _ _ h => h) (Or.inl ⟨by rfl, ?_⟩) ?_ ?_
    rotate_left; · intro w'; go_simp; with_reducible rfl
    rotate_left; · simp only [Act.put, e1, e2, e3, i64_w, i32_w]; rfl
    refine pure_ (i := 9) (N := some 97) (v := ?_) (a' := ?_) bb73_ rfl rfl (any_of HT_.out (by kernel_rfl)) (fun _ _ _ h => h) (Or.inl ⟨by rfl, ?_⟩) ?_ ?_
    rotate_left; · intro w'; go_simp; with_reducible rfl
    rotate_left; · simp only [Act.put, e1, e2, e3, i64_w, i32_w]; rfl
    refine pure_ (i := 10) (N := some 98) (v := ?_) (a' := ?_) bb71_ rfl rfl (any_of HT_.out (by kernel_rfl)) (fun _ _ _ h => h) (Or.inl ⟨by rfl, ?_⟩) ?_ ?_
    rotate_left; · intro w'; go_simp; with_reducible rfl
    rotate_left; · simp only [Act.put, e1, e2, e3, i64_w, i32_w]; rfl
    refine pure_ (i := 11) (N := some 99) (v := undef) (a' := ?_) bb69_ rfl rfl (any_of HT_.out (by kernel_rfl)) (fun _ _ _ h => h) (Or.inr ⟨by rfl, rfl⟩) ?_ ?_
    rotate_left; · simp only [Act.put, e1, e2, e3, i64_w, i32_w]; rfl
    refine pure_ (i := 12) (N := some 100) (v := undef) (a' := ?_) bb67_ rfl rfl (any_of HT_.out (by kernel_rfl)) (fun _ _ _ h => h) (Or.inr ⟨by rfl, rfl⟩) ?_ ?_
    rotate_left; · simp only [Act.put, e1, e2, e3, i64_w, i32_w]; rfl
    refine pure_ (i := 13) (N := some 101) (v := undef) (a' := ?_) bb65_ rfl rfl (any_of HT_.out (by kernel_rfl)) (fun _ _ _ h => h) (Or.inr ⟨by rfl, rfl⟩) ?_ ?_
    rotate_left; · simp only [Act.put, e1, e2, e3, i64_w, i32_w]; rfl
    refine pure_ (i := 14) (N := some 102) (v := ?_) (a' := ?_) bb63_ rfl rfl (any_of HT_.out (by kernel_rfl)) (fun _ _ _ h => h) (Or.inl ⟨by rfl, ?_⟩) ?_ ?_
    rotate_left; · intro w'; go_simp; with_reducible rfl
    rotate_left; · simp only [Act.put, e1, e2, e3, i64_w, i32_w]; rfl
    refine pure_ (i := 15) (N := some 103) (v := ?_) (a' := ?_) bb61_ rfl rfl (any_of HT_.out (by kernel_rfl)) (fun _ _ _ h => h) (Or.inl ⟨by rfl, ?_⟩) ?_ ?_
    rotate_left; · intro w'; go_simp; with_reducible rfl
    rotate_left; · simp only [Act.put, e1, e2, e3, i64_w, i32_w]; rfl
    refine pure_ (i := 16) (N := some 104) (v := undef) (a' := ?_) bb59_ rfl rfl (any_of HT_.out (by kernel_rfl)) (fun _ _ _ h => h) (Or.inr ⟨by rfl, rfl⟩) ?_ ?_
    rotate_left; · simp only [Act.put, e1, e2, e3, i64_w, i32_w]; rfl
    refine pure_ (i := 17) (N := some 105) (v := undef) (a' := ?_) bb57_ rfl rfl (any_of HT_.out (by kernel_rfl)) (fun _ _ _ h => h) (Or.inr ⟨by rfl, rfl⟩) ?_ ?_
    rotate_left; · simp only [Act.put, e1, e2, e3, i64_w, i32_w]; rfl
    refine pure_ (i := 18) (N := some 106) (v := undef) (a' := ?_) bb55_ rfl rfl (any_of HT_.out (by kernel_rfl)) (fun _ _ _ h => h) (Or.inr ⟨by rfl, rfl⟩) ?_ ?_
    rotate_left; · simp only [Act.put, e1, e2, e3, i64_w, i32_w]; rfl
    refine pure_ (i := 19) (N := some 107) (v := ?_) (a' := ?_) bb53_ rfl rfl (any_of HT_.out (by kernel_rfl)) (fun _ _ _ h => h) (Or.inl ⟨by rfl, ?_⟩) ?_ ?_
    rotate_left; · intro w'; go_simp; with_reducible rfl
    rotate_left; · simp only [Act.put, e1, e2, e3, i64_w, i32_w]; rfl
    refine take_ (i := 21) (N := some 109) (v := ?_) (a' := ?_) bb51_ rfl rfl (take_ofW HT_.out HW_.out (by kernel_rfl)) (fun _ _ _ h => h) (Or.inl ⟨by rfl, ?_⟩) hHeld ?_ ?_
    rotate_left; · rintro w' ⟨s0, s1, s2, s3⟩; go_simp; with_reducible rfl
    rotate_left; · simp only [Act.put, e1, e2, e3, i64_w, i32_w]; rfl
    refine take_ (i := 23) (N := some 111) (v := ?_) (a' := ?_) bb49_ rfl rfl (take_ofW HT_.out HW_.out (by kernel_rfl)) (fun _ _ _ h => h) (Or.inl ⟨by rfl, ?_⟩) hHeld ?_ ?_
    rotate_left; · rintro w' ⟨s0, s1, s2, s3⟩; go_simp; with_reducible rfl
    rotate_left; · simp only [Act.put, e1, e2, e3, i64_w, i32_w]; rfl
    refine take_ (i := 25) (N := some 113) (v := ?_) (a' := ?_) bb47_ rfl rfl (take_ofW HT_.out HW_.out (by kernel_rfl)) (fun _ _ _ h => h) (Or.inl ⟨by rfl, ?_⟩) hHeld ?_ ?_
    rotate_left; · rintro w' ⟨s0, s1, s2, s3⟩; go_simp; with_reducible rfl
    rotate_left; · simp only [Act.put, e1, e2, e3, i64_w, i32_w]; rfl
    refine take_ (i := 27) (N := some 115) (v := ?_) (a' := ?_) bb45_ rfl rfl (take_ofW HT_.out HW_.out (by kernel_rfl)) (fun _ _ _ h => h) (Or.inl ⟨by rfl, ?_⟩) hHeld ?_ ?_
    rotate_left; · rintro w' ⟨s0, s1, s2, s3⟩; go_simp; with_reducible rfl
    rotate_left; · simp only [Act.put, e1, e2, e3, i64_w, i32_w]; rfl
    refine one_ (i := 28) (N := some 116) bb43_ rfl rfl (one_of HT_.out (by kernel_rfl)) (by decide) (fun K hK => ?_)
    refine goes_ Try.func17 (by kernel_rfl) rfl #[.int .i64 (pP0.f4), .int .i64 (pP0.f5), .string (pP0.f3), .int .i64 (pP0.f6)] (by rfl) rfl rfl (by (try simp only [List.map_toArray, List.map_cons, List.map_nil]); first | done | rfl | (simp only [List.length_drop, List.length_take]; rfl)) ?_
    with_reducible refine (gangwayref20_Dirent.calls kj58 (pP0.f4) (pP0.f5) (pP0.f3) (pP0.f6) t486 _ A80.out).mono ?_
    rintro e w83 ⟨v487, rfl, ho0, hb⟩
    refine ⟨_, rfl, ?_⟩
    have n0_ := Aside0.mk (Kd.R_elder' (by (with_reducible repeat (first | apply Kd.R_alloc | apply Kd.R_drewN | apply Kd.R_drew)); exact HO477.out) (Kd.R_base ho0) hb)
    have n1_ := Aside0.mk (Kd.R_lower (Kd.R_new' ho0 (Kd.R_lt (by (with_reducible repeat (first | apply Kd.R_alloc | apply Kd.R_drewN | apply Kd.R_drew)); exact HO477.out))) (below_size (by repeat (first | (with_reducible first | exact HB.out | apply below_alloc | apply pw_below_drewN | apply below_drew1 | refine below_set ?_ GE443.out) | exact HB.out))))
    have n2_ := Aside0.mk (bbelow BK443 (by (with_reducible repeat (first | refine blk_drewN ?_ _ | refine blk_drew ?_ | refine blk_alloc ?_ _)); exact BK443.out) hb)
    have n3_ := Aside0.mk (below_step (by repeat (first | (with_reducible first | exact HB.out | apply below_alloc | apply pw_below_drewN | apply below_drew1 | refine below_set ?_ GE443.out) | exact HB.out)) hb)
    clear HO477
    clear BK443
    clear HB
    have HO477 := n0_
    have HO488 := n1_
    have BK443 := n2_
    have HB := n3_
    clear n0_ n1_ n2_ n3_
    (try clear hb)
    (try clear hb2)
    (try clear hk)
    (try clear hi)
    (try clear ho0)
    obtain ⟨Ao84, co84, eo84⟩ := Kd.R_slice HO477.out
    (first | subst eo84 | (injection eo84 with f1_ f2_ f3_; have f4_ := f1_.symm; have f5_ := f3_.symm; clear f1_ f2_ f3_; subst f4_; subst f5_))
    obtain ⟨Ao85, co85, eo85⟩ := Kd.R_slice HO488.out
    (first | subst eo85 | (injection eo85 with f1_ f2_ f3_; have f4_ := f1_.symm; have f5_ := f3_.symm; clear f1_ f2_ f3_; subst f4_; subst f5_))
    refine hK.out _ _ ⟨bc BK443 14, bc BK443 15, bc BK443 16, bc BK443 17⟩ (fun hHeld => ?_)
    clear hK K
    refine norm_ (a' := ?_) ?_ ?_
    rotate_left
    ·show Act.put _ (some 116) _ = _
     simp only [Act.put, e1, e2, e3, i64_w, i32_w]
     rfl
    refine one_ (i := 29) (N := some 117) bb41_ rfl rfl (one_of HT_.out (by kernel_rfl)) (by decide) (fun K hK => ?_)
    refine goes_ Try.func11 (by kernel_rfl) rfl #[.slice Ao84 t474.length co84, .int .i64 t475, .bool false, .slice Ao85 t486.length co85] (by rfl) rfl rfl (by (try simp only [List.map_toArray, List.map_cons, List.map_nil]); first | done | rfl | (simp only [List.length_drop, List.length_take]; rfl)) ?_
    with_reducible refine (gangwaylaw20_is.calls kj58 _ _ t474 t475 false _ _ t486 t489 _ ?side1 ?side2 ?side3 ?side4 A81.out).mono ?_
    (case side1 => repeat (first | exact (Kd.R_reads' HO477.out).2.2 | (with_reducible refine Kd.C_alloc ?_ _) | (with_reducible refine Kd.C_drewN ?_ _) | (with_reducible refine Kd.C_drew ?_)))
    (case side2 => exact (Kd.R_reads' HO477.out).2.1)
    (case side3 => repeat (first | exact (Kd.R_reads' HO488.out).2.2 | (with_reducible refine Kd.C_alloc ?_ _) | (with_reducible refine Kd.C_drewN ?_ _) | (with_reducible refine Kd.C_drew ?_)))
    (case side4 => exact (Kd.R_reads' HO488.out).2.1)
    rintro e w' ⟨rfl, ⟨nd, rfl⟩⟩
    refine ⟨_, rfl, ?_⟩
    refine hK.out _ _ ⟨bc BK443 14, bc BK443 15, bc BK443 16, bc BK443 17⟩ (fun hHeld => ?_)
    clear hK K
    refine norm_ (a' := ?_) ?_ ?_
    rotate_left
    ·show Act.put _ (some 117) _ = _
     simp only [Act.put, e1, e2, e3, i64_w, i32_w]
     rfl
    refine pure_ (i := 30) (N := some 118) (v := ?_) (a' := ?_) bb39_ rfl rfl (any_of HT_.out (by kernel_rfl)) (fun _ _ _ h => h) (Or.inl ⟨by rfl, ?_⟩) ?_ ?_
    rotate_left; · intro w'; go_simp; with_reducible rfl
    rotate_left; · simp only [Act.put, e1, e2, e3, i64_w, i32_w]; rfl
    refine done_ (done_of HT_.out (by kernel_rfl)) ?_
    try go_wp2
    go_meet
    case rel => exact ⟨_, (!t489), (by first | rfl | (simp; done) | (simp [*]; done)), H', ⟨by have := HK1.out; have := HJ2.out; have := HJ4.out; have := HJ9.out; have := HJ18.out; have := HJ28.out; have := HJ58.out; first | omega | exact Nat.le_refl _⟩, ⟨by (with_reducible repeat (first | refine blk_drewN ?_ _ | refine blk_drew ?_ | refine blk_alloc ?_ _)); exact BK443.out⟩, ⟨by repeat (first | (with_reducible first | exact HB.out | apply below_alloc | apply pw_below_drewN | apply below_drew1 | refine below_set ?_ GE443.out) | exact HB.out)⟩⟩
   as_aux_lemma =>
   rw [if_pos c66] at H
   have c66b0 : decide (0 ≤ (pP0.f5)) = true := decide_eq_true c66
   clear c66
   by_cases c67 : (pP0.f6) ≥ 1
   rotate_left
   ·as_aux_lemma =>
    rw [if_neg c67] at H
    have c67b0 : decide (1 ≤ (pP0.f6)) = false := decide_eq_false c67
    clear c67
    replace H := Option.bind_eq_some_iff.mp H
    obtain ⟨t482, A740, H⟩ := H
    replace H : ((gangwaylaw20_is.f kj58 t474 t475 false t482).bind fun t485 => (j7 kj58 l0 x3_1 (!t485) (pP0.f0.f0) (pP0.f0.f1) (pP0.f0.f2) (pP0.f0.f3) (pP0.f0.f4) (pP0.f0.f5) (pP0.f0.f6) (pP0.f1.f0) (pP0.f1.f1) (pP0.f1.f2) (pP0.f1.f3) (pP0.f1.f4) (pP0.f1.f5) (pP0.f2) (pP0.f3) (pP0.f4) (pP0.f5) (pP0.f6) (pP0.f7.f0) (pP0.f7.f1) (pP0.f7.f2) (pP0.f7.f3) (pP0.f8))) = some r := H
    have A74 := Aside0.mk A740
    clear A740
    replace H := Option.bind_eq_some_iff.mp H
    obtain ⟨t485, A750, H⟩ := H
    replace H : (j7 kj58 l0 x3_1 (!t485) (pP0.f0.f0) (pP0.f0.f1) (pP0.f0.f2) (pP0.f0.f3) (pP0.f0.f4) (pP0.f0.f5) (pP0.f0.f6) (pP0.f1.f0) (pP0.f1.f1) (pP0.f1.f2) (pP0.f1.f3) (pP0.f1.f4) (pP0.f1.f5) (pP0.f2) (pP0.f3) (pP0.f4) (pP0.f5) (pP0.f6) (pP0.f7.f0) (pP0.f7.f1) (pP0.f7.f2) (pP0.f7.f3) (pP0.f8)) = some r := H
    have A75 := Aside0.mk A750
    clear A750
    have H' := Aside0.mk H
    clear H
    try go_wp2
    have n0_ := Aside0.mk (Kd.R_drew HO477.out)
    have n1_ := Aside0.mk (blk_drew BK443.out)
    have n2_ := Aside0.mk (below_drew1 HB.out)
    clear HO477
    clear BK443
    clear HB
    have HO477 := n0_
    have BK443 := n1_
    have HB := n2_
    clear n0_ n1_ n2_
    refine start_ (n := 31) (S := fun w' => w'.cell? ⟨gb443, 14, none⟩ = some (.string (pP0.f3)) ∧ w'.cell? ⟨gb443, 15, none⟩ = some (.int .i64 (pP0.f4)) ∧ w'.cell? ⟨gb443, 16, none⟩ = some (.int .i64 (pP0.f5)) ∧ w'.cell? ⟨gb443, 17, none⟩ = some (.int .i64 (pP0.f6))) (ds := []) bb87_ (by kernel_rfl) rfl rfl ⟨bc BK443 14, bc BK443 15, bc BK443 16, bc BK443 17⟩ (fun hHeld => ?_); refine with_tabW gangwaylaw20_StatExact.tab14 gangwaylaw20_StatExact.bits14 (fun HT_ HW_ => ?_)
    generalize w64.drew = w76 at HO477 BK443 HB hHeld ⊢
    refine pure_ (i := 0) (N := some 88) (v := ?_) (a' := ?_) bb86_ rfl rfl (any_of HT_.out (by kernel_rfl)) (fun _ _ _ h => h) (Or.inl ⟨by rfl, ?_⟩) ?_ ?_
    rotate_left; · intro w'; go_simp; with_reducible rfl
    rotate_left; · simp only [Act.put, e1, e2, e3, i64_w, i32_w]; rfl
    refine pure_ (i := 1) (N := some 89) (v := ?_) (a' := ?_) bb85_ rfl rfl (any_of HT_.out (by kernel_rfl)) (fun _ _ _ h => h) (Or.inl ⟨by rfl, ?_⟩) ?_ ?_
    rotate_left; · intro w'; go_simp; with_reducible rfl
    rotate_left; · simp only [Act.put, e1, e2, e3, i64_w, i32_w]; rfl
    refine pure_ (i := 2) (N := some 90) (v := ?_) (a' := ?_) bb84_ rfl rfl (any_of HT_.out (by kernel_rfl)) (fun _ _ _ h => h) (Or.inl ⟨by rfl, ?_⟩) ?_ ?_
    rotate_left; · intro w'; go_simp; with_reducible rfl
    rotate_left; · simp only [Act.put, e1, e2, e3, i64_w, i32_w]; rfl
    refine pure_ (i := 20) (N := some 108) (v := ?_) (a' := ?_) bb83_ rfl rfl (any_of HT_.out (by kernel_rfl)) (fun _ _ _ h => h) (Or.inl ⟨by rfl, ?_⟩) ?_ ?_
    rotate_left; · intro w'; go_simp; with_reducible rfl
    rotate_left; · simp only [Act.put, e1, e2, e3, i64_w, i32_w]; rfl
    refine pure_ (i := 22) (N := some 110) (v := ?_) (a' := ?_) bb82_ rfl rfl (any_of HT_.out (by kernel_rfl)) (fun _ _ _ h => h) (Or.inl ⟨by rfl, ?_⟩) ?_ ?_
    rotate_left; · intro w'; go_simp; with_reducible rfl
    rotate_left; · simp only [Act.put, e1, e2, e3, i64_w, i32_w]; rfl
    refine pure_ (i := 24) (N := some 112) (v := ?_) (a' := ?_) bb81_ rfl rfl (any_of HT_.out (by kernel_rfl)) (fun _ _ _ h => h) (Or.inl ⟨by rfl, ?_⟩) ?_ ?_
    rotate_left; · intro w'; go_simp; with_reducible rfl
    rotate_left; · simp only [Act.put, e1, e2, e3, i64_w, i32_w]; rfl
    refine pure_ (i := 26) (N := some 114) (v := ?_) (a' := ?_) bb80_ rfl rfl (any_of HT_.out (by kernel_rfl)) (fun _ _ _ h => h) (Or.inl ⟨by rfl, ?_⟩) ?_ ?_
    rotate_left; · intro w'; go_simp; with_reducible rfl
    rotate_left; · simp only [Act.put, e1, e2, e3, i64_w, i32_w]; rfl
    refine take_ (i := 3) (N := some 91) (v := ?_) (a' := ?_) bb79_ rfl rfl (take_ofW HT_.out HW_.out (by kernel_rfl)) (fun _ _ _ h => h) (Or.inl ⟨by rfl, ?_⟩) hHeld ?_ ?_
    rotate_left; · rintro w' ⟨s0, s1, s2, s3⟩; go_simp; with_reducible rfl
    rotate_left; · simp only [Act.put, e1, e2, e3, i64_w, i32_w]; rfl
    refine pure_ (i := 4) (N := some 92) (v := ?_) (a' := ?_) bb78_ rfl rfl (any_of HT_.out (by kernel_rfl)) (fun _ _ _ h => h) (Or.inl ⟨by rfl, ?_⟩) ?_ ?_
    rotate_left; · intro w'; go_simp; with_reducible rfl
    rotate_left; · simp only [Act.put, e1, e2, e3, i64_w, i32_w]; rfl
    refine pure_ (i := 5) (N := some 93) (v := ?_) (a' := ?_) bb77_ rfl rfl (any_of HT_.out (by kernel_rfl)) (fun _ _ _ h => h) (Or.inl ⟨by rfl, ?_⟩) ?_ ?_
    rotate_left; · intro w'; go_simp; with_reducible rfl
    rotate_left; · simp only [Act.put, e1, e2, e3, i64_w, i32_w]; rfl
    refine pure_ (i := 6) (N := some 94) (v := ?_) (a' := ?_) bb76_ rfl rfl (any_of HT_.out (by kernel_rfl)) (fun _ _ _ h => h) (Or.inl ⟨by rfl, ?_⟩) ?_ ?_
    rotate_left; · intro w'; go_simp; with_reducible rfl
    rotate_left; · simp only [Act.put, e1, e2, e3, i64_w, i32_w]; rfl
    refine take_ (i := 7) (N := some 95) (v := ?_) (a' := ?_) bb75_ rfl rfl (take_ofW HT_.out HW_.out (by kernel_rfl)) (fun _ _ _ h => h) (Or.inl ⟨by rfl, ?_⟩) hHeld ?_ ?_
    rotate_left; · rintro w' ⟨s0, s1, s2, s3⟩; go_simp; with_reducible rfl
    rotate_left; · simp only [Act.put, e1, e2, e3, i64_w, i32_w]; rfl
    refine pure_ (i := 8) (N := some 96) (v := ?_) (a' := ?_) bb74_ rfl rfl (any_of HT_.out (by kernel_rfl)) (fun _ _ _ h => h) (Or.inl ⟨by rfl, ?_⟩) ?_ ?_
    rotate_left; · intro w'; go_simp; with_reducible rfl
    rotate_left; · simp only [Act.put, e1, e2, e3, i64_w, i32_w]; rfl
    refine pure_ (i := 9) (N := some 97) (v := ?_) (a' := ?_) bb73_ rfl rfl (any_of HT_.out (by kernel_rfl)) (fun _ _ _ h => h) (Or.inl ⟨by rfl, ?_⟩) ?_ ?_
    rotate_left; · intro w'; go_simp; with_reducible rfl
    rotate_left; · simp only [Act.put, e1, e2, e3, i64_w, i32_w]; rfl
    refine pure_ (i := 10) (N := some 98) (v := ?_) (a' := ?_) bb71_ rfl rfl (any_of HT_.out (by kernel_rfl)) (fun _ _ _ h => h) (Or.inl ⟨by rfl, ?_⟩) ?_ ?_
    rotate_left; · intro w'; go_simp; with_reducible rfl
    rotate_left; · simp only [Act.put, e1, e2, e3, i64_w, i32_w]; rfl
    refine pure_ (i := 11) (N := some 99) (v := ?_) (a' := ?_) bb69_ rfl rfl (any_of HT_.out (by kernel_rfl)) (fun _ _ _ h => h) (Or.inl ⟨by rfl, ?_⟩) ?_ ?_
    rotate_left; · intro w'; go_simp; with_reducible rfl
    rotate_left; · simp only [Act.put, e1, e2, e3, i64_w, i32_w]; rfl
    refine take_ (i := 12) (N := some 100) (v := ?_) (a' := ?_) bb67_ rfl rfl (take_ofW HT_.out HW_.out (by kernel_rfl)) (fun _ _ _ h => h) (Or.inl ⟨by rfl, ?_⟩) hHeld ?_ ?_
    rotate_left; · rintro w' ⟨s0, s1, s2, s3⟩; go_simp; with_reducible rfl
    rotate_left; · simp only [Act.put, e1, e2, e3, i64_w, i32_w]; rfl
    refine pure_ (i := 13) (N := some 101) (v := ?_) (a' := ?_) bb65_ rfl rfl (any_of HT_.out (by kernel_rfl)) (fun _ _ _ h => h) (Or.inl ⟨by rfl, ?_⟩) ?_ ?_
    rotate_left; · intro w'; go_simp; with_reducible rfl
    rotate_left; · simp only [Act.put, e1, e2, e3, i64_w, i32_w]; rfl
    refine pure_ (i := 14) (N := some 102) (v := ?_) (a' := ?_) bb63_ rfl rfl (any_of HT_.out (by kernel_rfl)) (fun _ _ _ h => h) (Or.inl ⟨by rfl, ?_⟩) ?_ ?_
    rotate_left; · intro w'; go_simp; with_reducible rfl
    rotate_left; · simp only [Act.put, e1, e2, e3, i64_w, i32_w]; rfl
    refine pure_ (i := 15) (N := some 103) (v := ?_) (a' := ?_) bb61_ rfl rfl (any_of HT_.out (by kernel_rfl)) (fun _ _ _ h => h) (Or.inl ⟨by rfl, ?_⟩) ?_ ?_
    rotate_left; · intro w'; go_simp; with_reducible rfl
    rotate_left; · simp only [Act.put, e1, e2, e3, i64_w, i32_w]; rfl
    refine pure_ (i := 16) (N := some 104) (v := undef) (a' := ?_) bb59_ rfl rfl (any_of HT_.out (by kernel_rfl)) (fun _ _ _ h => h) (Or.inr ⟨by rfl, rfl⟩) ?_ ?_
    rotate_left; · simp only [Act.put, e1, e2, e3, i64_w, i32_w]; rfl
    refine pure_ (i := 17) (N := some 105) (v := undef) (a' := ?_) bb57_ rfl rfl (any_of HT_.out (by kernel_rfl)) (fun _ _ _ h => h) (Or.inr ⟨by rfl, rfl⟩) ?_ ?_
    rotate_left; · simp only [Act.put, e1, e2, e3, i64_w, i32_w]; rfl
    refine pure_ (i := 18) (N := some 106) (v := undef) (a' := ?_) bb55_ rfl rfl (any_of HT_.out (by kernel_rfl)) (fun _ _ _ h => h) (Or.inr ⟨by rfl, rfl⟩) ?_ ?_
    rotate_left; · simp only [Act.put, e1, e2, e3, i64_w, i32_w]; rfl
    refine pure_ (i := 19) (N := some 107) (v := ?_) (a' := ?_) bb53_ rfl rfl (any_of HT_.out (by kernel_rfl)) (fun _ _ _ h => h) (Or.inl ⟨by rfl, ?_⟩) ?_ ?_
    rotate_left; · intro w'; go_simp; with_reducible rfl
    rotate_left; · simp only [Act.put, e1, e2, e3, i64_w, i32_w]; rfl
    refine take_ (i := 21) (N := some 109) (v := ?_) (a' := ?_) bb51_ rfl rfl (take_ofW HT_.out HW_.out (by kernel_rfl)) (fun _ _ _ h => h) (Or.inl ⟨by rfl, ?_⟩) hHeld ?_ ?_
    rotate_left; · rintro w' ⟨s0, s1, s2, s3⟩; go_simp; with_reducible rfl
    rotate_left; · simp only [Act.put, e1, e2, e3, i64_w, i32_w]; rfl
    refine take_ (i := 23) (N := some 111) (v := ?_) (a' := ?_) bb49_ rfl rfl (take_ofW HT_.out HW_.out (by kernel_rfl)) (fun _ _ _ h => h) (Or.inl ⟨by rfl, ?_⟩) hHeld ?_ ?_
    rotate_left; · rintro w' ⟨s0, s1, s2, s3⟩; go_simp; with_reducible rfl
    rotate_left; · simp only [Act.put, e1, e2, e3, i64_w, i32_w]; rfl
    refine take_ (i := 25) (N := some 113) (v := ?_) (a' := ?_) bb47_ rfl rfl (take_ofW HT_.out HW_.out (by kernel_rfl)) (fun _ _ _ h => h) (Or.inl ⟨by rfl, ?_⟩) hHeld ?_ ?_
    rotate_left; · rintro w' ⟨s0, s1, s2, s3⟩; go_simp; with_reducible rfl
    rotate_left; · simp only [Act.put, e1, e2, e3, i64_w, i32_w]; rfl
    refine take_ (i := 27) (N := some 115) (v := ?_) (a' := ?_) bb45_ rfl rfl (take_ofW HT_.out HW_.out (by kernel_rfl)) (fun _ _ _ h => h) (Or.inl ⟨by rfl, ?_⟩) hHeld ?_ ?_
    rotate_left; · rintro w' ⟨s0, s1, s2, s3⟩; go_simp; with_reducible rfl
    rotate_left; · simp only [Act.put, e1, e2, e3, i64_w, i32_w]; rfl
    refine one_ (i := 28) (N := some 116) bb43_ rfl rfl (one_of HT_.out (by kernel_rfl)) (by decide) (fun K hK => ?_)
    refine goes_ Try.func17 (by kernel_rfl) rfl #[.int .i64 (pP0.f4), .int .i64 (pP0.f5), .string (pP0.f3), .int .i64 (pP0.f6)] (by rfl) rfl rfl (by (try simp only [List.map_toArray, List.map_cons, List.map_nil]); first | done | rfl | (simp only [List.length_drop, List.length_take]; rfl)) ?_
    with_reducible refine (gangwayref20_Dirent.calls kj58 (pP0.f4) (pP0.f5) (pP0.f3) (pP0.f6) t482 _ A74.out).mono ?_
    rintro e w77 ⟨v483, rfl, ho0, hb⟩
    refine ⟨_, rfl, ?_⟩
    have n0_ := Aside0.mk (Kd.R_elder' (by (with_reducible repeat (first | apply Kd.R_alloc | apply Kd.R_drewN | apply Kd.R_drew)); exact HO477.out) (Kd.R_base ho0) hb)
    have n1_ := Aside0.mk (Kd.R_lower (Kd.R_new' ho0 (Kd.R_lt (by (with_reducible repeat (first | apply Kd.R_alloc | apply Kd.R_drewN | apply Kd.R_drew)); exact HO477.out))) (below_size (by repeat (first | (with_reducible first | exact HB.out | apply below_alloc | apply pw_below_drewN | apply below_drew1 | refine below_set ?_ GE443.out) | exact HB.out))))
    have n2_ := Aside0.mk (bbelow BK443 (by (with_reducible repeat (first | refine blk_drewN ?_ _ | refine blk_drew ?_ | refine blk_alloc ?_ _)); exact BK443.out) hb)
    have n3_ := Aside0.mk (below_step (by repeat (first | (with_reducible first | exact HB.out | apply below_alloc | apply pw_below_drewN | apply below_drew1 | refine below_set ?_ GE443.out) | exact HB.out)) hb)
    clear HO477
    clear BK443
    clear HB
    have HO477 := n0_
    have HO484 := n1_
    have BK443 := n2_
    have HB := n3_
    clear n0_ n1_ n2_ n3_
    (try clear hb)
    (try clear hb2)
    (try clear hk)
    (try clear hi)
    (try clear ho0)
    obtain ⟨Ao78, co78, eo78⟩ := Kd.R_slice HO477.out
    (first | subst eo78 | (injection eo78 with f1_ f2_ f3_; have f4_ := f1_.symm; have f5_ := f3_.symm; clear f1_ f2_ f3_; subst f4_; subst f5_))
    obtain ⟨Ao79, co79, eo79⟩ := Kd.R_slice HO484.out
    (first | subst eo79 | (injection eo79 with f1_ f2_ f3_; have f4_ := f1_.symm; have f5_ := f3_.symm; clear f1_ f2_ f3_; subst f4_; subst f5_))
    refine hK.out _ _ ⟨bc BK443 14, bc BK443 15, bc BK443 16, bc BK443 17⟩ (fun hHeld => ?_)
    clear hK K
    refine norm_ (a' := ?_) ?_ ?_
    rotate_left
    ·show Act.put _ (some 116) _ = _
     simp only [Act.put, e1, e2, e3, i64_w, i32_w]
     rfl
    refine one_ (i := 29) (N := some 117) bb41_ rfl rfl (one_of HT_.out (by kernel_rfl)) (by decide) (fun K hK => ?_)
    refine goes_ Try.func11 (by kernel_rfl) rfl #[.slice Ao78 t474.length co78, .int .i64 t475, .bool false, .slice Ao79 t482.length co79] (by rfl) rfl rfl (by (try simp only [List.map_toArray, List.map_cons, List.map_nil]); first | done | rfl | (simp only [List.length_drop, List.length_take]; rfl)) ?_
    with_reducible refine (gangwaylaw20_is.calls kj58 _ _ t474 t475 false _ _ t482 t485 _ ?side1 ?side2 ?side3 ?side4 A75.out).mono ?_
    (case side1 => repeat (first | exact (Kd.R_reads' HO477.out).2.2 | (with_reducible refine Kd.C_alloc ?_ _) | (with_reducible refine Kd.C_drewN ?_ _) | (with_reducible refine Kd.C_drew ?_)))
    (case side2 => exact (Kd.R_reads' HO477.out).2.1)
    (case side3 => repeat (first | exact (Kd.R_reads' HO484.out).2.2 | (with_reducible refine Kd.C_alloc ?_ _) | (with_reducible refine Kd.C_drewN ?_ _) | (with_reducible refine Kd.C_drew ?_)))
    (case side4 => exact (Kd.R_reads' HO484.out).2.1)
    rintro e w' ⟨rfl, ⟨nd, rfl⟩⟩
    refine ⟨_, rfl, ?_⟩
    refine hK.out _ _ ⟨bc BK443 14, bc BK443 15, bc BK443 16, bc BK443 17⟩ (fun hHeld => ?_)
    clear hK K
    refine norm_ (a' := ?_) ?_ ?_
    rotate_left
    ·show Act.put _ (some 117) _ = _
     simp only [Act.put, e1, e2, e3, i64_w, i32_w]
     rfl
    refine pure_ (i := 30) (N := some 118) (v := ?_) (a' := ?_) bb39_ rfl rfl (any_of HT_.out (by kernel_rfl)) (fun _ _ _ h => h) (Or.inl ⟨by rfl, ?_⟩) ?_ ?_
    rotate_left; · intro w'; go_simp; with_reducible rfl
    rotate_left; · simp only [Act.put, e1, e2, e3, i64_w, i32_w]; rfl
    refine done_ (done_of HT_.out (by kernel_rfl)) ?_
    try go_wp2
    go_meet
    case rel => exact ⟨_, (!t485), (by first | rfl | (simp; done) | (simp [*]; done)), H', ⟨by have := HK1.out; have := HJ2.out; have := HJ4.out; have := HJ9.out; have := HJ18.out; have := HJ28.out; have := HJ58.out; first | omega | exact Nat.le_refl _⟩, ⟨by (with_reducible repeat (first | refine blk_drewN ?_ _ | refine blk_drew ?_ | refine blk_alloc ?_ _)); exact BK443.out⟩, ⟨by repeat (first | (with_reducible first | exact HB.out | apply below_alloc | apply pw_below_drewN | apply below_drew1 | refine below_set ?_ GE443.out) | exact HB.out)⟩⟩
   as_aux_lemma =>
   rw [if_pos c67] at H
   have c67b0 : decide (1 ≤ (pP0.f6)) = true := decide_eq_true c67
   clear c67
   replace H := Option.bind_eq_some_iff.mp H
   obtain ⟨t478, A680, H⟩ := H
   replace H : ((gangwaylaw20_is.f kj58 t474 t475 (decide ((pP0.f6) ≤ 3)) t478).bind fun t481 => (j7 kj58 l0 x3_1 (!t481) (pP0.f0.f0) (pP0.f0.f1) (pP0.f0.f2) (pP0.f0.f3) (pP0.f0.f4) (pP0.f0.f5) (pP0.f0.f6) (pP0.f1.f0) (pP0.f1.f1) (pP0.f1.f2) (pP0.f1.f3) (pP0.f1.f4) (pP0.f1.f5) (pP0.f2) (pP0.f3) (pP0.f4) (pP0.f5) (pP0.f6) (pP0.f7.f0) (pP0.f7.f1) (pP0.f7.f2) (pP0.f7.f3) (pP0.f8))) = some r := H
   have A68 := Aside0.mk A680
   clear A680
   replace H := Option.bind_eq_some_iff.mp H
   obtain ⟨t481, A690, H⟩ := H
   replace H : (j7 kj58 l0 x3_1 (!t481) (pP0.f0.f0) (pP0.f0.f1) (pP0.f0.f2) (pP0.f0.f3) (pP0.f0.f4) (pP0.f0.f5) (pP0.f0.f6) (pP0.f1.f0) (pP0.f1.f1) (pP0.f1.f2) (pP0.f1.f3) (pP0.f1.f4) (pP0.f1.f5) (pP0.f2) (pP0.f3) (pP0.f4) (pP0.f5) (pP0.f6) (pP0.f7.f0) (pP0.f7.f1) (pP0.f7.f2) (pP0.f7.f3) (pP0.f8)) = some r := H
   have A69 := Aside0.mk A690
   clear A690
   have H' := Aside0.mk H
   clear H
   try go_wp2
   have n0_ := Aside0.mk (Kd.R_drew HO477.out)
   have n1_ := Aside0.mk (blk_drew BK443.out)
   have n2_ := Aside0.mk (below_drew1 HB.out)
   clear HO477
   clear BK443
   clear HB
   have HO477 := n0_
   have BK443 := n1_
   have HB := n2_
   clear n0_ n1_ n2_
   refine start_ (n := 31) (S := fun w' => w'.cell? ⟨gb443, 14, none⟩ = some (.string (pP0.f3)) ∧ w'.cell? ⟨gb443, 15, none⟩ = some (.int .i64 (pP0.f4)) ∧ w'.cell? ⟨gb443, 16, none⟩ = some (.int .i64 (pP0.f5)) ∧ w'.cell? ⟨gb443, 17, none⟩ = some (.int .i64 (pP0.f6))) (ds := []) bb87_ (by kernel_rfl) rfl rfl ⟨bc BK443 14, bc BK443 15, bc BK443 16, bc BK443 17⟩ (fun hHeld => ?_); refine with_tabW gangwaylaw20_StatExact.tab14 gangwaylaw20_StatExact.bits14 (fun HT_ HW_ => ?_)
   generalize w64.drew = w70 at HO477 BK443 HB hHeld ⊢
   refine pure_ (i := 0) (N := some 88) (v := ?_) (a' := ?_) bb86_ rfl rfl (any_of HT_.out (by kernel_rfl)) (fun _ _ _ h => h) (Or.inl ⟨by rfl, ?_⟩) ?_ ?_
   rotate_left; · intro w'; go_simp; with_reducible rfl
   rotate_left; · simp only [Act.put, e1, e2, e3, i64_w, i32_w]; rfl
   refine pure_ (i := 1) (N := some 89) (v := ?_) (a' := ?_) bb85_ rfl rfl (any_of HT_.out (by kernel_rfl)) (fun _ _ _ h => h) (Or.inl ⟨by rfl, ?_⟩) ?_ ?_
   rotate_left; · intro w'; go_simp; with_reducible rfl
   rotate_left; · simp only [Act.put, e1, e2, e3, i64_w, i32_w]; rfl
   refine pure_ (i := 2) (N := some 90) (v := ?_) (a' := ?_) bb84_ rfl rfl (any_of HT_.out (by kernel_rfl)) (fun _ _ _ h => h) (Or.inl ⟨by rfl, ?_⟩) ?_ ?_
   rotate_left; · intro w'; go_simp; with_reducible rfl
   rotate_left; · simp only [Act.put, e1, e2, e3, i64_w, i32_w]; rfl
   refine pure_ (i := 20) (N := some 108) (v := ?_) (a' := ?_) bb83_ rfl rfl (any_of HT_.out (by kernel_rfl)) (fun _ _ _ h => h) (Or.inl ⟨by rfl, ?_⟩) ?_ ?_
   rotate_left; · intro w'; go_simp; with_reducible rfl
   rotate_left; · simp only [Act.put, e1, e2, e3, i64_w, i32_w]; rfl
   refine pure_ (i := 22) (N := some 110) (v := ?_) (a' := ?_) bb82_ rfl rfl (any_of HT_.out (by kernel_rfl)) (fun _ _ _ h => h) (Or.inl ⟨by rfl, ?_⟩) ?_ ?_
   rotate_left; · intro w'; go_simp; with_reducible rfl
   rotate_left; · simp only [Act.put, e1, e2, e3, i64_w, i32_w]; rfl
   refine pure_ (i := 24) (N := some 112) (v := ?_) (a' := ?_) bb81_ rfl rfl (any_of HT_.out (by kernel_rfl)) (fun _ _ _ h => h) (Or.inl ⟨by rfl, ?_⟩) ?_ ?_
   rotate_left; · intro w'; go_simp; with_reducible rfl
   rotate_left; · simp only [Act.put, e1, e2, e3, i64_w, i32_w]; rfl
   refine pure_ (i := 26) (N := some 114) (v := ?_) (a' := ?_) bb80_ rfl rfl (any_of HT_.out (by kernel_rfl)) (fun _ _ _ h => h) (Or.inl ⟨by rfl, ?_⟩) ?_ ?_
   rotate_left; · intro w'; go_simp; with_reducible rfl
   rotate_left; · simp only [Act.put, e1, e2, e3, i64_w, i32_w]; rfl
   refine take_ (i := 3) (N := some 91) (v := ?_) (a' := ?_) bb79_ rfl rfl (take_ofW HT_.out HW_.out (by kernel_rfl)) (fun _ _ _ h => h) (Or.inl ⟨by rfl, ?_⟩) hHeld ?_ ?_
   rotate_left; · rintro w' ⟨s0, s1, s2, s3⟩; go_simp; with_reducible rfl
   rotate_left; · simp only [Act.put, e1, e2, e3, i64_w, i32_w]; rfl
   refine pure_ (i := 4) (N := some 92) (v := ?_) (a' := ?_) bb78_ rfl rfl (any_of HT_.out (by kernel_rfl)) (fun _ _ _ h => h) (Or.inl ⟨by rfl, ?_⟩) ?_ ?_
   rotate_left; · intro w'; go_simp; with_reducible rfl
   rotate_left; · simp only [Act.put, e1, e2, e3, i64_w, i32_w]; rfl
   refine pure_ (i := 5) (N := some 93) (v := ?_) (a' := ?_) bb77_ rfl rfl (any_of HT_.out (by kernel_rfl)) (fun _ _ _ h => h) (Or.inl ⟨by rfl, ?_⟩) ?_ ?_
   rotate_left; · intro w'; go_simp; with_reducible rfl
   rotate_left; · simp only [Act.put, e1, e2, e3, i64_w, i32_w]; rfl
   refine pure_ (i := 6) (N := some 94) (v := ?_) (a' := ?_) bb76_ rfl rfl (any_of HT_.out (by kernel_rfl)) (fun _ _ _ h => h) (Or.inl ⟨by rfl, ?_⟩) ?_ ?_
   rotate_left; · intro w'; go_simp; with_reducible rfl
   rotate_left; · simp only [Act.put, e1, e2, e3, i64_w, i32_w]; rfl
   refine take_ (i := 7) (N := some 95) (v := ?_) (a' := ?_) bb75_ rfl rfl (take_ofW HT_.out HW_.out (by kernel_rfl)) (fun _ _ _ h => h) (Or.inl ⟨by rfl, ?_⟩) hHeld ?_ ?_
   rotate_left; · rintro w' ⟨s0, s1, s2, s3⟩; go_simp; with_reducible rfl
   rotate_left; · simp only [Act.put, e1, e2, e3, i64_w, i32_w]; rfl
   refine pure_ (i := 8) (N := some 96) (v := ?_) (a' := ?_) bb74_ rfl rfl (any_of HT_.out (by kernel_rfl)) (fun _ _ _ h => h) (Or.inl ⟨by rfl, ?_⟩) ?_ ?_
   rotate_left; · intro w'; go_simp; with_reducible rfl
   rotate_left; · simp only [Act.put, e1, e2, e3, i64_w, i32_w]; rfl
   refine pure_ (i := 9) (N := some 97) (v := ?_) (a' := ?_) bb73_ rfl rfl (any_of HT_.out (by kernel_rfl)) (fun _ _ _ h => h) (Or.inl ⟨by rfl, ?_⟩) ?_ ?_
   rotate_left; · intro w'; go_simp; with_reducible rfl
   rotate_left; · simp only [Act.put, e1, e2, e3, i64_w, i32_w]; rfl
   refine pure_ (i := 10) (N := some 98) (v := ?_) (a' := ?_) bb71_ rfl rfl (any_of HT_.out (by kernel_rfl)) (fun _ _ _ h => h) (Or.inl ⟨by rfl, ?_⟩) ?_ ?_
   rotate_left; · intro w'; go_simp; with_reducible rfl
   rotate_left; · simp only [Act.put, e1, e2, e3, i64_w, i32_w]; rfl
   refine pure_ (i := 11) (N := some 99) (v := ?_) (a' := ?_) bb69_ rfl rfl (any_of HT_.out (by kernel_rfl)) (fun _ _ _ h => h) (Or.inl ⟨by rfl, ?_⟩) ?_ ?_
   rotate_left; · intro w'; go_simp; with_reducible rfl
   rotate_left; · simp only [Act.put, e1, e2, e3, i64_w, i32_w]; rfl
   refine take_ (i := 12) (N := some 100) (v := ?_) (a' := ?_) bb67_ rfl rfl (take_ofW HT_.out HW_.out (by kernel_rfl)) (fun _ _ _ h => h) (Or.inl ⟨by rfl, ?_⟩) hHeld ?_ ?_
   rotate_left; · rintro w' ⟨s0, s1, s2, s3⟩; go_simp; with_reducible rfl
   rotate_left; · simp only [Act.put, e1, e2, e3, i64_w, i32_w]; rfl
   refine pure_ (i := 13) (N := some 101) (v := ?_) (a' := ?_) bb65_ rfl rfl (any_of HT_.out (by kernel_rfl)) (fun _ _ _ h => h) (Or.inl ⟨by rfl, ?_⟩) ?_ ?_
   rotate_left; · intro w'; go_simp; with_reducible rfl
   rotate_left; · simp only [Act.put, e1, e2, e3, i64_w, i32_w]; rfl
   refine pure_ (i := 14) (N := some 102) (v := ?_) (a' := ?_) bb63_ rfl rfl (any_of HT_.out (by kernel_rfl)) (fun _ _ _ h => h) (Or.inl ⟨by rfl, ?_⟩) ?_ ?_
   rotate_left; · intro w'; go_simp; with_reducible rfl
   rotate_left; · simp only [Act.put, e1, e2, e3, i64_w, i32_w]; rfl
   refine pure_ (i := 15) (N := some 103) (v := ?_) (a' := ?_) bb61_ rfl rfl (any_of HT_.out (by kernel_rfl)) (fun _ _ _ h => h) (Or.inl ⟨by rfl, ?_⟩) ?_ ?_
   rotate_left; · intro w'; go_simp; with_reducible rfl
   rotate_left; · simp only [Act.put, e1, e2, e3, i64_w, i32_w]; rfl
   refine pure_ (i := 16) (N := some 104) (v := ?_) (a' := ?_) bb59_ rfl rfl (any_of HT_.out (by kernel_rfl)) (fun _ _ _ h => h) (Or.inl ⟨by rfl, ?_⟩) ?_ ?_
   rotate_left; · intro w'; go_simp; with_reducible rfl
   rotate_left; · simp only [Act.put, e1, e2, e3, i64_w, i32_w]; rfl
   refine take_ (i := 17) (N := some 105) (v := ?_) (a' := ?_) bb57_ rfl rfl (take_ofW HT_.out HW_.out (by kernel_rfl)) (fun _ _ _ h => h) (Or.inl ⟨by rfl, ?_⟩) hHeld ?_ ?_
   rotate_left; · rintro w' ⟨s0, s1, s2, s3⟩; go_simp; with_reducible rfl
   rotate_left; · simp only [Act.put, e1, e2, e3, i64_w, i32_w]; rfl
   refine pure_ (i := 18) (N := some 106) (v := ?_) (a' := ?_) bb55_ rfl rfl (any_of HT_.out (by kernel_rfl)) (fun _ _ _ h => h) (Or.inl ⟨by rfl, ?_⟩) ?_ ?_
   rotate_left; · intro w'; go_simp; with_reducible rfl
   rotate_left; · simp only [Act.put, e1, e2, e3, i64_w, i32_w]; rfl
   refine pure_ (i := 19) (N := some 107) (v := ?_) (a' := ?_) bb53_ rfl rfl (any_of HT_.out (by kernel_rfl)) (fun _ _ _ h => h) (Or.inl ⟨by rfl, ?_⟩) ?_ ?_
   rotate_left; · intro w'; go_simp; with_reducible rfl
   rotate_left; · simp only [Act.put, e1, e2, e3, i64_w, i32_w]; rfl
   refine take_ (i := 21) (N := some 109) (v := ?_) (a' := ?_) bb51_ rfl rfl (take_ofW HT_.out HW_.out (by kernel_rfl)) (fun _ _ _ h => h) (Or.inl ⟨by rfl, ?_⟩) hHeld ?_ ?_
   rotate_left; · rintro w' ⟨s0, s1, s2, s3⟩; go_simp; with_reducible rfl
   rotate_left; · simp only [Act.put, e1, e2, e3, i64_w, i32_w]; rfl
   refine take_ (i := 23) (N := some 111) (v := ?_) (a' := ?_) bb49_ rfl rfl (take_ofW HT_.out HW_.out (by kernel_rfl)) (fun _ _ _ h => h) (Or.inl ⟨by rfl, ?_⟩) hHeld ?_ ?_
   rotate_left; · rintro w' ⟨s0, s1, s2, s3⟩; go_simp; with_reducible rfl
   rotate_left; · simp only [Act.put, e1, e2, e3, i64_w, i32_w]; rfl
   refine take_ (i := 25) (N := some 113) (v := ?_) (a' := ?_) bb47_ rfl rfl (take_ofW HT_.out HW_.out (by kernel_rfl)) (fun _ _ _ h => h) (Or.inl ⟨by rfl, ?_⟩) hHeld ?_ ?_
   rotate_left; · rintro w' ⟨s0, s1, s2, s3⟩; go_simp; with_reducible rfl
   rotate_left; · simp only [Act.put, e1, e2, e3, i64_w, i32_w]; rfl
   refine take_ (i := 27) (N := some 115) (v := ?_) (a' := ?_) bb45_ rfl rfl (take_ofW HT_.out HW_.out (by kernel_rfl)) (fun _ _ _ h => h) (Or.inl ⟨by rfl, ?_⟩) hHeld ?_ ?_
   rotate_left; · rintro w' ⟨s0, s1, s2, s3⟩; go_simp; with_reducible rfl
   rotate_left; · simp only [Act.put, e1, e2, e3, i64_w, i32_w]; rfl
   refine one_ (i := 28) (N := some 116) bb43_ rfl rfl (one_of HT_.out (by kernel_rfl)) (by decide) (fun K hK => ?_)
   refine goes_ Try.func17 (by kernel_rfl) rfl #[.int .i64 (pP0.f4), .int .i64 (pP0.f5), .string (pP0.f3), .int .i64 (pP0.f6)] (by rfl) rfl rfl (by (try simp only [List.map_toArray, List.map_cons, List.map_nil]); first | done | rfl | (simp only [List.length_drop, List.length_take]; rfl)) ?_
   with_reducible refine (gangwayref20_Dirent.calls kj58 (pP0.f4) (pP0.f5) (pP0.f3) (pP0.f6) t478 _ A68.out).mono ?_
   rintro e w71 ⟨v479, rfl, ho0, hb⟩
   refine ⟨_, rfl, ?_⟩
   have n0_ := Aside0.mk (Kd.R_elder' (by (with_reducible repeat (first | apply Kd.R_alloc | apply Kd.R_drewN | apply Kd.R_drew)); exact HO477.out) (Kd.R_base ho0) hb)
   have n1_ := Aside0.mk (Kd.R_lower (Kd.R_new' ho0 (Kd.R_lt (by (with_reducible repeat (first | apply Kd.R_alloc | apply Kd.R_drewN | apply Kd.R_drew)); exact HO477.out))) (below_size (by repeat (first | (with_reducible first | exact HB.out | apply below_alloc | apply pw_below_drewN | apply below_drew1 | refine below_set ?_ GE443.out) | exact HB.out))))
   have n2_ := Aside0.mk (bbelow BK443 (by (with_reducible repeat (first | refine blk_drewN ?_ _ | refine blk_drew ?_ | refine blk_alloc ?_ _)); exact BK443.out) hb)
   have n3_ := Aside0.mk (below_step (by repeat (first | (with_reducible first | exact HB.out | apply below_alloc | apply pw_below_drewN | apply below_drew1 | refine below_set ?_ GE443.out) | exact HB.out)) hb)
   clear HO477
   clear BK443
   clear HB
   have HO477 := n0_
   have HO480 := n1_
   have BK443 := n2_
   have HB := n3_
   clear n0_ n1_ n2_ n3_
   (try clear hb)
   (try clear hb2)
   (try clear hk)
   (try clear hi)
   (try clear ho0)
   obtain ⟨Ao72, co72, eo72⟩ := Kd.R_slice HO477.out
   (first | subst eo72 | (injection eo72 with f1_ f2_ f3_; have f4_ := f1_.symm; have f5_ := f3_.symm; clear f1_ f2_ f3_; subst f4_; subst f5_))
   obtain ⟨Ao73, co73, eo73⟩ := Kd.R_slice HO480.out
   (first | subst eo73 | (injection eo73 with f1_ f2_ f3_; have f4_ := f1_.symm; have f5_ := f3_.symm; clear f1_ f2_ f3_; subst f4_; subst f5_))
   refine hK.out _ _ ⟨bc BK443 14, bc BK443 15, bc BK443 16, bc BK443 17⟩ (fun hHeld => ?_)
   clear hK K
   refine norm_ (a' := ?_) ?_ ?_
   rotate_left
   ·show Act.put _ (some 116) _ = _
    simp only [Act.put, e1, e2, e3, i64_w, i32_w]
    rfl
   refine one_ (i := 29) (N := some 117) bb41_ rfl rfl (one_of HT_.out (by kernel_rfl)) (by decide) (fun K hK => ?_)
   refine goes_ Try.func11 (by kernel_rfl) rfl #[.slice Ao72 t474.length co72, .int .i64 t475, .bool (decide ((pP0.f6) ≤ 3)), .slice Ao73 t478.length co73] (by rfl) rfl rfl (by (try simp only [List.map_toArray, List.map_cons, List.map_nil]); first | done | rfl | (simp only [List.length_drop, List.length_take]; rfl)) ?_
   with_reducible refine (gangwaylaw20_is.calls kj58 _ _ t474 t475 (decide ((pP0.f6) ≤ 3)) _ _ t478 t481 _ ?side1 ?side2 ?side3 ?side4 A69.out).mono ?_
   (case side1 => repeat (first | exact (Kd.R_reads' HO477.out).2.2 | (with_reducible refine Kd.C_alloc ?_ _) | (with_reducible refine Kd.C_drewN ?_ _) | (with_reducible refine Kd.C_drew ?_)))
   (case side2 => exact (Kd.R_reads' HO477.out).2.1)
   (case side3 => repeat (first | exact (Kd.R_reads' HO480.out).2.2 | (with_reducible refine Kd.C_alloc ?_ _) | (with_reducible refine Kd.C_drewN ?_ _) | (with_reducible refine Kd.C_drew ?_)))
   (case side4 => exact (Kd.R_reads' HO480.out).2.1)
   rintro e w' ⟨rfl, ⟨nd, rfl⟩⟩
   refine ⟨_, rfl, ?_⟩
   refine hK.out _ _ ⟨bc BK443 14, bc BK443 15, bc BK443 16, bc BK443 17⟩ (fun hHeld => ?_)
   clear hK K
   refine norm_ (a' := ?_) ?_ ?_
   rotate_left
   ·show Act.put _ (some 117) _ = _
    simp only [Act.put, e1, e2, e3, i64_w, i32_w]
    rfl
   refine pure_ (i := 30) (N := some 118) (v := ?_) (a' := ?_) bb39_ rfl rfl (any_of HT_.out (by kernel_rfl)) (fun _ _ _ h => h) (Or.inl ⟨by rfl, ?_⟩) ?_ ?_
   rotate_left; · intro w'; go_simp; with_reducible rfl
   rotate_left; · simp only [Act.put, e1, e2, e3, i64_w, i32_w]; rfl
   refine done_ (done_of HT_.out (by kernel_rfl)) ?_
   try go_wp2
   go_meet
   case rel => exact ⟨_, (!t481), (by first | rfl | (simp; done) | (simp [*]; done)), H', ⟨by have := HK1.out; have := HJ2.out; have := HJ4.out; have := HJ9.out; have := HJ18.out; have := HJ28.out; have := HJ58.out; first | omega | exact Nat.le_refl _⟩, ⟨by (with_reducible repeat (first | refine blk_drewN ?_ _ | refine blk_drew ?_ | refine blk_alloc ?_ _)); exact BK443.out⟩, ⟨by repeat (first | (with_reducible first | exact HB.out | apply below_alloc | apply pw_below_drewN | apply below_drew1 | refine below_set ?_ GE443.out) | exact HB.out)⟩⟩
  case rest =>
  as_aux_lemma =>
  clear HC62
  try clear c1
  try clear p2
  try clear c4
  try clear c6
  try clear c11
  try clear c17
  try clear c44
  try clear c65
  try clear c65b0
  try clear c66
  try clear c66b0
  obtain ⟨kq, x118_61, rfl, HA, HJ61, BK443, HB⟩ := hcut
  cases kq with
  | zero => exact absurd HA.out (by simp [j7])
  | succ kj61 =>
  have H := HA.out
  clear HA
  simp only [j7] at H
  have HC92 := Aside0.mk H
  clear H
  go_upto_if 118 with (fail)
  go_cut [] (fun wc => ∃ (kq : Nat), Aside0 (j8 kq l0 x3_1 (pP0.f0.f0) (pP0.f0.f1) (pP0.f0.f2) (pP0.f0.f3) (pP0.f0.f4) (pP0.f0.f5) (pP0.f0.f6) (pP0.f1.f0) (pP0.f1.f1) (pP0.f1.f2) (pP0.f1.f3) (pP0.f1.f4) (pP0.f1.f5) (pP0.f2) (pP0.f3) (pP0.f4) (pP0.f5) (pP0.f6) (pP0.f7.f0) (pP0.f7.f1) (pP0.f7.f2) (pP0.f7.f3) (pP0.f8) = some r) ∧ Aside0 (kq ≤ kj61) ∧ Aside0 (wc.heap[gb443]? = some (.cells #[.int .i64 (pP0.f0.f0), .int .i64 (pP0.f0.f1), .int .i64 (pP0.f0.f2), .int .i64 (pP0.f0.f3), .int .i64 (pP0.f0.f4), .int .i64 (pP0.f0.f5), .string (pP0.f0.f6), .int .i64 (pP0.f1.f0), (.slice A442_8 (pP0.f1.f1).length c442_8), (.slice A442_9 (pP0.f1.f2).length c442_9), .string (pP0.f1.f3), .int .i64 (pP0.f1.f4), .int .i64 (pP0.f1.f5), .int .i64 (pP0.f2), .string (pP0.f3), .int .i64 (pP0.f4), .int .i64 (pP0.f5), .int .i64 (pP0.f6), .int .i64 (pP0.f7.f0), .int .i64 (pP0.f7.f1), .int .i64 (pP0.f7.f2), .int .i64 (pP0.f7.f3), (.slice A442_22 (pP0.f8).length c442_22)] 35 (0, 0))) ∧ Aside0 (Below w.heap.size w wc))
  case first =>
   have H := HC92.out
   clear HC92
   by_cases c93 : x118_61 = true
   ·subst c93
    have H1 : (none) = some r := by rw [if_pos rfl] at H; exact H
    clear H
    have H := H1
    clear H1
    exact absurd H (by simp)
   replace c93 := Bool.eq_false_iff.mpr c93
   subst c93
   have H1 : (j8 kj61 l0 x3_1 (pP0.f0.f0) (pP0.f0.f1) (pP0.f0.f2) (pP0.f0.f3) (pP0.f0.f4) (pP0.f0.f5) (pP0.f0.f6) (pP0.f1.f0) (pP0.f1.f1) (pP0.f1.f2) (pP0.f1.f3) (pP0.f1.f4) (pP0.f1.f5) (pP0.f2) (pP0.f3) (pP0.f4) (pP0.f5) (pP0.f6) (pP0.f7.f0) (pP0.f7.f1) (pP0.f7.f2) (pP0.f7.f3) (pP0.f8)) = some r := by rw [if_neg (show ¬ (false = true) by decide)] at H; exact H
   clear H
   have H := H1
   clear H1
   have H' := Aside0.mk H
   clear H
   go_wp2
   go_meet
   case rel => exact ⟨_, H', ⟨by have := HK1.out; have := HJ2.out; have := HJ4.out; have := HJ9.out; have := HJ18.out; have := HJ28.out; have := HJ58.out; have := HJ61.out; first | omega | exact Nat.le_refl _⟩, ⟨by (with_reducible repeat (first | refine blk_drewN ?_ _ | refine blk_drew ?_ | refine blk_alloc ?_ _)); exact BK443.out⟩, ⟨by repeat (first | (with_reducible first | exact HB.out | apply below_alloc | apply pw_below_drewN | apply below_drew1 | refine below_set ?_ GE443.out) | exact HB.out)⟩⟩
  case rest =>
  as_aux_lemma =>
  clear HC92
  try clear c1
  try clear p2
  try clear c4
  try clear c6
  try clear c9
  try clear c11
  try clear c17
  try clear c44
  try clear c65
  try clear c65b0
  try clear c66
  try clear c66b0
  try clear c93
  try clear p2
  obtain ⟨kq, HA, HJ91, BK443, HB⟩ := hcut
  cases kq with
  | zero => exact absurd HA.out (by simp [j8])
  | succ kj91 =>
  have H := HA.out
  clear HA
  simp only [j8] at H
  replace H := Option.bind_eq_some_iff.mp H
  obtain ⟨⟨t494, t497⟩, A940, H⟩ := H
  replace H : ((gangwayref20_MayEvent.f (pP0.f7.f0) (pP0.f7.f1) (pP0.f7.f2) (pP0.f7.f3)).bind fun t498 => ((gangwayref20_Event.f kj91 (pP0.f7.f0) (pP0.f7.f1) (pP0.f7.f2) (pP0.f7.f3)).bind fun t499 => ((gangwaylaw20_is.f kj91 t494 t497 t498 t499).bind fun t502 => (if t502 = true then (j9 kj91 l0 x3_1 (pP0.f0.f0) (pP0.f0.f1) (pP0.f0.f2) (pP0.f0.f3) (pP0.f0.f4) (pP0.f0.f5) (pP0.f0.f6) (pP0.f1.f0) (pP0.f1.f1) (pP0.f1.f2) (pP0.f1.f3) (pP0.f1.f4) (pP0.f1.f5) (pP0.f2) (pP0.f3) (pP0.f4) (pP0.f5) (pP0.f6) (pP0.f7.f0) (pP0.f7.f1) (pP0.f7.f2) (pP0.f7.f3) (pP0.f8)) else (none))))) = some r := H
  have A94 := Aside0.mk A940
  clear A940
  replace H := Option.bind_eq_some_iff.mp H
  obtain ⟨t498, A950, H⟩ := H
  replace H : ((gangwayref20_Event.f kj91 (pP0.f7.f0) (pP0.f7.f1) (pP0.f7.f2) (pP0.f7.f3)).bind fun t499 => ((gangwaylaw20_is.f kj91 t494 t497 t498 t499).bind fun t502 => (if t502 = true then (j9 kj91 l0 x3_1 (pP0.f0.f0) (pP0.f0.f1) (pP0.f0.f2) (pP0.f0.f3) (pP0.f0.f4) (pP0.f0.f5) (pP0.f0.f6) (pP0.f1.f0) (pP0.f1.f1) (pP0.f1.f2) (pP0.f1.f3) (pP0.f1.f4) (pP0.f1.f5) (pP0.f2) (pP0.f3) (pP0.f4) (pP0.f5) (pP0.f6) (pP0.f7.f0) (pP0.f7.f1) (pP0.f7.f2) (pP0.f7.f3) (pP0.f8)) else (none)))) = some r := H
  have A95 := Aside0.mk A950
  clear A950
  replace H := Option.bind_eq_some_iff.mp H
  obtain ⟨t499, A960, H⟩ := H
  replace H : ((gangwaylaw20_is.f kj91 t494 t497 t498 t499).bind fun t502 => (if t502 = true then (j9 kj91 l0 x3_1 (pP0.f0.f0) (pP0.f0.f1) (pP0.f0.f2) (pP0.f0.f3) (pP0.f0.f4) (pP0.f0.f5) (pP0.f0.f6) (pP0.f1.f0) (pP0.f1.f1) (pP0.f1.f2) (pP0.f1.f3) (pP0.f1.f4) (pP0.f1.f5) (pP0.f2) (pP0.f3) (pP0.f4) (pP0.f5) (pP0.f6) (pP0.f7.f0) (pP0.f7.f1) (pP0.f7.f2) (pP0.f7.f3) (pP0.f8)) else (none))) = some r := H
  have A96 := Aside0.mk A960
  clear A960
  replace H := Option.bind_eq_some_iff.mp H
  obtain ⟨t502, A970, H⟩ := H
  replace H : (if t502 = true then (j9 kj91 l0 x3_1 (pP0.f0.f0) (pP0.f0.f1) (pP0.f0.f2) (pP0.f0.f3) (pP0.f0.f4) (pP0.f0.f5) (pP0.f0.f6) (pP0.f1.f0) (pP0.f1.f1) (pP0.f1.f2) (pP0.f1.f3) (pP0.f1.f4) (pP0.f1.f5) (pP0.f2) (pP0.f3) (pP0.f4) (pP0.f5) (pP0.f6) (pP0.f7.f0) (pP0.f7.f1) (pP0.f7.f2) (pP0.f7.f3) (pP0.f8)) else (none)) = some r := H
  have A97 := Aside0.mk A970
  clear A970
  have HC98 := Aside0.mk H
  clear H
  have hcz99_0 : wc.cell? ⟨gb443, 0, none⟩ = some (.int .i64 (pP0.f0.f0)) := bc BK443 0
  have hcz99_1 : wc.cell? ⟨gb443, 1, none⟩ = some (.int .i64 (pP0.f0.f1)) := bc BK443 1
  have hcz99_2 : wc.cell? ⟨gb443, 2, none⟩ = some (.int .i64 (pP0.f0.f2)) := bc BK443 2
  have hcz99_3 : wc.cell? ⟨gb443, 3, none⟩ = some (.int .i64 (pP0.f0.f3)) := bc BK443 3
  have hcz99_4 : wc.cell? ⟨gb443, 4, none⟩ = some (.int .i64 (pP0.f0.f4)) := bc BK443 4
  have hcz99_5 : wc.cell? ⟨gb443, 5, none⟩ = some (.int .i64 (pP0.f0.f5)) := bc BK443 5
  have hcz99_6 : wc.cell? ⟨gb443, 6, none⟩ = some (.string (pP0.f0.f6)) := bc BK443 6
  have hcz99_7 : wc.cell? ⟨gb443, 7, none⟩ = some (.int .i64 (pP0.f1.f0)) := bc BK443 7
  have hcz99_8 : wc.cell? ⟨gb443, 8, none⟩ = some (.slice A442_8 (pP0.f1.f1).length c442_8) := bc BK443 8
  have hcz99_9 : wc.cell? ⟨gb443, 9, none⟩ = some (.slice A442_9 (pP0.f1.f2).length c442_9) := bc BK443 9
  have hcz99_10 : wc.cell? ⟨gb443, 10, none⟩ = some (.string (pP0.f1.f3)) := bc BK443 10
  have hcz99_11 : wc.cell? ⟨gb443, 11, none⟩ = some (.int .i64 (pP0.f1.f4)) := bc BK443 11
  have hcz99_12 : wc.cell? ⟨gb443, 12, none⟩ = some (.int .i64 (pP0.f1.f5)) := bc BK443 12
  have hcz99_13 : wc.cell? ⟨gb443, 13, none⟩ = some (.int .i64 (pP0.f2)) := bc BK443 13
  have hcz99_14 : wc.cell? ⟨gb443, 14, none⟩ = some (.string (pP0.f3)) := bc BK443 14
  have hcz99_15 : wc.cell? ⟨gb443, 15, none⟩ = some (.int .i64 (pP0.f4)) := bc BK443 15
  have hcz99_16 : wc.cell? ⟨gb443, 16, none⟩ = some (.int .i64 (pP0.f5)) := bc BK443 16
  have hcz99_17 : wc.cell? ⟨gb443, 17, none⟩ = some (.int .i64 (pP0.f6)) := bc BK443 17
  have hcz99_18 : wc.cell? ⟨gb443, 18, none⟩ = some (.int .i64 (pP0.f7.f0)) := bc BK443 18
  have hcz99_19 : wc.cell? ⟨gb443, 19, none⟩ = some (.int .i64 (pP0.f7.f1)) := bc BK443 19
  have hcz99_20 : wc.cell? ⟨gb443, 20, none⟩ = some (.int .i64 (pP0.f7.f2)) := bc BK443 20
  have hcz99_21 : wc.cell? ⟨gb443, 21, none⟩ = some (.int .i64 (pP0.f7.f3)) := bc BK443 21
  try go_wp2_with (first | ((with_reducible refine gate_callee (f := 10) rfl ?_); refine goesL_ (some 122) rfl rfl Try.func10 (by kernel_rfl) rfl #[.agg #[.int .i64 (pP0.f7.f0), .int .i64 (pP0.f7.f1), .int .i64 (pP0.f7.f2), .int .i64 (pP0.f7.f3)]] rfl (by (try simp only [List.map_toArray, List.map_cons, List.map_nil]); first | done | rfl | (simp only [List.length_drop, List.length_take]; rfl)) ?_; (with_reducible refine (stat_Event.calls kj91 (pP0.f7.f0) (pP0.f7.f1) (pP0.f7.f2) (pP0.f7.f3) t494 t497 _ A94.out).mono ?_); rintro e w100 ⟨v495, rfl, ho0, hb⟩; refine ⟨_, rfl, ?_⟩; have n0_ := Aside0.mk (Kd.R_lower ho0 (below_size (by repeat (first | (with_reducible first | exact HB.out | apply below_alloc | apply pw_below_drewN | apply below_drew1 | refine below_set ?_ GE443.out) | exact HB.out)))); have n1_ := Aside0.mk (bbelow BK443 (by (with_reducible repeat (first | refine blk_drewN ?_ _ | refine blk_drew ?_ | refine blk_alloc ?_ _)); exact BK443.out) hb); have n2_ := Aside0.mk (below_step (by repeat (first | (with_reducible first | exact HB.out | apply below_alloc | apply pw_below_drewN | apply below_drew1 | refine below_set ?_ GE443.out) | exact HB.out)) hb); clear BK443; clear HB; have HO496 := n0_; have BK443 := n1_; have HB := n2_; clear n0_ n1_ n2_; (try clear hb); (try clear hb2); (try clear hk); (try clear hi); (try clear ho0)))
  have n0_ := Aside0.mk (Kd.R_drew HO496.out)
  have n1_ := Aside0.mk (blk_drew BK443.out)
  have n2_ := Aside0.mk (below_drew1 HB.out)
  clear HO496
  clear BK443
  clear HB
  have HO496 := n0_
  have BK443 := n1_
  have HB := n2_
  clear n0_ n1_ n2_
  refine start_ (n := 10) (S := fun w' => w'.cell? ⟨gb443, 18, none⟩ = some (.int .i64 (pP0.f7.f0)) ∧ w'.cell? ⟨gb443, 19, none⟩ = some (.int .i64 (pP0.f7.f1)) ∧ w'.cell? ⟨gb443, 20, none⟩ = some (.int .i64 (pP0.f7.f2)) ∧ w'.cell? ⟨gb443, 21, none⟩ = some (.int .i64 (pP0.f7.f3))) (ds := []) bb10_ (by kernel_rfl) rfl rfl ⟨bc BK443 18, bc BK443 19, bc BK443 20, bc BK443 21⟩ (fun hHeld => ?_); refine with_tabW gangwaylaw20_StatExact.tab17 gangwaylaw20_StatExact.bits17 (fun HT_ HW_ => ?_)
  generalize w100.drew = w101 at HO496 BK443 HB hHeld ⊢
  refine pure_ (i := 0) (N := some 125) (v := ?_) (a' := ?_) bb9_ rfl rfl (any_of HT_.out (by kernel_rfl)) (fun _ _ _ h => h) (Or.inl ⟨by rfl, ?_⟩) ?_ ?_
  rotate_left; · intro w'; go_simp; with_reducible rfl
  rotate_left; · simp only [Act.put, e1, e2, e3, i64_w, i32_w]; rfl
  refine pure_ (i := 1) (N := some 126) (v := ?_) (a' := ?_) bb8_ rfl rfl (any_of HT_.out (by kernel_rfl)) (fun _ _ _ h => h) (Or.inl ⟨by rfl, ?_⟩) ?_ ?_
  rotate_left; · intro w'; go_simp; with_reducible rfl
  rotate_left; · simp only [Act.put, e1, e2, e3, i64_w, i32_w]; rfl
  refine pure_ (i := 2) (N := some 127) (v := ?_) (a' := ?_) bb7_ rfl rfl (any_of HT_.out (by kernel_rfl)) (fun _ _ _ h => h) (Or.inl ⟨by rfl, ?_⟩) ?_ ?_
  rotate_left; · intro w'; go_simp; with_reducible rfl
  rotate_left; · simp only [Act.put, e1, e2, e3, i64_w, i32_w]; rfl
  refine pure_ (i := 5) (N := some 130) (v := ?_) (a' := ?_) bb6_ rfl rfl (any_of HT_.out (by kernel_rfl)) (fun _ _ _ h => h) (Or.inl ⟨by rfl, ?_⟩) ?_ ?_
  rotate_left; · intro w'; go_simp; with_reducible rfl
  rotate_left; · simp only [Act.put, e1, e2, e3, i64_w, i32_w]; rfl
  refine take_ (i := 3) (N := some 128) (v := ?_) (a' := ?_) bb5_ rfl rfl (take_ofW HT_.out HW_.out (by kernel_rfl)) (fun _ _ _ h => h) (Or.inl ⟨by rfl, ?_⟩) hHeld ?_ ?_
  rotate_left; · rintro w' ⟨s0, s1, s2, s3⟩; go_simp; with_reducible rfl
  rotate_left; · simp only [Act.put, e1, e2, e3, i64_w, i32_w]; rfl
  refine take_ (i := 6) (N := some 131) (v := ?_) (a' := ?_) bb4_ rfl rfl (take_ofW HT_.out HW_.out (by kernel_rfl)) (fun _ _ _ h => h) (Or.inl ⟨by rfl, ?_⟩) hHeld ?_ ?_
  rotate_left; · rintro w' ⟨s0, s1, s2, s3⟩; go_simp; with_reducible rfl
  rotate_left; · simp only [Act.put, e1, e2, e3, i64_w, i32_w]; rfl
  refine one_ (i := 4) (N := some 129) bb3_ rfl rfl (one_of HT_.out (by kernel_rfl)) (by decide) (fun K hK => ?_)
  refine goes_ Try.func12 (by kernel_rfl) rfl #[.agg #[.int .i64 (pP0.f7.f0), .int .i64 (pP0.f7.f1), .int .i64 (pP0.f7.f2), .int .i64 (pP0.f7.f3)]] (by rfl) rfl rfl (by (try simp only [List.map_toArray, List.map_cons, List.map_nil]); first | done | rfl | (simp only [List.length_drop, List.length_take]; rfl)) ?_
  with_reducible refine (gangwayref20_MayEvent.calls (pP0.f7.f0) (pP0.f7.f1) (pP0.f7.f2) (pP0.f7.f3) t498 _ A95.out).mono ?_
  rintro e w102 ⟨rfl, hb⟩
  refine ⟨_, rfl, ?_⟩
  have n0_ := Aside0.mk (Kd.R_below (by (with_reducible repeat (first | apply Kd.R_alloc | apply Kd.R_drewN | apply Kd.R_drew)); exact HO496.out) hb)
  have n1_ := Aside0.mk (bbelow BK443 (by (with_reducible repeat (first | refine blk_drewN ?_ _ | refine blk_drew ?_ | refine blk_alloc ?_ _)); exact BK443.out) hb)
  have n2_ := Aside0.mk (below_step (by repeat (first | (with_reducible first | exact HB.out | apply below_alloc | apply pw_below_drewN | apply below_drew1 | refine below_set ?_ GE443.out) | exact HB.out)) hb)
  clear HO496
  clear BK443
  clear HB
  have HO496 := n0_
  have BK443 := n1_
  have HB := n2_
  clear n0_ n1_ n2_
  (try clear hb)
  (try clear hb2)
  (try clear hk)
  (try clear hi)
  refine hK.out _ _ ⟨bc BK443 18, bc BK443 19, bc BK443 20, bc BK443 21⟩ (fun hHeld => ?_)
  clear hK K
  refine norm_ (a' := ?_) ?_ ?_
  rotate_left
  ·show Act.put _ (some 129) _ = _
   simp only [Act.put, e1, e2, e3, i64_w, i32_w]
   rfl
  refine one_ (i := 7) (N := some 132) bb2_ rfl rfl (one_of HT_.out (by kernel_rfl)) (by decide) (fun K hK => ?_)
  refine goes_ Try.func13 (by kernel_rfl) rfl #[.agg #[.int .i64 (pP0.f7.f0), .int .i64 (pP0.f7.f1), .int .i64 (pP0.f7.f2), .int .i64 (pP0.f7.f3)]] (by rfl) rfl rfl (by (try simp only [List.map_toArray, List.map_cons, List.map_nil]); first | done | rfl | (simp only [List.length_drop, List.length_take]; rfl)) ?_
  with_reducible refine (gangwayref20_Event.calls kj91 (pP0.f7.f0) (pP0.f7.f1) (pP0.f7.f2) (pP0.f7.f3) t499 _ A96.out).mono ?_
  rintro e w103 ⟨v500, rfl, ho0, hb⟩
  refine ⟨_, rfl, ?_⟩
  have n0_ := Aside0.mk (Kd.R_elder' (by (with_reducible repeat (first | apply Kd.R_alloc | apply Kd.R_drewN | apply Kd.R_drew)); exact HO496.out) (Kd.R_base ho0) hb)
  have n1_ := Aside0.mk (Kd.R_lower (Kd.R_new' ho0 (Kd.R_lt (by (with_reducible repeat (first | apply Kd.R_alloc | apply Kd.R_drewN | apply Kd.R_drew)); exact HO496.out))) (below_size (by repeat (first | (with_reducible first | exact HB.out | apply below_alloc | apply pw_below_drewN | apply below_drew1 | refine below_set ?_ GE443.out) | exact HB.out))))
  have n2_ := Aside0.mk (bbelow BK443 (by (with_reducible repeat (first | refine blk_drewN ?_ _ | refine blk_drew ?_ | refine blk_alloc ?_ _)); exact BK443.out) hb)
  have n3_ := Aside0.mk (below_step (by repeat (first | (with_reducible first | exact HB.out | apply below_alloc | apply pw_below_drewN | apply below_drew1 | refine below_set ?_ GE443.out) | exact HB.out)) hb)
  clear HO496
  clear BK443
  clear HB
  have HO496 := n0_
  have HO501 := n1_
  have BK443 := n2_
  have HB := n3_
  clear n0_ n1_ n2_ n3_
  (try clear hb)
  (try clear hb2)
  (try clear hk)
  (try clear hi)
  (try clear ho0)
  obtain ⟨Ao104, co104, eo104⟩ := Kd.R_slice HO496.out
  (first | subst eo104 | (injection eo104 with f1_ f2_ f3_; have f4_ := f1_.symm; have f5_ := f3_.symm; clear f1_ f2_ f3_; subst f4_; subst f5_))
  obtain ⟨Ao105, co105, eo105⟩ := Kd.R_slice HO501.out
  (first | subst eo105 | (injection eo105 with f1_ f2_ f3_; have f4_ := f1_.symm; have f5_ := f3_.symm; clear f1_ f2_ f3_; subst f4_; subst f5_))
  refine hK.out _ _ ⟨bc BK443 18, bc BK443 19, bc BK443 20, bc BK443 21⟩ (fun hHeld => ?_)
  clear hK K
  refine norm_ (a' := ?_) ?_ ?_
  rotate_left
  ·show Act.put _ (some 132) _ = _
   simp only [Act.put, e1, e2, e3, i64_w, i32_w]
   rfl
  refine one_ (i := 8) (N := some 133) bb1_ rfl rfl (one_of HT_.out (by kernel_rfl)) (by decide) (fun K hK => ?_)
  refine goes_ Try.func11 (by kernel_rfl) rfl #[.slice Ao104 t494.length co104, .int .i64 t497, .bool t498, .slice Ao105 t499.length co105] (by rfl) rfl rfl (by (try simp only [List.map_toArray, List.map_cons, List.map_nil]); first | done | rfl | (simp only [List.length_drop, List.length_take]; rfl)) ?_
  with_reducible refine (gangwaylaw20_is.calls kj91 _ _ t494 t497 t498 _ _ t499 t502 _ ?side1 ?side2 ?side3 ?side4 A97.out).mono ?_
  (case side1 => repeat (first | exact (Kd.R_reads' HO496.out).2.2 | (with_reducible refine Kd.C_alloc ?_ _) | (with_reducible refine Kd.C_drewN ?_ _) | (with_reducible refine Kd.C_drew ?_)))
  (case side2 => exact (Kd.R_reads' HO496.out).2.1)
  (case side3 => repeat (first | exact (Kd.R_reads' HO501.out).2.2 | (with_reducible refine Kd.C_alloc ?_ _) | (with_reducible refine Kd.C_drewN ?_ _) | (with_reducible refine Kd.C_drew ?_)))
  (case side4 => exact (Kd.R_reads' HO501.out).2.1)
  rintro e w' ⟨rfl, ⟨nd, rfl⟩⟩
  refine ⟨_, rfl, ?_⟩
  refine hK.out _ _ ⟨bc BK443 18, bc BK443 19, bc BK443 20, bc BK443 21⟩ (fun hHeld => ?_)
  clear hK K
  refine norm_ (a' := ?_) ?_ ?_
  rotate_left
  ·show Act.put _ (some 133) _ = _
   simp only [Act.put, e1, e2, e3, i64_w, i32_w]
   rfl
  refine pure_ (i := 9) (N := some 134) (v := ?_) (a' := ?_) bb0_ rfl rfl (any_of HT_.out (by kernel_rfl)) (fun _ _ _ h => h) (Or.inl ⟨by rfl, ?_⟩) ?_ ?_
  rotate_left; · intro w'; go_simp; with_reducible rfl
  rotate_left; · simp only [Act.put, e1, e2, e3, i64_w, i32_w]; rfl
  refine done_ (done_of HT_.out (by kernel_rfl)) ?_
  go_upto_if 134 with (fail)
  go_cut [] (fun wc => ∃ (kq : Nat), Aside0 (j9 kq l0 x3_1 (pP0.f0.f0) (pP0.f0.f1) (pP0.f0.f2) (pP0.f0.f3) (pP0.f0.f4) (pP0.f0.f5) (pP0.f0.f6) (pP0.f1.f0) (pP0.f1.f1) (pP0.f1.f2) (pP0.f1.f3) (pP0.f1.f4) (pP0.f1.f5) (pP0.f2) (pP0.f3) (pP0.f4) (pP0.f5) (pP0.f6) (pP0.f7.f0) (pP0.f7.f1) (pP0.f7.f2) (pP0.f7.f3) (pP0.f8) = some r) ∧ Aside0 (kq ≤ kj91) ∧ Aside0 (wc.heap[gb443]? = some (.cells #[.int .i64 (pP0.f0.f0), .int .i64 (pP0.f0.f1), .int .i64 (pP0.f0.f2), .int .i64 (pP0.f0.f3), .int .i64 (pP0.f0.f4), .int .i64 (pP0.f0.f5), .string (pP0.f0.f6), .int .i64 (pP0.f1.f0), (.slice A442_8 (pP0.f1.f1).length c442_8), (.slice A442_9 (pP0.f1.f2).length c442_9), .string (pP0.f1.f3), .int .i64 (pP0.f1.f4), .int .i64 (pP0.f1.f5), .int .i64 (pP0.f2), .string (pP0.f3), .int .i64 (pP0.f4), .int .i64 (pP0.f5), .int .i64 (pP0.f6), .int .i64 (pP0.f7.f0), .int .i64 (pP0.f7.f1), .int .i64 (pP0.f7.f2), .int .i64 (pP0.f7.f3), (.slice A442_22 (pP0.f8).length c442_22)] 35 (0, 0))) ∧ Aside0 (Below w.heap.size w wc))
  case first =>
   have H := HC98.out
   clear HC98
   by_cases c106 : t502 = true
   rotate_left
   ·replace c106 := Bool.eq_false_iff.mpr c106
    subst c106
    have H1 : (none) = some r := by rw [if_neg (show ¬ (false = true) by decide)] at H; exact H
    clear H
    have H := H1
    clear H1
    exact absurd H (by simp)
   subst c106
   have H1 : (j9 kj91 l0 x3_1 (pP0.f0.f0) (pP0.f0.f1) (pP0.f0.f2) (pP0.f0.f3) (pP0.f0.f4) (pP0.f0.f5) (pP0.f0.f6) (pP0.f1.f0) (pP0.f1.f1) (pP0.f1.f2) (pP0.f1.f3) (pP0.f1.f4) (pP0.f1.f5) (pP0.f2) (pP0.f3) (pP0.f4) (pP0.f5) (pP0.f6) (pP0.f7.f0) (pP0.f7.f1) (pP0.f7.f2) (pP0.f7.f3) (pP0.f8)) = some r := by rw [if_pos rfl] at H; exact H
   clear H
   have H := H1
   clear H1
   have H' := Aside0.mk H
   clear H
   go_wp2
   go_meet
   case rel => exact ⟨_, H', ⟨by have := HK1.out; have := HJ2.out; have := HJ4.out; have := HJ9.out; have := HJ18.out; have := HJ28.out; have := HJ58.out; have := HJ61.out; have := HJ91.out; first | omega | exact Nat.le_refl _⟩, ⟨by (with_reducible repeat (first | refine blk_drewN ?_ _ | refine blk_drew ?_ | refine blk_alloc ?_ _)); exact BK443.out⟩, ⟨by repeat (first | (with_reducible first | exact HB.out | apply below_alloc | apply pw_below_drewN | apply below_drew1 | refine below_set ?_ GE443.out) | exact HB.out)⟩⟩
  case rest =>
  as_aux_lemma =>
  clear HC98
  try clear c1
  try clear p2
  try clear c4
  try clear c6
  try clear c9
  try clear c10
  try clear c11
  try clear c12
  try clear c13
  try clear c17
  try clear c44
  try clear c65
  try clear c65b0
  try clear c66
  try clear c66b0
  try clear c93
  try clear c106
  try clear hcz99_0
  try clear hcz99_1
  try clear hcz99_10
  try clear hcz99_11
  try clear hcz99_12
  try clear hcz99_13
  try clear hcz99_14
  try clear hcz99_15
  try clear hcz99_16
  try clear hcz99_17
  try clear hcz99_18
  try clear hcz99_19
  try clear hcz99_2
  try clear hcz99_20
  try clear hcz99_21
  try clear hcz99_3
  try clear hcz99_4
  try clear hcz99_5
  try clear hcz99_6
  try clear hcz99_7
  try clear hcz99_8
  try clear hcz99_9
  try clear p2
  obtain ⟨kq, HA, HJ97, BK443, HB⟩ := hcut
  cases kq with
  | zero => exact absurd HA.out (by simp [j9])
  | succ kj97 =>
  have H := HA.out
  clear HA
  simp only [j9] at H
  have HC107 := Aside0.mk H
  clear H
  go_upto_region 19 with (fail)
  go_cut [148] (fun v148 wc => ∃ (kq : Nat) (x148_106 : Bool), v148 = .bool x148_106 ∧ Aside0 (j10 kq l0 x3_1 x148_106 = some r) ∧ Aside0 (kq ≤ kj97) ∧ Aside0 (wc.heap[gb443]? = some (.cells #[.int .i64 (pP0.f0.f0), .int .i64 (pP0.f0.f1), .int .i64 (pP0.f0.f2), .int .i64 (pP0.f0.f3), .int .i64 (pP0.f0.f4), .int .i64 (pP0.f0.f5), .string (pP0.f0.f6), .int .i64 (pP0.f1.f0), (.slice A442_8 (pP0.f1.f1).length c442_8), (.slice A442_9 (pP0.f1.f2).length c442_9), .string (pP0.f1.f3), .int .i64 (pP0.f1.f4), .int .i64 (pP0.f1.f5), .int .i64 (pP0.f2), .string (pP0.f3), .int .i64 (pP0.f4), .int .i64 (pP0.f5), .int .i64 (pP0.f6), .int .i64 (pP0.f7.f0), .int .i64 (pP0.f7.f1), .int .i64 (pP0.f7.f2), .int .i64 (pP0.f7.f3), (.slice A442_22 (pP0.f8).length c442_22)] 35 (0, 0))) ∧ Aside0 (Below w.heap.size w wc))
  case first =>
   have H := HC107.out
   clear HC107
   replace H := Option.bind_eq_some_iff.mp H
   obtain ⟨t503, A1080, H⟩ := H
   replace H : ((gangwayref20_Prestat.f kj97 (pP0.f3)).bind fun t506 => ((gangwayref0_EqBytes.f kj97 t503 t506).bind fun t509 => (if t509 = true then ((stat_Stream.f kj97).bind fun t510 => ((gangwayref20_Stream.f).bind fun t513 => ((gangwayref0_EqBytes.f kj97 t510 t513).bind fun t516 => (j10 kj97 l0 x3_1 (!t516))))) else (none)))) = some r := H
   have A108 := Aside0.mk A1080
   clear A1080
   replace H := Option.bind_eq_some_iff.mp H
   obtain ⟨t506, A1090, H⟩ := H
   replace H : ((gangwayref0_EqBytes.f kj97 t503 t506).bind fun t509 => (if t509 = true then ((stat_Stream.f kj97).bind fun t510 => ((gangwayref20_Stream.f).bind fun t513 => ((gangwayref0_EqBytes.f kj97 t510 t513).bind fun t516 => (j10 kj97 l0 x3_1 (!t516))))) else (none))) = some r := H
   have A109 := Aside0.mk A1090
   clear A1090
   replace H := Option.bind_eq_some_iff.mp H
   obtain ⟨t509, A1100, H⟩ := H
   replace H : (if t509 = true then ((stat_Stream.f kj97).bind fun t510 => ((gangwayref20_Stream.f).bind fun t513 => ((gangwayref0_EqBytes.f kj97 t510 t513).bind fun t516 => (j10 kj97 l0 x3_1 (!t516))))) else (none)) = some r := H
   have A110 := Aside0.mk A1100
   clear A1100
   by_cases c111 : t509 = true
   rotate_left
   ·replace c111 := Bool.eq_false_iff.mpr c111
    subst c111
    have H1 : (none) = some r := by rw [if_neg (show ¬ (false = true) by decide)] at H; exact H
    clear H
    have H := H1
    clear H1
    exact absurd H (by simp)
   as_aux_lemma =>
   subst c111
   have H1 : ((stat_Stream.f kj97).bind fun t510 => ((gangwayref20_Stream.f).bind fun t513 => ((gangwayref0_EqBytes.f kj97 t510 t513).bind fun t516 => (j10 kj97 l0 x3_1 (!t516))))) = some r := by rw [if_pos rfl] at H; exact H
   clear H
   have H := H1
   clear H1
   replace H := Option.bind_eq_some_iff.mp H
   obtain ⟨t510, A1120, H⟩ := H
   replace H : ((gangwayref20_Stream.f).bind fun t513 => ((gangwayref0_EqBytes.f kj97 t510 t513).bind fun t516 => (j10 kj97 l0 x3_1 (!t516)))) = some r := H
   have A112 := Aside0.mk A1120
   clear A1120
   replace H := Option.bind_eq_some_iff.mp H
   obtain ⟨t513, A1130, H⟩ := H
   replace H : ((gangwayref0_EqBytes.f kj97 t510 t513).bind fun t516 => (j10 kj97 l0 x3_1 (!t516))) = some r := H
   have A113 := Aside0.mk A1130
   clear A1130
   replace H := Option.bind_eq_some_iff.mp H
   obtain ⟨t516, A1140, H⟩ := H
   replace H : (j10 kj97 l0 x3_1 (!t516)) = some r := H
   have A114 := Aside0.mk A1140
   clear A1140
   have H' := Aside0.mk H
   clear H
   try go_wp2
   have n0_ := Aside0.mk (blk_drew BK443.out)
   have n1_ := Aside0.mk (below_drew1 HB.out)
   clear BK443
   clear HB
   have BK443 := n0_
   have HB := n1_
   clear n0_ n1_
   refine start_ (n := 14) (S := fun w' => w'.cell? ⟨gb443, 14, none⟩ = some (.string (pP0.f3))) (ds := []) bb25_ (by kernel_rfl) rfl rfl ((bc BK443 14)) (fun hHeld => ?_); refine with_tabW gangwaylaw20_StatExact.tab19 gangwaylaw20_StatExact.bits19 (fun HT_ HW_ => ?_)
   generalize wc.drew = w115 at BK443 HB hHeld ⊢
   refine pure_ (i := 0) (N := some 135) (v := ?_) (a' := ?_) bb24_ rfl rfl (any_of HT_.out (by kernel_rfl)) (fun _ _ _ h => h) (Or.inl ⟨by rfl, ?_⟩) ?_ ?_
   rotate_left; · intro w'; go_simp; with_reducible rfl
   rotate_left; · simp only [Act.put, e1, e2, e3, i64_w, i32_w]; rfl
   refine pure_ (i := 3) (N := some 138) (v := ?_) (a' := ?_) bb23_ rfl rfl (any_of HT_.out (by kernel_rfl)) (fun _ _ _ h => h) (Or.inl ⟨by rfl, ?_⟩) ?_ ?_
   rotate_left; · intro w'; go_simp; with_reducible rfl
   rotate_left; · simp only [Act.put, e1, e2, e3, i64_w, i32_w]; rfl
   refine take_ (i := 1) (N := some 136) (v := ?_) (a' := ?_) bb22_ rfl rfl (take_ofW HT_.out HW_.out (by kernel_rfl)) (fun _ _ _ h => h) (Or.inl ⟨by rfl, ?_⟩) hHeld ?_ ?_
   rotate_left; · intro w' s0; go_simp; with_reducible rfl
   rotate_left; · simp only [Act.put, e1, e2, e3, i64_w, i32_w]; rfl
   refine take_ (i := 4) (N := some 139) (v := ?_) (a' := ?_) bb21_ rfl rfl (take_ofW HT_.out HW_.out (by kernel_rfl)) (fun _ _ _ h => h) (Or.inl ⟨by rfl, ?_⟩) hHeld ?_ ?_
   rotate_left; · intro w' s0; go_simp; with_reducible rfl
   rotate_left; · simp only [Act.put, e1, e2, e3, i64_w, i32_w]; rfl
   refine one_ (i := 2) (N := some 137) bb20_ rfl rfl (one_of HT_.out (by kernel_rfl)) (by decide) (fun K hK => ?_)
   refine goes_ Try.func27 (by kernel_rfl) rfl #[.string (pP0.f3)] (by rfl) rfl rfl (by (try simp only [List.map_toArray, List.map_cons, List.map_nil]); first | done | rfl | (simp only [List.length_drop, List.length_take]; rfl)) ?_
   with_reducible refine (stat_Prestat.calls kj97 (pP0.f3) t503 _ A108.out).mono ?_
   rintro e w116 ⟨v504, rfl, ho0, hb⟩
   refine ⟨_, rfl, ?_⟩
   have n0_ := Aside0.mk (Kd.R_lower ho0 (below_size (by repeat (first | (with_reducible first | exact HB.out | apply below_alloc | apply pw_below_drewN | apply below_drew1 | refine below_set ?_ GE443.out) | exact HB.out))))
   have n1_ := Aside0.mk (bbelow BK443 (by (with_reducible repeat (first | refine blk_drewN ?_ _ | refine blk_drew ?_ | refine blk_alloc ?_ _)); exact BK443.out) hb)
   have n2_ := Aside0.mk (below_step (by repeat (first | (with_reducible first | exact HB.out | apply below_alloc | apply pw_below_drewN | apply below_drew1 | refine below_set ?_ GE443.out) | exact HB.out)) hb)
   clear BK443
   clear HB
   have HO505 := n0_
   have BK443 := n1_
   have HB := n2_
   clear n0_ n1_ n2_
   (try clear hb)
   (try clear hb2)
   (try clear hk)
   (try clear hi)
   (try clear ho0)
   refine hK.out _ _ ((bc BK443 14)) (fun hHeld => ?_)
   clear hK K
   refine norm_ (a' := ?_) ?_ ?_
   rotate_left
   ·show Act.put _ (some 137) _ = _
    simp only [Act.put, e1, e2, e3, i64_w, i32_w]
    rfl
   refine one_ (i := 5) (N := some 140) bb19_ rfl rfl (one_of HT_.out (by kernel_rfl)) (by decide) (fun K hK => ?_)
   refine goes_ Try.func28 (by kernel_rfl) rfl #[.string (pP0.f3)] (by rfl) rfl rfl (by (try simp only [List.map_toArray, List.map_cons, List.map_nil]); first | done | rfl | (simp only [List.length_drop, List.length_take]; rfl)) ?_
   with_reducible refine (gangwayref20_Prestat.calls kj97 (pP0.f3) t506 _ A109.out).mono ?_
   rintro e w117 ⟨v507, rfl, ho0, hb⟩
   refine ⟨_, rfl, ?_⟩
   have n0_ := Aside0.mk (Kd.R_elder' (by (with_reducible repeat (first | apply Kd.R_alloc | apply Kd.R_drewN | apply Kd.R_drew)); exact HO505.out) (Kd.R_base ho0) hb)
   have n1_ := Aside0.mk (Kd.R_lower (Kd.R_new' ho0 (Kd.R_lt (by (with_reducible repeat (first | apply Kd.R_alloc | apply Kd.R_drewN | apply Kd.R_drew)); exact HO505.out))) (below_size (by repeat (first | (with_reducible first | exact HB.out | apply below_alloc | apply pw_below_drewN | apply below_drew1 | refine below_set ?_ GE443.out) | exact HB.out))))
   have n2_ := Aside0.mk (bbelow BK443 (by (with_reducible repeat (first | refine blk_drewN ?_ _ | refine blk_drew ?_ | refine blk_alloc ?_ _)); exact BK443.out) hb)
   have n3_ := Aside0.mk (below_step (by repeat (first | (with_reducible first | exact HB.out | apply below_alloc | apply pw_below_drewN | apply below_drew1 | refine below_set ?_ GE443.out) | exact HB.out)) hb)
   clear HO505
   clear BK443
   clear HB
   have HO505 := n0_
   have HO508 := n1_
   have BK443 := n2_
   have HB := n3_
   clear n0_ n1_ n2_ n3_
   (try clear hb)
   (try clear hb2)
   (try clear hk)
   (try clear hi)
   (try clear ho0)
   obtain ⟨Ao118, co118, eo118⟩ := Kd.R_slice HO505.out
   (first | subst eo118 | (injection eo118 with f1_ f2_ f3_; have f4_ := f1_.symm; have f5_ := f3_.symm; clear f1_ f2_ f3_; subst f4_; subst f5_))
   obtain ⟨Ao119, co119, eo119⟩ := Kd.R_slice HO508.out
   (first | subst eo119 | (injection eo119 with f1_ f2_ f3_; have f4_ := f1_.symm; have f5_ := f3_.symm; clear f1_ f2_ f3_; subst f4_; subst f5_))
   refine hK.out _ _ ((bc BK443 14)) (fun hHeld => ?_)
   clear hK K
   refine norm_ (a' := ?_) ?_ ?_
   rotate_left
   ·show Act.put _ (some 140) _ = _
    simp only [Act.put, e1, e2, e3, i64_w, i32_w]
    rfl
   refine one_ (i := 6) (N := some 141) bb18_ rfl rfl (one_of HT_.out (by kernel_rfl)) (by decide) (fun K hK => ?_)
   refine goes_ Try.func26 (by kernel_rfl) rfl #[.slice Ao118 t503.length co118, .slice Ao119 t506.length co119] (by rfl) rfl rfl (by (try simp only [List.map_toArray, List.map_cons, List.map_nil]); first | done | rfl | (simp only [List.length_drop, List.length_take]; rfl)) ?_
   with_reducible refine (gangwayref0_EqBytes.calls kj97 _ _ t503 _ _ t506 true _ ?side1 ?side2 ?side3 ?side4 A110.out).mono ?_
   (case side1 => repeat (first | exact (Kd.R_reads' HO505.out).2.2 | (with_reducible refine Kd.C_alloc ?_ _) | (with_reducible refine Kd.C_drewN ?_ _) | (with_reducible refine Kd.C_drew ?_)))
   (case side2 => exact (Kd.R_reads' HO505.out).2.1)
   (case side3 => repeat (first | exact (Kd.R_reads' HO508.out).2.2 | (with_reducible refine Kd.C_alloc ?_ _) | (with_reducible refine Kd.C_drewN ?_ _) | (with_reducible refine Kd.C_drew ?_)))
   (case side4 => exact (Kd.R_reads' HO508.out).2.1)
   rintro e w' ⟨rfl, ⟨nd, rfl⟩⟩
   refine ⟨_, rfl, ?_⟩
   refine hK.out _ _ ((bc BK443 14)) (fun hHeld => ?_)
   clear hK K
   refine norm_ (a' := ?_) ?_ ?_
   rotate_left
   ·show Act.put _ (some 141) _ = _
    simp only [Act.put, e1, e2, e3, i64_w, i32_w]
    rfl
   refine pure_ (i := 7) (N := some 142) (v := ?_) (a' := ?_) bb17_ rfl rfl (any_of HT_.out (by kernel_rfl)) (fun _ _ _ h => h) (Or.inl ⟨by rfl, ?_⟩) ?_ ?_
   rotate_left; · intro w'; go_simp; with_reducible rfl
   rotate_left; · simp only [Act.put, e1, e2, e3, i64_w, i32_w]; rfl
   refine pure_ (i := 8) (N := some 143) (v := ?_) (a' := ?_) bb16_ rfl rfl (any_of HT_.out (by kernel_rfl)) (fun _ _ _ h => h) (Or.inl ⟨by rfl, ?_⟩) ?_ ?_
   rotate_left; · intro w'; go_simp; with_reducible rfl
   rotate_left; · simp only [Act.put, e1, e2, e3, i64_w, i32_w]; rfl
   refine one_ (i := 9) (N := some 144) bb15_ rfl rfl (one_of HT_.out (by kernel_rfl)) (by decide) (fun K hK => ?_)
   refine goes_ Try.func29 (by kernel_rfl) rfl #[] (by rfl) rfl rfl (by (try simp only [List.map_toArray, List.map_cons, List.map_nil]); first | done | rfl | (simp only [List.length_drop, List.length_take]; rfl)) ?_
   with_reducible refine (stat_Stream.calls kj97  t510 _ A112.out).mono ?_
   rintro e w120 ⟨v511, rfl, ho0, hb⟩
   refine ⟨_, rfl, ?_⟩
   have n0_ := Aside0.mk (Kd.R_elder' (by (with_reducible repeat (first | apply Kd.R_alloc | apply Kd.R_drewN | apply Kd.R_drew)); exact HO505.out) (Kd.R_base ho0) hb)
   have n1_ := Aside0.mk (Kd.R_elder' (by (with_reducible repeat (first | apply Kd.R_alloc | apply Kd.R_drewN | apply Kd.R_drew)); exact HO508.out) (Kd.R_base ho0) hb)
   have n2_ := Aside0.mk (Kd.R_lower (Kd.R_new' (Kd.R_new' ho0 (Kd.R_lt (by (with_reducible repeat (first | apply Kd.R_alloc | apply Kd.R_drewN | apply Kd.R_drew)); exact HO505.out))) (Kd.R_lt (by (with_reducible repeat (first | apply Kd.R_alloc | apply Kd.R_drewN | apply Kd.R_drew)); exact HO508.out))) (below_size (by repeat (first | (with_reducible first | exact HB.out | apply below_alloc | apply pw_below_drewN | apply below_drew1 | refine below_set ?_ GE443.out) | exact HB.out))))
   have n3_ := Aside0.mk (bbelow BK443 (by (with_reducible repeat (first | refine blk_drewN ?_ _ | refine blk_drew ?_ | refine blk_alloc ?_ _)); exact BK443.out) hb)
   have n4_ := Aside0.mk (below_step (by repeat (first | (with_reducible first | exact HB.out | apply below_alloc | apply pw_below_drewN | apply below_drew1 | refine below_set ?_ GE443.out) | exact HB.out)) hb)
   clear HO505
   clear HO508
   clear BK443
   clear HB
   have HO505 := n0_
   have HO508 := n1_
   have HO512 := n2_
   have BK443 := n3_
   have HB := n4_
   clear n0_ n1_ n2_ n3_ n4_
   (try clear hb)
   (try clear hb2)
   (try clear hk)
   (try clear hi)
   (try clear ho0)
   refine hK.out _ _ ((bc BK443 14)) (fun hHeld => ?_)
   clear hK K
   refine norm_ (a' := ?_) ?_ ?_
   rotate_left
   ·show Act.put _ (some 144) _ = _
    simp only [Act.put, e1, e2, e3, i64_w, i32_w]
    rfl
   refine one_ (i := 10) (N := some 145) bb14_ rfl rfl (one_of HT_.out (by kernel_rfl)) (by decide) (fun K hK => ?_)
   refine goes_ Try.func30 (by kernel_rfl) rfl #[] (by rfl) rfl rfl (by (try simp only [List.map_toArray, List.map_cons, List.map_nil]); first | done | rfl | (simp only [List.length_drop, List.length_take]; rfl)) ?_
   with_reducible refine (gangwayref20_Stream.calls  t513 _ A113.out).mono ?_
   rintro e w121 ⟨v514, rfl, ho0, hb⟩
   refine ⟨_, rfl, ?_⟩
   have n0_ := Aside0.mk (Kd.R_elder' (by (with_reducible repeat (first | apply Kd.R_alloc | apply Kd.R_drewN | apply Kd.R_drew)); exact HO505.out) (Kd.R_base ho0) hb)
   have n1_ := Aside0.mk (Kd.R_elder' (by (with_reducible repeat (first | apply Kd.R_alloc | apply Kd.R_drewN | apply Kd.R_drew)); exact HO508.out) (Kd.R_base ho0) hb)
   have n2_ := Aside0.mk (Kd.R_elder' (by (with_reducible repeat (first | apply Kd.R_alloc | apply Kd.R_drewN | apply Kd.R_drew)); exact HO512.out) (Kd.R_base ho0) hb)
   have n3_ := Aside0.mk (Kd.R_lower (Kd.R_new' (Kd.R_new' (Kd.R_new' ho0 (Kd.R_lt (by (with_reducible repeat (first | apply Kd.R_alloc | apply Kd.R_drewN | apply Kd.R_drew)); exact HO505.out))) (Kd.R_lt (by (with_reducible repeat (first | apply Kd.R_alloc | apply Kd.R_drewN | apply Kd.R_drew)); exact HO508.out))) (Kd.R_lt (by (with_reducible repeat (first | apply Kd.R_alloc | apply Kd.R_drewN | apply Kd.R_drew)); exact HO512.out))) (below_size (by repeat (first | (with_reducible first | exact HB.out | apply below_alloc | apply pw_below_drewN | apply below_drew1 | refine below_set ?_ GE443.out) | exact HB.out))))
   have n4_ := Aside0.mk (bbelow BK443 (by (with_reducible repeat (first | refine blk_drewN ?_ _ | refine blk_drew ?_ | refine blk_alloc ?_ _)); exact BK443.out) hb)
   have n5_ := Aside0.mk (below_step (by repeat (first | (with_reducible first | exact HB.out | apply below_alloc | apply pw_below_drewN | apply below_drew1 | refine below_set ?_ GE443.out) | exact HB.out)) hb)
   clear HO505
   clear HO508
   clear HO512
   clear BK443
   clear HB
   have HO505 := n0_
   have HO508 := n1_
   have HO512 := n2_
   have HO515 := n3_
   have BK443 := n4_
   have HB := n5_
   clear n0_ n1_ n2_ n3_ n4_ n5_
   (try clear hb)
   (try clear hb2)
   (try clear hk)
   (try clear hi)
   (try clear ho0)
   obtain ⟨Ao122, co122, eo122⟩ := Kd.R_slice HO512.out
   (first | subst eo122 | (injection eo122 with f1_ f2_ f3_; have f4_ := f1_.symm; have f5_ := f3_.symm; clear f1_ f2_ f3_; subst f4_; subst f5_))
   obtain ⟨Ao123, co123, eo123⟩ := Kd.R_slice HO515.out
   (first | subst eo123 | (injection eo123 with f1_ f2_ f3_; have f4_ := f1_.symm; have f5_ := f3_.symm; clear f1_ f2_ f3_; subst f4_; subst f5_))
   refine hK.out _ _ ((bc BK443 14)) (fun hHeld => ?_)
   clear hK K
   refine norm_ (a' := ?_) ?_ ?_
   rotate_left
   ·show Act.put _ (some 145) _ = _
    simp only [Act.put, e1, e2, e3, i64_w, i32_w]
    rfl
   refine one_ (i := 11) (N := some 146) bb13_ rfl rfl (one_of HT_.out (by kernel_rfl)) (by decide) (fun K hK => ?_)
   refine goes_ Try.func26 (by kernel_rfl) rfl #[.slice Ao122 t510.length co122, .slice Ao123 t513.length co123] (by rfl) rfl rfl (by (try simp only [List.map_toArray, List.map_cons, List.map_nil]); first | done | rfl | (simp only [List.length_drop, List.length_take]; rfl)) ?_
   with_reducible refine (gangwayref0_EqBytes.calls kj97 _ _ t510 _ _ t513 t516 _ ?side1 ?side2 ?side3 ?side4 A114.out).mono ?_
   (case side1 => repeat (first | exact (Kd.R_reads' HO512.out).2.2 | (with_reducible refine Kd.C_alloc ?_ _) | (with_reducible refine Kd.C_drewN ?_ _) | (with_reducible refine Kd.C_drew ?_)))
   (case side2 => exact (Kd.R_reads' HO512.out).2.1)
   (case side3 => repeat (first | exact (Kd.R_reads' HO515.out).2.2 | (with_reducible refine Kd.C_alloc ?_ _) | (with_reducible refine Kd.C_drewN ?_ _) | (with_reducible refine Kd.C_drew ?_)))
   (case side4 => exact (Kd.R_reads' HO515.out).2.1)
   rintro e w' ⟨rfl, ⟨nd, rfl⟩⟩
   refine ⟨_, rfl, ?_⟩
   refine hK.out _ _ ((bc BK443 14)) (fun hHeld => ?_)
   clear hK K
   refine norm_ (a' := ?_) ?_ ?_
   rotate_left
   ·show Act.put _ (some 146) _ = _
    simp only [Act.put, e1, e2, e3, i64_w, i32_w]
    rfl
   refine pure_ (i := 12) (N := some 147) (v := ?_) (a' := ?_) bb12_ rfl rfl (any_of HT_.out (by kernel_rfl)) (fun _ _ _ h => h) (Or.inl ⟨by rfl, ?_⟩) ?_ ?_
   rotate_left; · intro w'; go_simp; with_reducible rfl
   rotate_left; · simp only [Act.put, e1, e2, e3, i64_w, i32_w]; rfl
   refine pure_ (i := 13) (N := some 148) (v := ?_) (a' := ?_) bb11_ rfl rfl (any_of HT_.out (by kernel_rfl)) (fun _ _ _ h => h) (Or.inl ⟨by rfl, ?_⟩) ?_ ?_
   rotate_left; · intro w'; go_simp; with_reducible rfl
   rotate_left; · simp only [Act.put, e1, e2, e3, i64_w, i32_w]; rfl
   refine done_ (done_of HT_.out (by kernel_rfl)) ?_
   try go_wp2
   go_meet
   case rel => exact ⟨_, (!t516), (by first | rfl | (simp; done) | (simp [*]; done)), H', ⟨by have := HK1.out; have := HJ2.out; have := HJ4.out; have := HJ9.out; have := HJ18.out; have := HJ28.out; have := HJ58.out; have := HJ61.out; have := HJ91.out; have := HJ97.out; first | omega | exact Nat.le_refl _⟩, ⟨by (with_reducible repeat (first | refine blk_drewN ?_ _ | refine blk_drew ?_ | refine blk_alloc ?_ _)); exact BK443.out⟩, ⟨by repeat (first | (with_reducible first | exact HB.out | apply below_alloc | apply pw_below_drewN | apply below_drew1 | refine below_set ?_ GE443.out) | exact HB.out)⟩⟩
  case rest =>
  as_aux_lemma =>
  clear HC107
  try clear c1
  try clear c2
  try clear p2
  try clear c3
  try clear c4
  try clear c6
  try clear c9
  try clear c10
  try clear c11
  try clear c12
  try clear c13
  try clear c17
  try clear c26
  try clear c27
  try clear c28
  try clear c29
  try clear c30
  try clear c44
  try clear c65
  try clear c65b0
  try clear c66
  try clear c66b0
  try clear c93
  try clear c106
  try clear c111
  try clear hcz99_0
  try clear hcz99_1
  try clear hcz99_10
  try clear hcz99_11
  try clear hcz99_12
  try clear hcz99_13
  try clear hcz99_14
  try clear hcz99_15
  try clear hcz99_16
  try clear hcz99_17
  try clear hcz99_18
  try clear hcz99_19
  try clear hcz99_2
  try clear hcz99_20
  try clear hcz99_21
  try clear hcz99_3
  try clear hcz99_4
  try clear hcz99_5
  try clear hcz99_6
  try clear hcz99_7
  try clear hcz99_8
  try clear hcz99_9
  try clear p2
  obtain ⟨kq, x148_106, rfl, HA, HJ106, BK443, HB⟩ := hcut
  cases kq with
  | zero => exact absurd HA.out (by simp [j10])
  | succ kj106 =>
  have H := HA.out
  clear HA
  simp only [j10] at H
  by_cases c124 : x148_106 = true
  ·subst c124
   have H1 : (none) = some r := by rw [if_pos rfl] at H; exact H
   clear H
   have H := H1
   clear H1
   exact absurd H (by simp)
  replace c124 := Bool.eq_false_iff.mpr c124
  subst c124
  have H1 : (gangwaylaw20_StatExact.l0 kj106 l0 (wrap64 (x3_1 + 1))) = some r := by rw [if_neg (show ¬ (false = true) by decide)] at H; exact H
  clear H
  have H := H1
  clear H1
  have H' := Aside0.mk H
  clear H
  go_wp2
  go_roundg kj106
  case measure => have := HK1.out; have := HJ2.out; have := HJ4.out; have := HJ9.out; have := HJ18.out; have := HJ28.out; have := HJ58.out; have := HJ61.out; have := HJ91.out; have := HJ97.out; have := HJ106.out; omega
  case rel => exact ⟨(wrap64 (x3_1 + 1)), (by first | rfl | (simp; done) | (simp [*]; done)), H', ⟨by have := HK1.out; have := HJ2.out; have := HJ4.out; have := HJ9.out; have := HJ18.out; have := HJ28.out; have := HJ58.out; have := HJ61.out; have := HJ91.out; have := HJ97.out; have := HJ106.out; omega⟩, ⟨by repeat (first | (with_reducible first | exact HB.out | apply below_alloc | apply pw_below_drewN | apply below_drew1 | refine below_set ?_ GE443.out) | exact HB.out)⟩⟩
 case rest =>
 as_aux_lemma =>
 clear HC2
 try clear c1
 try clear c2
 try clear p2
 try clear c3
 try clear c4
 try clear c6
 try clear p6
 try clear c7
 try clear c8
 try clear c9
 try clear c10
 try clear c11
 try clear c12
 try clear c13
 try clear c17
 try clear c26
 try clear c27
 try clear c28
 try clear c29
 try clear c30
 try clear c44
 try clear p64
 try clear c65
 try clear c65b0
 try clear c66
 try clear c66b0
 try clear c93
 try clear c106
 try clear c111
 try clear c124
 try clear hcz99_0
 try clear hcz99_1
 try clear hcz99_10
 try clear hcz99_11
 try clear hcz99_12
 try clear hcz99_13
 try clear hcz99_14
 try clear hcz99_15
 try clear hcz99_16
 try clear hcz99_17
 try clear hcz99_18
 try clear hcz99_19
 try clear hcz99_2
 try clear hcz99_20
 try clear hcz99_21
 try clear hcz99_3
 try clear hcz99_4
 try clear hcz99_5
 try clear hcz99_6
 try clear hcz99_7
 try clear hcz99_8
 try clear hcz99_9
 try clear p2
 obtain ⟨kq, HA, HJ1, HB⟩ := hcut
 cases kq with
 | zero => exact absurd HA.out (by simp [j11])
 | succ kj1 =>
 have H := HA.out
 clear HA
 simp only [j11] at H
 replace H := Option.bind_eq_some_iff.mp H
 obtain ⟨t517, A1250, H⟩ := H
 replace H : (some t517) = some r := H
 have A125 := Aside0.mk A1250
 clear A1250
 obtain rfl := Option.some.inj H
 go_wp2_with (first | ((with_reducible refine gate_callee (f := 14) rfl ?_); refine goesL_ (some 149) rfl rfl Try.func14 (by kernel_rfl) rfl #[] rfl (by (try simp only [List.map_toArray, List.map_cons, List.map_nil]); first | done | rfl | (simp only [List.length_drop, List.length_take]; rfl)) ?_; (with_reducible refine (gangwaylaw20_wakes.calls kj1  t517 _ A125.out).mono ?_); rintro e w126 ⟨rfl, hb⟩; refine ⟨_, rfl, ?_⟩; have n0_ := Aside0.mk (below_step (by repeat (first | (with_reducible first | exact HB.out | apply below_alloc | apply pw_below_drewN | apply below_drew1) | exact HB.out)) hb); clear HB; have HB := n0_; clear n0_; (try clear hb); (try clear hb2); (try clear hk); (try clear hi)))
 go_ret
 exact ⟨by first | rfl | (simp [errW_none, errW_some] <;> rfl) | (simp [*, errW_none, errW_some] <;> rfl), by repeat (first | (with_reducible first | exact HB.out | apply below_alloc | apply pw_below_drewN | apply below_drew1) | exact HB.out)⟩
/-- THE ONE PURE STATEMENT of gangwaylaw20_StatExact: yours. -/
def gangwaylaw20_StatExact.Pure : Prop := ∀ (x0 : List (S35)), (x0.length * 256 ≤ 140737488351232 ∧ ∀ y518 ∈ x0, okT35 y518) → ∃ k, gangwaylaw20_StatExact.f k x0 = some true
theorem gangwaylaw20_StatExact.walk (P : gangwaylaw20_StatExact.Pure) (w : World) (x0 : List (S35)) (A0 : Option Addr) (c0 : Nat) (hr0 : Kd.C k35 w A0 x0.length x0) (hc0 : x0.length ≤ c0) (hok0 : (x0.length * 256 ≤ 140737488351232 ∧ ∀ y519 ∈ x0, okT35 y519)) :
  Calls Try.prog 8 #[.slice A0 x0.length c0] w fun e w' => e = .returned (.bool true) ∧ Below w.heap.size w w' := by
 obtain ⟨k, h⟩ := P x0 hok0
 refine (gangwaylaw20_StatExact.calls k _ _ x0 true w hr0 hc0 h).mono ?_
 rintro e w' ⟨rfl, hd⟩
 exact ⟨rfl, hd⟩

end Go.Proofs.Ythhmnecnoojcpaa.PAll
