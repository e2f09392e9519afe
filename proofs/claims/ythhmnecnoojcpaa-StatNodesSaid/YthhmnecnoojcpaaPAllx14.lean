/- Printed by a copy of the printer that was turned for this claim: functions as plain Lean functions, with proofs that their calls come to these; or words that such proofs use. -/
import Derived.Test.YthhmnecnoojcpaaPAllx0
import Derived.Test.YthhmnecnoojcpaaPAllx2
import Derived.Test.YthhmnecnoojcpaaPAllx3
import Derived.Test.YthhmnecnoojcpaaPAllx5
import Derived.Test.YthhmnecnoojcpaaPAllx13
namespace Go.Proofs.Ythhmnecnoojcpaa.PAll
open Go.RowKit Go.Proofs.YthhmnecnoojcpaaW.PrintWords Go.Proofs.YthhmnecnoojcpaaW.PrintLast Go.Proofs.YthhmnecnoojcpaaW.PrintMore
attribute [local go_sem] max2_int min2_int max_two min_two max_three min_three max_four min_four   -- for this text's walks alone
set_option linter.unusedVariables false
set_option linter.unusedSimpArgs false

/-! ### gangwaylaw20_StatNodes: function 7 -/
def gangwaylaw20_StatNodes.bb0_ : Array Bool := #[true, true, true, true, true, true, true, true, true, true, true, true, true, true, true, true]
def gangwaylaw20_StatNodes.bb1_ : Array Bool := #[true, true, true, true, true, true, true, true, true, true, true, true, true, true, true, false]
def gangwaylaw20_StatNodes.bb2_ : Array Bool := #[true, true, true, true, true, true, true, true, true, true, true, true, true, true, false, false]
def gangwaylaw20_StatNodes.bb3_ : Array Bool := #[true, true, true, true, true, true, true, true, true, true, true, true, true, false, false, false]
def gangwaylaw20_StatNodes.bb4_ : Array Bool := #[true, true, true, true, true, true, true, true, true, true, true, true, false, false, false, false]
def gangwaylaw20_StatNodes.bb5_ : Array Bool := #[true, true, true, true, true, true, true, true, true, true, true, false, false, false, false, false]
def gangwaylaw20_StatNodes.bb6_ : Array Bool := #[true, true, true, true, true, true, true, true, true, true, false, false, false, false, false, false]
def gangwaylaw20_StatNodes.bb7_ : Array Bool := #[true, true, true, true, true, true, true, true, true, false, false, false, false, false, false, false]
def gangwaylaw20_StatNodes.bb8_ : Array Bool := #[true, true, true, true, false, true, true, true, true, false, false, false, false, false, false, false]
def gangwaylaw20_StatNodes.bb9_ : Array Bool := #[true, true, true, true, false, true, true, true, false, false, false, false, false, false, false, false]
def gangwaylaw20_StatNodes.bb10_ : Array Bool := #[true, true, true, true, false, true, true, false, false, false, false, false, false, false, false, false]
def gangwaylaw20_StatNodes.bb11_ : Array Bool := #[true, true, true, true, false, true, false, false, false, false, false, false, false, false, false, false]
def gangwaylaw20_StatNodes.bb12_ : Array Bool := #[true, true, true, true, false, false, false, false, false, false, false, false, false, false, false, false]
def gangwaylaw20_StatNodes.bb13_ : Array Bool := #[true, true, true, false, false, false, false, false, false, false, false, false, false, false, false, false]
def gangwaylaw20_StatNodes.bb14_ : Array Bool := #[true, true, false, false, false, false, false, false, false, false, false, false, false, false, false, false]
def gangwaylaw20_StatNodes.bb15_ : Array Bool := #[true, false, false, false, false, false, false, false, false, false, false, false, false, false, false, false]
def gangwaylaw20_StatNodes.bb16_ : Array Bool := #[false, false, false, false, false, false, false, false, false, false, false, false, false, false, false, false]
def gangwaylaw20_StatNodes.bb17_ : Array Bool := #[true, true, true, true, true, true, true, true, true, true, true, true, true, true, true, true, true, true, true, true, true, true, true, true, true, true, true, true, true, true, true, true, true, true, true, true, true, true, true, true, true, true, true, true, true, true, true]
def gangwaylaw20_StatNodes.bb18_ : Array Bool := #[true, true, true, true, true, true, true, true, true, true, true, true, true, true, true, true, true, true, true, true, true, true, true, true, true, true, true, true, true, true, true, true, true, true, true, true, true, true, true, true, true, true, true, true, true, true, false]
def gangwaylaw20_StatNodes.bb19_ : Array Bool := #[true, true, true, true, true, true, true, true, true, true, true, true, true, true, true, true, true, true, true, true, true, true, true, true, true, true, true, true, true, true, true, true, true, true, true, true, true, true, true, true, true, true, true, true, true, false, false]
def gangwaylaw20_StatNodes.bb20_ : Array Bool := #[true, true, true, true, true, true, true, true, true, true, true, true, true, true, true, true, true, true, true, true, true, true, true, true, true, true, true, true, true, true, true, true, true, true, true, true, true, true, true, true, true, true, true, true, false, false, false]
def gangwaylaw20_StatNodes.bb21_ : Array Bool := #[true, true, true, true, true, true, true, true, true, true, true, true, true, true, true, true, true, true, true, true, true, true, true, true, true, true, true, true, true, true, true, true, true, true, true, true, true, true, true, true, true, true, true, false, false, false, false]
def gangwaylaw20_StatNodes.bb22_ : Array Bool := #[true, true, true, true, true, true, true, true, true, true, true, true, true, true, true, true, true, true, true, true, true, true, true, true, true, true, true, true, true, true, true, true, true, true, true, true, true, true, false, true, true, true, true, false, false, false, false]
def gangwaylaw20_StatNodes.bb23_ : Array Bool := #[true, true, true, true, true, true, true, true, true, true, true, true, true, true, true, true, true, true, true, true, true, true, true, true, true, true, true, true, true, true, true, true, true, false, true, true, true, true, false, true, true, true, true, false, false, false, false]
def gangwaylaw20_StatNodes.bb24_ : Array Bool := #[true, true, true, true, true, true, true, true, true, true, true, true, true, true, true, true, true, true, true, true, true, true, true, true, true, true, true, true, true, true, true, true, false, false, true, true, true, true, false, true, true, true, true, false, false, false, false]
def gangwaylaw20_StatNodes.bb25_ : Array Bool := #[true, true, true, true, true, true, true, true, true, true, true, true, true, true, true, true, true, true, true, true, true, true, true, true, true, true, true, true, true, true, true, false, false, false, true, true, true, true, false, true, true, true, true, false, false, false, false]
def gangwaylaw20_StatNodes.bb26_ : Array Bool := #[true, true, true, true, true, true, true, true, true, true, true, true, true, true, true, true, true, true, true, true, true, true, true, true, true, true, true, true, true, true, false, false, false, false, true, true, true, true, false, true, true, true, true, false, false, false, false]
def gangwaylaw20_StatNodes.bb27_ : Array Bool := #[true, true, true, true, true, true, true, true, true, true, true, true, true, true, true, true, true, true, true, true, true, true, true, true, true, true, true, true, true, false, false, false, false, false, true, true, true, true, false, true, true, true, true, false, false, false, false]
def gangwaylaw20_StatNodes.bb28_ : Array Bool := #[true, true, true, true, true, true, true, true, true, true, true, true, true, true, true, true, true, true, true, true, true, true, true, true, true, true, true, true, false, false, false, false, false, false, true, true, true, true, false, true, true, true, true, false, false, false, false]
def gangwaylaw20_StatNodes.bb29_ : Array Bool := #[true, true, true, true, true, true, true, true, true, true, true, true, true, true, true, true, true, true, true, true, true, true, true, true, true, true, true, false, false, false, false, false, false, false, true, true, true, true, false, true, true, true, true, false, false, false, false]
def gangwaylaw20_StatNodes.bb30_ : Array Bool := #[true, true, true, true, true, true, true, true, true, true, true, true, true, true, true, true, true, true, true, true, true, true, true, true, true, true, false, false, false, false, false, false, false, false, true, true, true, true, false, true, true, true, true, false, false, false, false]
def gangwaylaw20_StatNodes.bb31_ : Array Bool := #[true, true, true, true, true, true, true, true, true, true, true, true, true, true, true, true, true, true, true, true, true, true, true, true, true, false, false, false, false, false, false, false, false, false, true, true, true, true, false, true, true, true, true, false, false, false, false]
def gangwaylaw20_StatNodes.bb32_ : Array Bool := #[true, true, true, true, true, true, true, true, true, true, true, true, true, true, true, true, true, true, true, true, true, true, true, true, false, false, false, false, false, false, false, false, false, false, true, true, true, true, false, true, true, true, true, false, false, false, false]
def gangwaylaw20_StatNodes.bb33_ : Array Bool := #[true, true, true, true, true, true, true, true, true, true, true, true, true, true, true, true, true, true, true, true, true, true, true, false, false, false, false, false, false, false, false, false, false, false, true, true, true, true, false, true, true, true, true, false, false, false, false]
def gangwaylaw20_StatNodes.bb34_ : Array Bool := #[true, true, true, true, true, true, true, true, true, true, true, true, true, true, true, true, true, true, true, true, true, true, false, false, false, false, false, false, false, false, false, false, false, false, true, true, true, true, false, true, true, true, true, false, false, false, false]
def gangwaylaw20_StatNodes.bb35_ : Array Bool := #[true, true, true, true, true, true, true, true, true, true, true, true, true, true, true, true, true, true, true, true, true, false, false, false, false, false, false, false, false, false, false, false, false, false, true, true, true, true, false, true, true, true, true, false, false, false, false]
def gangwaylaw20_StatNodes.bb36_ : Array Bool := #[true, true, true, true, true, true, true, true, true, true, true, true, true, true, true, true, true, true, true, true, false, false, false, false, false, false, false, false, false, false, false, false, false, false, true, true, true, true, false, true, true, true, true, false, false, false, false]
def gangwaylaw20_StatNodes.bb37_ : Array Bool := #[true, true, true, true, true, true, true, true, true, true, true, true, true, true, true, true, true, true, true, false, false, false, false, false, false, false, false, false, false, false, false, false, false, false, true, true, true, true, false, true, true, true, true, false, false, false, false]
def gangwaylaw20_StatNodes.bb38_ : Array Bool := #[true, true, true, true, true, true, true, true, true, true, true, true, true, true, true, true, true, true, false, false, false, false, false, false, false, false, false, false, false, false, false, false, false, false, true, true, true, true, false, true, true, true, true, false, false, false, false]
def gangwaylaw20_StatNodes.bb39_ : Array Bool := #[true, true, true, true, true, true, true, true, true, true, true, true, true, true, true, true, true, false, false, false, false, false, false, false, false, false, false, false, false, false, false, false, false, false, true, true, true, true, false, true, true, true, true, false, false, false, false]
def gangwaylaw20_StatNodes.bb40_ : Array Bool := #[true, true, true, true, true, true, true, true, true, true, true, true, true, true, true, true, false, false, false, false, false, false, false, false, false, false, false, false, false, false, false, false, false, false, true, true, true, true, false, true, true, true, true, false, false, false, false]
def gangwaylaw20_StatNodes.bb41_ : Array Bool := #[true, true, true, true, true, true, true, true, true, true, true, true, true, true, true, false, false, false, false, false, false, false, false, false, false, false, false, false, false, false, false, false, false, false, true, true, true, true, false, true, true, true, true, false, false, false, false]
def gangwaylaw20_StatNodes.bb42_ : Array Bool := #[true, true, true, true, true, true, true, true, true, true, true, true, true, true, false, false, false, false, false, false, false, false, false, false, false, false, false, false, false, false, false, false, false, false, true, true, true, true, false, true, true, true, true, false, false, false, false]
def gangwaylaw20_StatNodes.bb43_ : Array Bool := #[true, true, true, true, true, true, true, true, true, true, true, true, true, false, false, false, false, false, false, false, false, false, false, false, false, false, false, false, false, false, false, false, false, false, true, true, true, true, false, true, true, true, true, false, false, false, false]
def gangwaylaw20_StatNodes.bb44_ : Array Bool := #[true, true, true, true, true, true, true, true, true, true, true, true, false, false, false, false, false, false, false, false, false, false, false, false, false, false, false, false, false, false, false, false, false, false, true, true, true, true, false, true, true, true, true, false, false, false, false]
def gangwaylaw20_StatNodes.bb45_ : Array Bool := #[true, true, true, true, true, true, true, true, true, true, true, false, false, false, false, false, false, false, false, false, false, false, false, false, false, false, false, false, false, false, false, false, false, false, true, true, true, true, false, true, true, true, true, false, false, false, false]
def gangwaylaw20_StatNodes.bb46_ : Array Bool := #[true, true, true, true, true, true, true, true, true, true, false, false, false, false, false, false, false, false, false, false, false, false, false, false, false, false, false, false, false, false, false, false, false, false, true, true, true, true, false, true, true, true, true, false, false, false, false]
def gangwaylaw20_StatNodes.bb47_ : Array Bool := #[true, true, true, true, true, true, true, true, true, false, false, false, false, false, false, false, false, false, false, false, false, false, false, false, false, false, false, false, false, false, false, false, false, false, true, true, true, true, false, true, true, true, true, false, false, false, false]
def gangwaylaw20_StatNodes.bb48_ : Array Bool := #[true, true, true, true, true, true, true, true, false, false, false, false, false, false, false, false, false, false, false, false, false, false, false, false, false, false, false, false, false, false, false, false, false, false, true, true, true, true, false, true, true, true, true, false, false, false, false]
def gangwaylaw20_StatNodes.bb49_ : Array Bool := #[true, true, true, true, true, true, true, false, false, false, false, false, false, false, false, false, false, false, false, false, false, false, false, false, false, false, false, false, false, false, false, false, false, false, true, true, true, true, false, true, true, true, true, false, false, false, false]
def gangwaylaw20_StatNodes.bb50_ : Array Bool := #[true, true, true, true, true, true, true, false, false, false, false, false, false, false, false, false, false, false, false, false, false, false, false, false, false, false, false, false, false, false, false, false, false, false, true, true, true, true, false, true, true, true, false, false, false, false, false]
def gangwaylaw20_StatNodes.bb51_ : Array Bool := #[true, true, true, true, true, true, true, false, false, false, false, false, false, false, false, false, false, false, false, false, false, false, false, false, false, false, false, false, false, false, false, false, false, false, true, true, true, true, false, true, true, false, false, false, false, false, false]
def gangwaylaw20_StatNodes.bb52_ : Array Bool := #[true, true, true, true, true, true, true, false, false, false, false, false, false, false, false, false, false, false, false, false, false, false, false, false, false, false, false, false, false, false, false, false, false, false, true, true, true, true, false, true, false, false, false, false, false, false, false]
def gangwaylaw20_StatNodes.bb53_ : Array Bool := #[true, true, true, true, true, true, true, false, false, false, false, false, false, false, false, false, false, false, false, false, false, false, false, false, false, false, false, false, false, false, false, false, false, false, true, true, true, true, false, false, false, false, false, false, false, false, false]
def gangwaylaw20_StatNodes.bb54_ : Array Bool := #[true, true, true, true, true, true, true, false, false, false, false, false, false, false, false, false, false, false, false, false, false, false, false, false, false, false, false, false, false, false, false, false, false, false, true, true, true, false, false, false, false, false, false, false, false, false, false]
def gangwaylaw20_StatNodes.bb55_ : Array Bool := #[true, true, true, true, true, true, true, false, false, false, false, false, false, false, false, false, false, false, false, false, false, false, false, false, false, false, false, false, false, false, false, false, false, false, true, true, false, false, false, false, false, false, false, false, false, false, false]
def gangwaylaw20_StatNodes.bb56_ : Array Bool := #[true, true, true, true, true, true, true, false, false, false, false, false, false, false, false, false, false, false, false, false, false, false, false, false, false, false, false, false, false, false, false, false, false, false, true, false, false, false, false, false, false, false, false, false, false, false, false]
def gangwaylaw20_StatNodes.bb57_ : Array Bool := #[true, true, true, true, true, true, true, false, false, false, false, false, false, false, false, false, false, false, false, false, false, false, false, false, false, false, false, false, false, false, false, false, false, false, false, false, false, false, false, false, false, false, false, false, false, false, false]
def gangwaylaw20_StatNodes.bb58_ : Array Bool := #[true, true, true, true, true, true, false, false, false, false, false, false, false, false, false, false, false, false, false, false, false, false, false, false, false, false, false, false, false, false, false, false, false, false, false, false, false, false, false, false, false, false, false, false, false, false, false]
def gangwaylaw20_StatNodes.bb59_ : Array Bool := #[true, true, true, true, true, false, false, false, false, false, false, false, false, false, false, false, false, false, false, false, false, false, false, false, false, false, false, false, false, false, false, false, false, false, false, false, false, false, false, false, false, false, false, false, false, false, false]
def gangwaylaw20_StatNodes.bb60_ : Array Bool := #[true, true, true, true, false, false, false, false, false, false, false, false, false, false, false, false, false, false, false, false, false, false, false, false, false, false, false, false, false, false, false, false, false, false, false, false, false, false, false, false, false, false, false, false, false, false, false]
def gangwaylaw20_StatNodes.bb61_ : Array Bool := #[true, true, true, false, false, false, false, false, false, false, false, false, false, false, false, false, false, false, false, false, false, false, false, false, false, false, false, false, false, false, false, false, false, false, false, false, false, false, false, false, false, false, false, false, false, false, false]
def gangwaylaw20_StatNodes.bb62_ : Array Bool := #[true, true, false, false, false, false, false, false, false, false, false, false, false, false, false, false, false, false, false, false, false, false, false, false, false, false, false, false, false, false, false, false, false, false, false, false, false, false, false, false, false, false, false, false, false, false, false]
def gangwaylaw20_StatNodes.bb63_ : Array Bool := #[true, false, false, false, false, false, false, false, false, false, false, false, false, false, false, false, false, false, false, false, false, false, false, false, false, false, false, false, false, false, false, false, false, false, false, false, false, false, false, false, false, false, false, false, false, false, false]
def gangwaylaw20_StatNodes.bb64_ : Array Bool := #[false, false, false, false, false, false, false, false, false, false, false, false, false, false, false, false, false, false, false, false, false, false, false, false, false, false, false, false, false, false, false, false, false, false, false, false, false, false, false, false, false, false, false, false, false, false, false]
theorem gangwaylaw20_StatNodes.up {w w' : World} {a : Addr} {v : Value} (hb : Aside0 (Below w.heap.size w w')) (h : w.cell? a = some v) : w'.cell? a = some v := (hb.out.cell (World.block_lt_of_cell? w _ h)).trans h
mutual
def gangwaylaw20_StatNodes.j5 : Nat → Option (Bool)
 | 0 => none
 | k + 1 => (gangwaylaw20_wakes.f k).bind fun t421 => (some t421)
def gangwaylaw20_StatNodes.l0 : Nat → List (S35) → Int → Option (Bool)
 | 0, _, _ => none
 | k + 1, x0, x3 => if x3 < (x0.length : Int) then (gangwaylaw20_StatNodes.j1 k x0 x3 (decide (x3 < 20))) else (gangwaylaw20_StatNodes.j1 k x0 x3 false)
def gangwaylaw20_StatNodes.j1 : Nat → List (S35) → Int → Bool → Option (Bool)
 | 0, _, _, _ => none
 | k + 1, x0, x3, x13 => if x13 = true then (gangwaylaw20_StatNodes.j2 k x0 x3) else (gangwaylaw20_StatNodes.j5 k)
def gangwaylaw20_StatNodes.j2 : Nat → List (S35) → Int → Option (Bool)
 | 0, _, _ => none
 | k + 1, x0, x3 => if 0 ≤ x3 then (if x3 < (x0.length : Int) then ((gangwaylaw20_heavy.f ((rd_T35 x0 x3).f0.f0) ((rd_T35 x0 x3).f0.f1) ((rd_T35 x0 x3).f0.f2) ((rd_T35 x0 x3).f0.f3) ((rd_T35 x0 x3).f0.f4) ((rd_T35 x0 x3).f0.f5) ((rd_T35 x0 x3).f0.f6) ((rd_T35 x0 x3).f1.f0) ((rd_T35 x0 x3).f1.f1) ((rd_T35 x0 x3).f1.f2) ((rd_T35 x0 x3).f1.f3) ((rd_T35 x0 x3).f1.f4) ((rd_T35 x0 x3).f1.f5) ((rd_T35 x0 x3).f2) ((rd_T35 x0 x3).f3) ((rd_T35 x0 x3).f4) ((rd_T35 x0 x3).f5) ((rd_T35 x0 x3).f6) ((rd_T35 x0 x3).f7.f0) ((rd_T35 x0 x3).f7.f1) ((rd_T35 x0 x3).f7.f2) ((rd_T35 x0 x3).f7.f3) ((rd_T35 x0 x3).f8)).bind fun t386 => (if t386 = true then (some true) else (gangwaylaw20_StatNodes.j3 k x0 x3))) else (none)) else (none)
def gangwaylaw20_StatNodes.j3 : Nat → List (S35) → Int → Option (Bool)
 | 0, _, _ => none
 | k + 1, x0, x3 => if 0 ≤ x3 then (if x3 < (x0.length : Int) then ((stat_Filestat.f k ((rd_T35 x0 x3).f1.f0) ((rd_T35 x0 x3).f1.f1) ((rd_T35 x0 x3).f1.f2) ((rd_T35 x0 x3).f1.f3) ((rd_T35 x0 x3).f1.f4) ((rd_T35 x0 x3).f1.f5) ((rd_T35 x0 x3).f2)).bind fun bt389 => (if ((rd_T35 x0 x3).f1.f0) ≥ 1 then (if ((rd_T35 x0 x3).f1.f0) ≤ 3 then (if ((rd_T35 x0 x3).f2) ≥ 0 then ((gangwayref20_Filestat.f k ((rd_T35 x0 x3).f1.f0) ((rd_T35 x0 x3).f1.f1) ((rd_T35 x0 x3).f1.f2) ((rd_T35 x0 x3).f1.f3) ((rd_T35 x0 x3).f1.f4) ((rd_T35 x0 x3).f1.f5) ((rd_T35 x0 x3).f2)).bind fun t399 => ((gangwaylaw20_is.f k bt389.1 bt389.2 (decide (((rd_T35 x0 x3).f2) < 64)) t399).bind fun t402 => (gangwaylaw20_StatNodes.j4 k x0 x3 (!t402)))) else ((gangwayref20_Filestat.f k ((rd_T35 x0 x3).f1.f0) ((rd_T35 x0 x3).f1.f1) ((rd_T35 x0 x3).f1.f2) ((rd_T35 x0 x3).f1.f3) ((rd_T35 x0 x3).f1.f4) ((rd_T35 x0 x3).f1.f5) ((rd_T35 x0 x3).f2)).bind fun t405 => ((gangwaylaw20_is.f k bt389.1 bt389.2 false t405).bind fun t408 => (gangwaylaw20_StatNodes.j4 k x0 x3 (!t408))))) else ((gangwayref20_Filestat.f k ((rd_T35 x0 x3).f1.f0) ((rd_T35 x0 x3).f1.f1) ((rd_T35 x0 x3).f1.f2) ((rd_T35 x0 x3).f1.f3) ((rd_T35 x0 x3).f1.f4) ((rd_T35 x0 x3).f1.f5) ((rd_T35 x0 x3).f2)).bind fun t411 => ((gangwaylaw20_is.f k bt389.1 bt389.2 false t411).bind fun t414 => (gangwaylaw20_StatNodes.j4 k x0 x3 (!t414))))) else ((gangwayref20_Filestat.f k ((rd_T35 x0 x3).f1.f0) ((rd_T35 x0 x3).f1.f1) ((rd_T35 x0 x3).f1.f2) ((rd_T35 x0 x3).f1.f3) ((rd_T35 x0 x3).f1.f4) ((rd_T35 x0 x3).f1.f5) ((rd_T35 x0 x3).f2)).bind fun t417 => ((gangwaylaw20_is.f k bt389.1 bt389.2 false t417).bind fun t420 => (gangwaylaw20_StatNodes.j4 k x0 x3 (!t420)))))) else (none)) else (none)
def gangwaylaw20_StatNodes.j4 : Nat → List (S35) → Int → Bool → Option (Bool)
 | 0, _, _, _ => none
 | k + 1, x0, x3, x81 => if x81 = true then (some false) else (gangwaylaw20_StatNodes.l0 k x0 (wrap64 (x3 + 1)))
end
def gangwaylaw20_StatNodes.f (k : Nat) (l0 : List (S35)) : Option (Bool) := gangwaylaw20_StatNodes.l0 k l0 0
theorem gangwaylaw20_StatNodes.mono_l : ∀ k, (LeO (gangwaylaw20_StatNodes.j5 k ) (gangwaylaw20_StatNodes.j5 (k + 1) )) ∧ (∀ y0 y1, LeO (gangwaylaw20_StatNodes.l0 k y0 y1) (gangwaylaw20_StatNodes.l0 (k + 1) y0 y1)) ∧ (∀ y0 y1 y2, LeO (gangwaylaw20_StatNodes.j1 k y0 y1 y2) (gangwaylaw20_StatNodes.j1 (k + 1) y0 y1 y2)) ∧ (∀ y0 y1, LeO (gangwaylaw20_StatNodes.j2 k y0 y1) (gangwaylaw20_StatNodes.j2 (k + 1) y0 y1)) ∧ (∀ y0 y1, LeO (gangwaylaw20_StatNodes.j3 k y0 y1) (gangwaylaw20_StatNodes.j3 (k + 1) y0 y1)) ∧ (∀ y0 y1 y2, LeO (gangwaylaw20_StatNodes.j4 k y0 y1 y2) (gangwaylaw20_StatNodes.j4 (k + 1) y0 y1 y2))
 | 0 => ⟨fun r h => by simp [gangwaylaw20_StatNodes.j5] at h, fun _ _ r h => by simp [gangwaylaw20_StatNodes.l0] at h, fun _ _ _ r h => by simp [gangwaylaw20_StatNodes.j1] at h, fun _ _ r h => by simp [gangwaylaw20_StatNodes.j2] at h, fun _ _ r h => by simp [gangwaylaw20_StatNodes.j3] at h, fun _ _ _ r h => by simp [gangwaylaw20_StatNodes.j4] at h⟩
 | k + 1 => by
  obtain ⟨ih0, ih1, ih2, ih3, ih4, ih5⟩ := gangwaylaw20_StatNodes.mono_l k
  refine ⟨?_, ?_, ?_, ?_, ?_, ?_⟩
  ·skip
   unfold gangwaylaw20_StatNodes.j5
   repeat' first
   | (with_reducible exact ih0)
   | (with_reducible exact ih1 _ _)
   | (with_reducible exact ih2 _ _ _)
   | (with_reducible exact ih3 _ _)
   | (with_reducible exact ih4 _ _)
   | (with_reducible exact ih5 _ _ _)
   | (with_reducible exact gangwaylaw20_is.mono _ _ _ _ _)
   | (with_reducible exact gangwaylaw20_wakes.mono _)
   | (with_reducible exact gangwayref20_Filestat.mono _ _ _ _ _ _ _ _)
   | (with_reducible exact stat_Filestat.mono _ _ _ _ _ _ _ _)
   | (with_reducible exact LeO.refl _)
   | (with_reducible exact LeO.none _)
   | (with_reducible refine LeO.ite ?_ ?_)
   | (with_reducible refine LeO.bind ?_ (fun _ => ?_))
   | exact ih0
   | exact ih1 _ _
   | exact ih2 _ _ _
   | exact ih3 _ _
   | exact ih4 _ _
   | exact ih5 _ _ _
   | exact gangwaylaw20_is.mono _ _ _ _ _
   | exact gangwaylaw20_wakes.mono _
   | exact gangwayref20_Filestat.mono _ _ _ _ _ _ _ _
   | exact stat_Filestat.mono _ _ _ _ _ _ _ _
   | exact LeO.none _
   | refine LeO.ite ?_ ?_
   | refine LeO.bind ?_ (fun _ => ?_)
  ·intro y0 y1
   unfold gangwaylaw20_StatNodes.l0
   repeat' first
   | (with_reducible exact ih0)
   | (with_reducible exact ih1 _ _)
   | (with_reducible exact ih2 _ _ _)
   | (with_reducible exact ih3 _ _)
   | (with_reducible exact ih4 _ _)
   | (with_reducible exact ih5 _ _ _)
   | (with_reducible exact gangwaylaw20_is.mono _ _ _ _ _)
   | (with_reducible exact gangwaylaw20_wakes.mono _)
   | (with_reducible exact gangwayref20_Filestat.mono _ _ _ _ _ _ _ _)
   | (with_reducible exact stat_Filestat.mono _ _ _ _ _ _ _ _)
   | (with_reducible exact LeO.refl _)
   | (with_reducible exact LeO.none _)
   | (with_reducible refine LeO.ite ?_ ?_)
   | (with_reducible refine LeO.bind ?_ (fun _ => ?_))
   | exact ih0
   | exact ih1 _ _
   | exact ih2 _ _ _
   | exact ih3 _ _
   | exact ih4 _ _
   | exact ih5 _ _ _
   | exact gangwaylaw20_is.mono _ _ _ _ _
   | exact gangwaylaw20_wakes.mono _
   | exact gangwayref20_Filestat.mono _ _ _ _ _ _ _ _
   | exact stat_Filestat.mono _ _ _ _ _ _ _ _
   | exact LeO.none _
   | refine LeO.ite ?_ ?_
   | refine LeO.bind ?_ (fun _ => ?_)
  ·intro y0 y1 y2
   unfold gangwaylaw20_StatNodes.j1
   repeat' first
   | (with_reducible exact ih0)
   | (with_reducible exact ih1 _ _)
   | (with_reducible exact ih2 _ _ _)
   | (with_reducible exact ih3 _ _)
   | (with_reducible exact ih4 _ _)
   | (with_reducible exact ih5 _ _ _)
   | (with_reducible exact gangwaylaw20_is.mono _ _ _ _ _)
   | (with_reducible exact gangwaylaw20_wakes.mono _)
   | (with_reducible exact gangwayref20_Filestat.mono _ _ _ _ _ _ _ _)
   | (with_reducible exact stat_Filestat.mono _ _ _ _ _ _ _ _)
   | (with_reducible exact LeO.refl _)
   | (with_reducible exact LeO.none _)
   | (with_reducible refine LeO.ite ?_ ?_)
   | (with_reducible refine LeO.bind ?_ (fun _ => ?_))
   | exact ih0
   | exact ih1 _ _
   | exact ih2 _ _ _
   | exact ih3 _ _
   | exact ih4 _ _
   | exact ih5 _ _ _
   | exact gangwaylaw20_is.mono _ _ _ _ _
   | exact gangwaylaw20_wakes.mono _
   | exact gangwayref20_Filestat.mono _ _ _ _ _ _ _ _
   | exact stat_Filestat.mono _ _ _ _ _ _ _ _
   | exact LeO.none _
   | refine LeO.ite ?_ ?_
   | refine LeO.bind ?_ (fun _ => ?_)
  ·intro y0 y1
   unfold gangwaylaw20_StatNodes.j2
   repeat' first
   | (with_reducible exact ih0)
   | (with_reducible exact ih1 _ _)
   | (with_reducible exact ih2 _ _ _)
   | (with_reducible exact ih3 _ _)
   | (with_reducible exact ih4 _ _)
   | (with_reducible exact ih5 _ _ _)
   | (with_reducible exact gangwaylaw20_is.mono _ _ _ _ _)
   | (with_reducible exact gangwaylaw20_wakes.mono _)
   | (with_reducible exact gangwayref20_Filestat.mono _ _ _ _ _ _ _ _)
   | (with_reducible exact stat_Filestat.mono _ _ _ _ _ _ _ _)
   | (with_reducible exact LeO.refl _)
   | (with_reducible exact LeO.none _)
   | (with_reducible refine LeO.ite ?_ ?_)
   | (with_reducible refine LeO.bind ?_ (fun _ => ?_))
   | exact ih0
   | exact ih1 _ _
   | exact ih2 _ _ _
   | exact ih3 _ _
   | exact ih4 _ _
   | exact ih5 _ _ _
   | exact gangwaylaw20_is.mono _ _ _ _ _
   | exact gangwaylaw20_wakes.mono _
   | exact gangwayref20_Filestat.mono _ _ _ _ _ _ _ _
   | exact stat_Filestat.mono _ _ _ _ _ _ _ _
   | exact LeO.none _
   | refine LeO.ite ?_ ?_
   | refine LeO.bind ?_ (fun _ => ?_)
  ·intro y0 y1
   unfold gangwaylaw20_StatNodes.j3
   repeat' first
   | (with_reducible exact ih0)
   | (with_reducible exact ih1 _ _)
   | (with_reducible exact ih2 _ _ _)
   | (with_reducible exact ih3 _ _)
   | (with_reducible exact ih4 _ _)
   | (with_reducible exact ih5 _ _ _)
   | (with_reducible exact gangwaylaw20_is.mono _ _ _ _ _)
   | (with_reducible exact gangwaylaw20_wakes.mono _)
   | (with_reducible exact gangwayref20_Filestat.mono _ _ _ _ _ _ _ _)
   | (with_reducible exact stat_Filestat.mono _ _ _ _ _ _ _ _)
   | (with_reducible exact LeO.refl _)
   | (with_reducible exact LeO.none _)
   | (with_reducible refine LeO.ite ?_ ?_)
   | (with_reducible refine LeO.bind ?_ (fun _ => ?_))
   | exact ih0
   | exact ih1 _ _
   | exact ih2 _ _ _
   | exact ih3 _ _
   | exact ih4 _ _
   | exact ih5 _ _ _
   | exact gangwaylaw20_is.mono _ _ _ _ _
   | exact gangwaylaw20_wakes.mono _
   | exact gangwayref20_Filestat.mono _ _ _ _ _ _ _ _
   | exact stat_Filestat.mono _ _ _ _ _ _ _ _
   | exact LeO.none _
   | refine LeO.ite ?_ ?_
   | refine LeO.bind ?_ (fun _ => ?_)
  ·intro y0 y1 y2
   unfold gangwaylaw20_StatNodes.j4
   repeat' first
   | (with_reducible exact ih0)
   | (with_reducible exact ih1 _ _)
   | (with_reducible exact ih2 _ _ _)
   | (with_reducible exact ih3 _ _)
   | (with_reducible exact ih4 _ _)
   | (with_reducible exact ih5 _ _ _)
   | (with_reducible exact gangwaylaw20_is.mono _ _ _ _ _)
   | (with_reducible exact gangwaylaw20_wakes.mono _)
   | (with_reducible exact gangwayref20_Filestat.mono _ _ _ _ _ _ _ _)
   | (with_reducible exact stat_Filestat.mono _ _ _ _ _ _ _ _)
   | (with_reducible exact LeO.refl _)
   | (with_reducible exact LeO.none _)
   | (with_reducible refine LeO.ite ?_ ?_)
   | (with_reducible refine LeO.bind ?_ (fun _ => ?_))
   | exact ih0
   | exact ih1 _ _
   | exact ih2 _ _ _
   | exact ih3 _ _
   | exact ih4 _ _
   | exact ih5 _ _ _
   | exact gangwaylaw20_is.mono _ _ _ _ _
   | exact gangwaylaw20_wakes.mono _
   | exact gangwayref20_Filestat.mono _ _ _ _ _ _ _ _
   | exact stat_Filestat.mono _ _ _ _ _ _ _ _
   | exact LeO.none _
   | refine LeO.ite ?_ ?_
   | refine LeO.bind ?_ (fun _ => ?_)
theorem gangwaylaw20_StatNodes.mono : ∀ a0 k, LeO (gangwaylaw20_StatNodes.f k a0) (gangwaylaw20_StatNodes.f (k + 1) a0) := by
 intro a0 k
 obtain ⟨ih0, ih1, ih2, ih3, ih4, ih5⟩ := gangwaylaw20_StatNodes.mono_l k
 unfold gangwaylaw20_StatNodes.f
 repeat' first
   | (with_reducible exact ih0)
   | (with_reducible exact ih1 _ _)
   | (with_reducible exact ih2 _ _ _)
   | (with_reducible exact ih3 _ _)
   | (with_reducible exact ih4 _ _)
   | (with_reducible exact ih5 _ _ _)
   | (with_reducible exact gangwaylaw20_is.mono _ _ _ _ _)
   | (with_reducible exact gangwaylaw20_wakes.mono _)
   | (with_reducible exact gangwayref20_Filestat.mono _ _ _ _ _ _ _ _)
   | (with_reducible exact stat_Filestat.mono _ _ _ _ _ _ _ _)
   | (with_reducible exact LeO.refl _)
   | (with_reducible exact LeO.none _)
   | (with_reducible refine LeO.ite ?_ ?_)
   | (with_reducible refine LeO.bind ?_ (fun _ => ?_))
   | exact ih0
   | exact ih1 _ _
   | exact ih2 _ _ _
   | exact ih3 _ _
   | exact ih4 _ _
   | exact ih5 _ _ _
   | exact gangwaylaw20_is.mono _ _ _ _ _
   | exact gangwaylaw20_wakes.mono _
   | exact gangwayref20_Filestat.mono _ _ _ _ _ _ _ _
   | exact stat_Filestat.mono _ _ _ _ _ _ _ _
   | exact LeO.none _
   | refine LeO.ite ?_ ?_
   | refine LeO.bind ?_ (fun _ => ?_)
def gangwaylaw20_StatNodes.T6 : Bool × List (List Nat × List Nat) := (true, [([], []), ([], []), ([0, 1], [0, 1]), ([2], [2]), ([3], [3]), ([], []), ([], []), ([5, 6], [5, 6]), ([7], [7]), ([8], [8]), ([4, 9], [4, 9]), ([10], [10]), ([11], [11]), ([11], [11]), ([12, 10, 0, 1, 2, 3, 4, 5, 6, 7, 8, 9, 10, 11, 12], [12]), ([13, 14, 0, 1, 2, 3, 4, 5, 6, 7, 8, 9, 10, 11, 12, 13, 14], [13])])
def gangwaylaw20_StatNodes.B6 : List Nat := [0, 0, 3, 7, 15, 0, 0, 96, 224, 480, 1023, 2047, 4095, 4095, 8191, 32767]
theorem gangwaylaw20_StatNodes.tab6 : rtab .any (opsOf Try.f7 6) = gangwaylaw20_StatNodes.T6 := by kernel_rfl
theorem gangwaylaw20_StatNodes.bits6 : waitsOk gangwaylaw20_StatNodes.T6.2 gangwaylaw20_StatNodes.B6 = true := by kernel_rfl
def gangwaylaw20_StatNodes.T7 : Bool × List (List Nat × List Nat) := (true, [([], []), ([], []), ([], []), ([], []), ([2, 3], [2, 3]), ([4], [4]), ([5], [5]), ([6], [6]), ([7], [7]), ([8], [8]), ([9], [9]), ([9], [9]), ([10, 11, 9], [9, 10, 11]), ([12, 9], [9, 12]), ([13, 9], [9, 13]), ([14, 9], [9, 14]), ([15, 9], [9, 15]), ([9, 16], [9, 16]), ([17, 9], [17]), ([18], [18]), ([18], [18]), ([19, 20, 18], [18, 19, 20]), ([21, 18], [18, 21]), ([22, 18], [18, 22]), ([23, 18], [18, 23]), ([18, 24], [18, 24]), ([25, 18], [25]), ([26], [26]), ([26], [26]), ([27, 28, 26], [26, 27, 28]), ([29, 26], [26, 29]), ([30, 26], [26, 30]), ([31, 26], [26, 31]), ([26, 32], [26, 32]), ([], []), ([], []), ([34, 35], [34, 35]), ([36], [36]), ([37], [37]), ([], []), ([], []), ([39, 40], [39, 40]), ([41], [41]), ([42], [42]), ([38, 43, 26], [38, 43]), ([0, 1, 33, 44, 44], [0, 1, 33, 44]), ([45], [45])])
def gangwaylaw20_StatNodes.B7 : List Nat := [0, 0, 0, 0, 12, 28, 60, 124, 252, 508, 1020, 1020, 4092, 8188, 16380, 32764, 65532, 131068, 262140, 524284, 524284, 2097148, 4194300, 8388604, 16777212, 33554428, 67108860, 134217724, 134217724, 536870908, 1073741820, 2147483644, 4294967292, 8589934588, 0, 0, 51539607552, 120259084288, 257698037760, 0, 0, 1649267441664, 3848290697216, 8246337208320, 17575140392956, 35184372088831, 70368744177663]
theorem gangwaylaw20_StatNodes.tab7 : rtab .any (opsOf Try.f7 7) = gangwaylaw20_StatNodes.T7 := by kernel_rfl
theorem gangwaylaw20_StatNodes.bits7 : waitsOk gangwaylaw20_StatNodes.T7.2 gangwaylaw20_StatNodes.B7 = true := by kernel_rfl
set_option maxHeartbeats 8000000 in
set_option maxRecDepth 100000 in
theorem gangwaylaw20_StatNodes.calls (k : Nat) (A0 : Option Addr) (c0 : Nat) (l0 : List (S35)) (r : Bool) (w : World) (hr0 : Kd.C k35 w A0 l0.length l0) (hc0 : l0.length ≤ c0) (h : gangwaylaw20_StatNodes.f k l0 = some r) :
  Calls Try.prog 7 #[.slice A0 l0.length c0] w fun e w' => e = .returned (.bool r) ∧ Below w.heap.size w w' := by
 have hu35 := Try.underlying35
 have hu31 := Try.underlying31
 have HR0 := Aside0.mk hr0
 have HC0 := Aside0.mk hc0
 clear hr0 hc0
 have HB := Aside0.mk (Below.refl w.heap.size w)
 have H : (gangwaylaw20_StatNodes.l0 k l0 0) = some r := h
 clear h
 have HC2 := Aside0.mk H
 clear H
 go_enter Try.func7, Try.ntmps7
 go_upto_block 0 with (fail)
 go_cut [] (fun wc => ∃ (kq : Nat), Aside0 (gangwaylaw20_StatNodes.j5 kq  = some r) ∧ Aside0 (kq ≤ k) ∧ Aside0 (Below w.heap.size w wc))
 case first =>
  have H := HC2.out
  clear HC2
  have H' := Aside0.mk H
  clear H
  go_wp2
  go_loopg [3] k (fun kq v3 w' => ∃ (x3_1 : Int), v3 = .int .i64 x3_1 ∧ Aside0 (gangwaylaw20_StatNodes.l0 kq l0 x3_1 = some r) ∧ Aside0 (kq ≤ k) ∧ Aside0 (Below w.heap.size w w'))
  case atStart => exact ⟨(0), (by first | rfl | (simp; done) | (simp [*]; done)), H', ⟨Nat.le_refl _⟩, ⟨by repeat (first | (with_reducible first | exact HB.out | apply below_alloc | apply pw_below_drewN | apply below_drew1) | exact HB.out)⟩⟩
  case round =>
   clear H'
   try clear p2
   obtain ⟨x3_1, rfl, HA, HK1, HB⟩ := hrel
   cases gk with
   | zero => exact absurd HA.out (by simp [gangwaylaw20_StatNodes.l0])
   | succ k1 =>
    have H := HA.out
    clear HA
    simp only [gangwaylaw20_StatNodes.l0] at H
    have HC3 := Aside0.mk H
    clear H
    go_upto_region 2 with (fail)
    go_cut [13] (fun v13 wc => ∃ (kq : Nat) (x13_2 : Bool), v13 = .bool x13_2 ∧ Aside0 (gangwaylaw20_StatNodes.j1 kq l0 x3_1 x13_2 = some r) ∧ Aside0 (kq ≤ k1) ∧ Aside0 (Below w.heap.size w wc))
    case first =>
     have H := HC3.out
     clear HC3
     by_cases c4 : x3_1 < (l0.length : Int)
     ·rw [if_pos c4] at H
      have c4b0 : decide (x3_1 < (l0.length : Int)) = true := decide_eq_true c4
      clear c4
      (first | rw [c4b0] | (simp only [i64_w, i32_w]; rw [c4b0]) | skip)
      have H' := Aside0.mk H
      clear H
      go_wp2
      go_meet
      case rel => exact ⟨_, (decide (x3_1 < 20)), (by first | rfl | (simp; done) | (simp [*]; done)), H', ⟨by have := HK1.out; first | omega | exact Nat.le_refl _⟩, ⟨by repeat (first | (with_reducible first | exact HB.out | apply below_alloc | apply pw_below_drewN | apply below_drew1) | exact HB.out)⟩⟩
     ·rw [if_neg c4] at H
      have c4b0 : decide (x3_1 < (l0.length : Int)) = false := decide_eq_false c4
      clear c4
      (first | rw [c4b0] | (simp only [i64_w, i32_w]; rw [c4b0]) | skip)
      have H' := Aside0.mk H
      clear H
      go_wp2
      go_meet
      case rel => exact ⟨_, (false), (by first | rfl | (simp; done) | (simp [*]; done)), H', ⟨by have := HK1.out; first | omega | exact Nat.le_refl _⟩, ⟨by repeat (first | (with_reducible first | exact HB.out | apply below_alloc | apply pw_below_drewN | apply below_drew1) | exact HB.out)⟩⟩
    case rest =>
     as_aux_lemma =>
      clear HC3
      try clear p2
      try clear c4
      try clear c4b0
      try clear p2
      obtain ⟨kq, x13_2, rfl, HA, HJ2, HB⟩ := hcut
      cases kq with
      | zero => exact absurd HA.out (by simp [gangwaylaw20_StatNodes.j1])
      | succ kj2 =>
       have H := HA.out
       clear HA
       simp only [gangwaylaw20_StatNodes.j1] at H
       have HC5 := Aside0.mk H
       clear H
       go_upto_if 13 with (fail)
       go_cut [] (fun wc => ∃ (kq : Nat), Aside0 (gangwaylaw20_StatNodes.j2 kq l0 x3_1 = some r) ∧ Aside0 (kq ≤ kj2) ∧ Aside0 (Below w.heap.size w wc))
       case first =>
        have H := HC5.out
        clear HC5
        by_cases c6 : x13_2 = true
        ·subst c6
         have H1 : (gangwaylaw20_StatNodes.j2 kj2 l0 x3_1) = some r := by rw [if_pos rfl] at H; exact H
         clear H
         have H := H1
         clear H1
         have H' := Aside0.mk H
         clear H
         go_wp2
         go_meet
         case rel => exact ⟨_, H', ⟨by have := HK1.out; have := HJ2.out; first | omega | exact Nat.le_refl _⟩, ⟨by repeat (first | (with_reducible first | exact HB.out | apply below_alloc | apply pw_below_drewN | apply below_drew1) | exact HB.out)⟩⟩
        ·replace c6 := Bool.eq_false_iff.mpr c6
         subst c6
         have H1 : (gangwaylaw20_StatNodes.j5 kj2) = some r := by rw [if_neg (show ¬ (false = true) by decide)] at H; exact H
         clear H
         have H := H1
         clear H1
         have H' := Aside0.mk H
         clear H
         go_wp2
         go_meet
         case rel => exact ⟨_, H', ⟨by have := HK1.out; have := HJ2.out; first | omega | exact Nat.le_refl _⟩, ⟨by repeat (first | (with_reducible first | exact HB.out | apply below_alloc | apply pw_below_drewN | apply below_drew1) | exact HB.out)⟩⟩
       case rest =>
        as_aux_lemma =>
         clear HC5
         try clear p2
         try clear c4
         try clear c4b0
         try clear c6
         try clear p2
         obtain ⟨kq, HA, HJ4, HB⟩ := hcut
         cases kq with
         | zero => exact absurd HA.out (by simp [gangwaylaw20_StatNodes.j2])
         | succ kj4 =>
          have H := HA.out
          clear HA
          simp only [gangwaylaw20_StatNodes.j2] at H
          by_cases c7 : 0 ≤ x3_1
          ·as_aux_lemma =>
            rw [if_pos c7] at H
            have c7b0 : decide (0 ≤ x3_1) = true := decide_eq_true c7
            clear c7
            by_cases c8 : x3_1 < (l0.length : Int)
            ·as_aux_lemma =>
              rw [if_pos c8] at H
              have c8b0 : decide (x3_1 < (l0.length : Int)) = true := decide_eq_true c8
              clear c8
              replace H := Option.bind_eq_some_iff.mp H
              obtain ⟨t386, A90, H⟩ := H
              replace H : (if t386 = true then (some true) else (gangwaylaw20_StatNodes.j3 kj4 l0 x3_1)) = some r := H
              have A9 := Aside0.mk A90
              clear A90
              have HC10 := Aside0.mk H
              clear H
              have p385 : 0 ≤ (x3_1 : Int) := of_decide_eq_true (by first | (with_reducible assumption) | assumption)
              have q385 : x3_1 < (l0.length : Int) := of_decide_eq_true (by first | (with_reducible assumption) | assumption)
              obtain ⟨ad385, A385_8, c385_8, A385_9, c385_9, A385_22, c385_22, e385, hx385_0, hx385_1, hx385_2, hx385_3, hx385_4, hx385_5, hx385_6, hx385_7, hx385_8, hx385_9, hx385_10, hx385_11, hx385_12, hx385_13, hx385_14, hx385_15, hx385_16, hx385_17, hx385_18, hx385_19, hx385_20, hx385_21, hx385_22, hl385_8, hi385_8, hl385_9, hi385_9, hl385_22, hi385_22⟩ := at_T35 HR0.out x3_1 p385 q385
              cases e385
              replace hx385_0 := up HB hx385_0
              replace hx385_1 := up HB hx385_1
              replace hx385_2 := up HB hx385_2
              replace hx385_3 := up HB hx385_3
              replace hx385_4 := up HB hx385_4
              replace hx385_5 := up HB hx385_5
              replace hx385_6 := up HB hx385_6
              replace hx385_7 := up HB hx385_7
              replace hx385_8 := up HB hx385_8
              replace hx385_9 := up HB hx385_9
              replace hx385_10 := up HB hx385_10
              replace hx385_11 := up HB hx385_11
              replace hx385_12 := up HB hx385_12
              replace hx385_13 := up HB hx385_13
              replace hx385_14 := up HB hx385_14
              replace hx385_15 := up HB hx385_15
              replace hx385_16 := up HB hx385_16
              replace hx385_17 := up HB hx385_17
              replace hx385_18 := up HB hx385_18
              replace hx385_19 := up HB hx385_19
              replace hx385_20 := up HB hx385_20
              replace hx385_21 := up HB hx385_21
              replace hx385_22 := up HB hx385_22
              have HR385_8 := Aside0.mk hi385_8
              have HC385_8 := Aside0.mk hl385_8
              clear hi385_8 hl385_8
              have HR385_9 := Aside0.mk hi385_9
              have HC385_9 := Aside0.mk hl385_9
              clear hi385_9 hl385_9
              have HR385_22 := Aside0.mk hi385_22
              have HC385_22 := Aside0.mk hl385_22
              clear hi385_22 hl385_22
              replace p385 := eq_true p385
              replace q385 := eq_true q385
              go_upto_if 20 with (first | ((with_reducible refine gate_dst (N := 19) rfl ?_); refine Go.Proofs.YthhmnecnoojcpaaO.load_cells ?hg (N := 19) ?hd 35 (x := ?xo19_) ?ho (ad := ?ad19_) ?hx [.int .i64 ((rd_T35 l0 x3_1).f0.f0), .int .i64 ((rd_T35 l0 x3_1).f0.f1), .int .i64 ((rd_T35 l0 x3_1).f0.f2), .int .i64 ((rd_T35 l0 x3_1).f0.f3), .int .i64 ((rd_T35 l0 x3_1).f0.f4), .int .i64 ((rd_T35 l0 x3_1).f0.f5), .string ((rd_T35 l0 x3_1).f0.f6), .int .i64 ((rd_T35 l0 x3_1).f1.f0), .slice A385_8 ((rd_T35 l0 x3_1).f1.f1).length c385_8, .slice A385_9 ((rd_T35 l0 x3_1).f1.f2).length c385_9, .string ((rd_T35 l0 x3_1).f1.f3), .int .i64 ((rd_T35 l0 x3_1).f1.f4), .int .i64 ((rd_T35 l0 x3_1).f1.f5), .int .i64 ((rd_T35 l0 x3_1).f2), .string ((rd_T35 l0 x3_1).f3), .int .i64 ((rd_T35 l0 x3_1).f4), .int .i64 ((rd_T35 l0 x3_1).f5), .int .i64 ((rd_T35 l0 x3_1).f6), .int .i64 ((rd_T35 l0 x3_1).f7.f0), .int .i64 ((rd_T35 l0 x3_1).f7.f1), .int .i64 ((rd_T35 l0 x3_1).f7.f2), .int .i64 ((rd_T35 l0 x3_1).f7.f3), .slice A385_22 ((rd_T35 l0 x3_1).f8).length c385_22] Try.underlying35 (by kernel_rfl) ?hc ?_; (case hd => rfl); (case hg => rfl); (case ho => rfl); (case hx => rfl); (case hc => exact ⟨hx385_0, hx385_1, hx385_2, hx385_3, hx385_4, hx385_5, hx385_6, hx385_7, hx385_8, hx385_9, hx385_10, hx385_11, hx385_12, hx385_13, hx385_14, hx385_15, hx385_16, hx385_17, hx385_18, hx385_19, hx385_20, hx385_21, hx385_22, trivial⟩)) | ((with_reducible refine gate_callee (f := 15) rfl ?_); refine goesL_ (some 20) rfl rfl Try.func15 (by kernel_rfl) rfl #[.agg #[.int .i64 ((rd_T35 l0 x3_1).f0.f0), .int .i64 ((rd_T35 l0 x3_1).f0.f1), .int .i64 ((rd_T35 l0 x3_1).f0.f2), .int .i64 ((rd_T35 l0 x3_1).f0.f3), .int .i64 ((rd_T35 l0 x3_1).f0.f4), .int .i64 ((rd_T35 l0 x3_1).f0.f5), .string ((rd_T35 l0 x3_1).f0.f6), .int .i64 ((rd_T35 l0 x3_1).f1.f0), .slice A385_8 ((rd_T35 l0 x3_1).f1.f1).length c385_8, .slice A385_9 ((rd_T35 l0 x3_1).f1.f2).length c385_9, .string ((rd_T35 l0 x3_1).f1.f3), .int .i64 ((rd_T35 l0 x3_1).f1.f4), .int .i64 ((rd_T35 l0 x3_1).f1.f5), .int .i64 ((rd_T35 l0 x3_1).f2), .string ((rd_T35 l0 x3_1).f3), .int .i64 ((rd_T35 l0 x3_1).f4), .int .i64 ((rd_T35 l0 x3_1).f5), .int .i64 ((rd_T35 l0 x3_1).f6), .int .i64 ((rd_T35 l0 x3_1).f7.f0), .int .i64 ((rd_T35 l0 x3_1).f7.f1), .int .i64 ((rd_T35 l0 x3_1).f7.f2), .int .i64 ((rd_T35 l0 x3_1).f7.f3), .slice A385_22 ((rd_T35 l0 x3_1).f8).length c385_22]] rfl (by (try simp only [List.map_toArray, List.map_cons, List.map_nil]); first | done | rfl | (simp only [List.length_drop, List.length_take]; rfl)) ?_; (with_reducible refine (gangwaylaw20_heavy.calls ((rd_T35 l0 x3_1).f0.f0) ((rd_T35 l0 x3_1).f0.f1) ((rd_T35 l0 x3_1).f0.f2) ((rd_T35 l0 x3_1).f0.f3) ((rd_T35 l0 x3_1).f0.f4) ((rd_T35 l0 x3_1).f0.f5) ((rd_T35 l0 x3_1).f0.f6) ((rd_T35 l0 x3_1).f1.f0) _ _ ((rd_T35 l0 x3_1).f1.f1) _ _ ((rd_T35 l0 x3_1).f1.f2) ((rd_T35 l0 x3_1).f1.f3) ((rd_T35 l0 x3_1).f1.f4) ((rd_T35 l0 x3_1).f1.f5) ((rd_T35 l0 x3_1).f2) ((rd_T35 l0 x3_1).f3) ((rd_T35 l0 x3_1).f4) ((rd_T35 l0 x3_1).f5) ((rd_T35 l0 x3_1).f6) ((rd_T35 l0 x3_1).f7.f0) ((rd_T35 l0 x3_1).f7.f1) ((rd_T35 l0 x3_1).f7.f2) ((rd_T35 l0 x3_1).f7.f3) _ _ ((rd_T35 l0 x3_1).f8) t386 _ ?side1 ?side2 ?side3 ?side4 ?side5 ?side6 A9.out).mono ?_); (case side1 => repeat (first | exact (Kd.C_below HR385_8.out HB.out) | (with_reducible refine Kd.C_alloc ?_ _) | (with_reducible refine Kd.C_drewN ?_ _) | (with_reducible refine Kd.C_drew ?_))); (case side2 => exact HC385_8.out); (case side3 => repeat (first | exact (Kd.C_below HR385_9.out HB.out) | (with_reducible refine Kd.C_alloc ?_ _) | (with_reducible refine Kd.C_drewN ?_ _) | (with_reducible refine Kd.C_drew ?_))); (case side4 => exact HC385_9.out); (case side5 => repeat (first | exact (Kd.C_below HR385_22.out HB.out) | (with_reducible refine Kd.C_alloc ?_ _) | (with_reducible refine Kd.C_drewN ?_ _) | (with_reducible refine Kd.C_drew ?_))); (case side6 => exact HC385_22.out); rintro e w11 ⟨rfl, hb⟩; refine ⟨_, rfl, ?_⟩; have n0_ := Aside0.mk (below_step (by repeat (first | (with_reducible first | exact HB.out | apply below_alloc | apply pw_below_drewN | apply below_drew1) | exact HB.out)) hb); clear HB; have HB := n0_; clear n0_; (try clear hb); (try clear hb2); (try clear hk); (try clear hi)))
              (try simp only [Act.put, List.setIfInBounds_toArray, List.set_cons_zero, List.set_cons_succ])
              go_cut [] (fun wc => ∃ (kq : Nat), Aside0 (gangwaylaw20_StatNodes.j3 kq l0 x3_1 = some r) ∧ Aside0 (kq ≤ kj4) ∧ Aside0 (Below w.heap.size w wc))
              case first =>
               have H := HC10.out
               clear HC10
               by_cases c12 : t386 = true
               ·subst c12
                have H1 : (some true) = some r := by rw [if_pos rfl] at H; exact H
                clear H
                have H := H1
                clear H1
                obtain rfl := Option.some.inj H
                go_wp2
                go_ret
                exact ⟨by first | rfl | (simp [errW_none, errW_some] <;> rfl) | (simp [*, errW_none, errW_some] <;> rfl), by repeat (first | (with_reducible first | exact HB.out | apply below_alloc | apply pw_below_drewN | apply below_drew1) | exact HB.out)⟩
               ·replace c12 := Bool.eq_false_iff.mpr c12
                subst c12
                have H1 : (gangwaylaw20_StatNodes.j3 kj4 l0 x3_1) = some r := by rw [if_neg (show ¬ (false = true) by decide)] at H; exact H
                clear H
                have H := H1
                clear H1
                have H' := Aside0.mk H
                clear H
                go_wp2
                go_meet
                case rel => exact ⟨_, H', ⟨by have := HK1.out; have := HJ2.out; have := HJ4.out; first | omega | exact Nat.le_refl _⟩, ⟨by repeat (first | (with_reducible first | exact HB.out | apply below_alloc | apply pw_below_drewN | apply below_drew1) | exact HB.out)⟩⟩
              case rest =>
               as_aux_lemma =>
                clear HC10
                try clear c1
                try clear p2
                try clear c3
                try clear p3
                try clear q3
                try clear hx3
                try clear c4
                try clear c4b0
                try clear c6
                try clear c7
                try clear c7b0
                try clear c8
                try clear c8b0
                try clear c12
                try clear hx385_0
                try clear hx385_1
                try clear hx385_10
                try clear hx385_11
                try clear hx385_12
                try clear hx385_13
                try clear hx385_14
                try clear hx385_15
                try clear hx385_16
                try clear hx385_17
                try clear hx385_18
                try clear hx385_19
                try clear hx385_2
                try clear hx385_20
                try clear hx385_21
                try clear hx385_22
                try clear hx385_3
                try clear hx385_4
                try clear hx385_5
                try clear hx385_6
                try clear hx385_7
                try clear hx385_8
                try clear hx385_9
                try clear p2
                try clear p385
                try clear q385
                obtain ⟨kq, HA, HJ9, HB⟩ := hcut
                cases kq with
                | zero => exact absurd HA.out (by simp [gangwaylaw20_StatNodes.j3])
                | succ kj9 =>
                 have H := HA.out
                 clear HA
                 simp only [gangwaylaw20_StatNodes.j3] at H
                 by_cases c13 : 0 ≤ x3_1
                 ·as_aux_lemma =>
                   rw [if_pos c13] at H
                   have c13b0 : decide (0 ≤ x3_1) = true := decide_eq_true c13
                   clear c13
                   by_cases c14 : x3_1 < (l0.length : Int)
                   ·as_aux_lemma =>
                     rw [if_pos c14] at H
                     have c14b0 : decide (x3_1 < (l0.length : Int)) = true := decide_eq_true c14
                     clear c14
                     replace H := Option.bind_eq_some_iff.mp H
                     obtain ⟨⟨t389, t392⟩, A150, H⟩ := H
                     replace H : (if ((rd_T35 l0 x3_1).f1.f0) ≥ 1 then (if ((rd_T35 l0 x3_1).f1.f0) ≤ 3 then (if ((rd_T35 l0 x3_1).f2) ≥ 0 then ((gangwayref20_Filestat.f kj9 ((rd_T35 l0 x3_1).f1.f0) ((rd_T35 l0 x3_1).f1.f1) ((rd_T35 l0 x3_1).f1.f2) ((rd_T35 l0 x3_1).f1.f3) ((rd_T35 l0 x3_1).f1.f4) ((rd_T35 l0 x3_1).f1.f5) ((rd_T35 l0 x3_1).f2)).bind fun t399 => ((gangwaylaw20_is.f kj9 t389 t392 (decide (((rd_T35 l0 x3_1).f2) < 64)) t399).bind fun t402 => (gangwaylaw20_StatNodes.j4 kj9 l0 x3_1 (!t402)))) else ((gangwayref20_Filestat.f kj9 ((rd_T35 l0 x3_1).f1.f0) ((rd_T35 l0 x3_1).f1.f1) ((rd_T35 l0 x3_1).f1.f2) ((rd_T35 l0 x3_1).f1.f3) ((rd_T35 l0 x3_1).f1.f4) ((rd_T35 l0 x3_1).f1.f5) ((rd_T35 l0 x3_1).f2)).bind fun t405 => ((gangwaylaw20_is.f kj9 t389 t392 false t405).bind fun t408 => (gangwaylaw20_StatNodes.j4 kj9 l0 x3_1 (!t408))))) else ((gangwayref20_Filestat.f kj9 ((rd_T35 l0 x3_1).f1.f0) ((rd_T35 l0 x3_1).f1.f1) ((rd_T35 l0 x3_1).f1.f2) ((rd_T35 l0 x3_1).f1.f3) ((rd_T35 l0 x3_1).f1.f4) ((rd_T35 l0 x3_1).f1.f5) ((rd_T35 l0 x3_1).f2)).bind fun t411 => ((gangwaylaw20_is.f kj9 t389 t392 false t411).bind fun t414 => (gangwaylaw20_StatNodes.j4 kj9 l0 x3_1 (!t414))))) else ((gangwayref20_Filestat.f kj9 ((rd_T35 l0 x3_1).f1.f0) ((rd_T35 l0 x3_1).f1.f1) ((rd_T35 l0 x3_1).f1.f2) ((rd_T35 l0 x3_1).f1.f3) ((rd_T35 l0 x3_1).f1.f4) ((rd_T35 l0 x3_1).f1.f5) ((rd_T35 l0 x3_1).f2)).bind fun t417 => ((gangwaylaw20_is.f kj9 t389 t392 false t417).bind fun t420 => (gangwaylaw20_StatNodes.j4 kj9 l0 x3_1 (!t420))))) = some r := H
                     have A15 := Aside0.mk A150
                     clear A150
                     have HC16 := Aside0.mk H
                     clear H
                     try go_wp2
                     have n0_ := Aside0.mk (below_drew1 HB.out)
                     clear HB
                     have HB := n0_
                     clear n0_
                     have p387 : 0 ≤ (x3_1 : Int) := of_decide_eq_true (by first | (with_reducible assumption) | assumption)
                     have q387 : x3_1 < (l0.length : Int) := of_decide_eq_true (by first | (with_reducible assumption) | assumption)
                     obtain ⟨ad387, A387_8, c387_8, A387_9, c387_9, A387_22, c387_22, e387, hx387_0, hx387_1, hx387_2, hx387_3, hx387_4, hx387_5, hx387_6, hx387_7, hx387_8, hx387_9, hx387_10, hx387_11, hx387_12, hx387_13, hx387_14, hx387_15, hx387_16, hx387_17, hx387_18, hx387_19, hx387_20, hx387_21, hx387_22, hl387_8, hi387_8, hl387_9, hi387_9, hl387_22, hi387_22⟩ := at_T35 HR0.out x3_1 p387 q387
                     have hw387_22 := hx387_22
                     have hw387_21 := hx387_21
                     have hw387_20 := hx387_20
                     have hw387_19 := hx387_19
                     have hw387_18 := hx387_18
                     have hw387_17 := hx387_17
                     have hw387_16 := hx387_16
                     have hw387_15 := hx387_15
                     have hw387_14 := hx387_14
                     have hw387_13 := hx387_13
                     have hw387_12 := hx387_12
                     have hw387_11 := hx387_11
                     have hw387_10 := hx387_10
                     have hw387_9 := hx387_9
                     have hw387_8 := hx387_8
                     have hw387_7 := hx387_7
                     have hw387_6 := hx387_6
                     have hw387_5 := hx387_5
                     have hw387_4 := hx387_4
                     have hw387_3 := hx387_3
                     have hw387_2 := hx387_2
                     have hw387_1 := hx387_1
                     have hw387_0 := hx387_0
                     obtain rfl : ad385 = ad387 := (by injection e387)
                     replace hx387_0 := up HB hx387_0
                     replace hx387_1 := up HB hx387_1
                     replace hx387_2 := up HB hx387_2
                     replace hx387_3 := up HB hx387_3
                     replace hx387_4 := up HB hx387_4
                     replace hx387_5 := up HB hx387_5
                     replace hx387_6 := up HB hx387_6
                     replace hx387_7 := up HB hx387_7
                     replace hx387_8 := up HB hx387_8
                     replace hx387_9 := up HB hx387_9
                     replace hx387_10 := up HB hx387_10
                     replace hx387_11 := up HB hx387_11
                     replace hx387_12 := up HB hx387_12
                     replace hx387_13 := up HB hx387_13
                     replace hx387_14 := up HB hx387_14
                     replace hx387_15 := up HB hx387_15
                     replace hx387_16 := up HB hx387_16
                     replace hx387_17 := up HB hx387_17
                     replace hx387_18 := up HB hx387_18
                     replace hx387_19 := up HB hx387_19
                     replace hx387_20 := up HB hx387_20
                     replace hx387_21 := up HB hx387_21
                     replace hx387_22 := up HB hx387_22
                     have HR387_8 := Aside0.mk hi387_8
                     have HC387_8 := Aside0.mk hl387_8
                     clear hi387_8 hl387_8
                     have HR387_9 := Aside0.mk hi387_9
                     have HC387_9 := Aside0.mk hl387_9
                     clear hi387_9 hl387_9
                     have HR387_22 := Aside0.mk hi387_22
                     have HC387_22 := Aside0.mk hl387_22
                     clear hi387_22 hl387_22
                     replace p387 := eq_true p387
                     replace q387 := eq_true q387
                     have p388 : 0 ≤ (x3_1 : Int) := of_decide_eq_true (by first | (with_reducible assumption) | assumption)
                     have q388 : x3_1 < (l0.length : Int) := of_decide_eq_true (by first | (with_reducible assumption) | assumption)
                     obtain ⟨ad388, A388_8, c388_8, A388_9, c388_9, A388_22, c388_22, e388, -, -, -, -, -, -, -, -, hx388_8, hx388_9, -, -, -, -, -, -, -, -, -, -, -, -, hx388_22, hl388_8, hi388_8, hl388_9, hi388_9, hl388_22, hi388_22⟩ := at_T35 HR0.out x3_1 p388 q388
                     obtain rfl : ad385 = ad388 := (by injection e388)
                     replace hx388_8 := up HB hx388_8
                     replace hx388_9 := up HB hx388_9
                     replace hx388_22 := up HB hx388_22
                     have HR388_8 := Aside0.mk hi388_8
                     have HC388_8 := Aside0.mk hl388_8
                     clear hi388_8 hl388_8
                     have HR388_9 := Aside0.mk hi388_9
                     have HC388_9 := Aside0.mk hl388_9
                     clear hi388_9 hl388_9
                     have HR388_22 := Aside0.mk hi388_22
                     have HC388_22 := Aside0.mk hl388_22
                     clear hi388_22 hl388_22
                     replace p388 := eq_true p388
                     replace q388 := eq_true q388
                     have ea_ := Option.some.inj (hx387_8.symm.trans hx388_8)
                     injection ea_ with ea_ en_ ec_; subst ea_; subst ec_; clear en_
                     have ea_ := Option.some.inj (hx387_9.symm.trans hx388_9)
                     injection ea_ with ea_ en_ ec_; subst ea_; subst ec_; clear en_
                     have ea_ := Option.some.inj (hx387_22.symm.trans hx388_22)
                     injection ea_ with ea_ en_ ec_; subst ea_; subst ec_; clear en_
                     refine start_ (n := 16) (S := fun w' => w'.cell? (ad385.add ((x3_1).toNat * 23)) = some (.int .i64 ((rd_T35 l0 x3_1).f0.f0)) ∧ w'.cell? ⟨(ad385.add ((x3_1).toNat * 23)).block, (ad385.add ((x3_1).toNat * 23)).off + 1, none⟩ = some (.int .i64 ((rd_T35 l0 x3_1).f0.f1)) ∧ w'.cell? ⟨(ad385.add ((x3_1).toNat * 23)).block, (ad385.add ((x3_1).toNat * 23)).off + 2, none⟩ = some (.int .i64 ((rd_T35 l0 x3_1).f0.f2)) ∧ w'.cell? ⟨(ad385.add ((x3_1).toNat * 23)).block, (ad385.add ((x3_1).toNat * 23)).off + 3, none⟩ = some (.int .i64 ((rd_T35 l0 x3_1).f0.f3)) ∧ w'.cell? ⟨(ad385.add ((x3_1).toNat * 23)).block, (ad385.add ((x3_1).toNat * 23)).off + 4, none⟩ = some (.int .i64 ((rd_T35 l0 x3_1).f0.f4)) ∧ w'.cell? ⟨(ad385.add ((x3_1).toNat * 23)).block, (ad385.add ((x3_1).toNat * 23)).off + 5, none⟩ = some (.int .i64 ((rd_T35 l0 x3_1).f0.f5)) ∧ w'.cell? ⟨(ad385.add ((x3_1).toNat * 23)).block, (ad385.add ((x3_1).toNat * 23)).off + 6, none⟩ = some (.string ((rd_T35 l0 x3_1).f0.f6)) ∧ w'.cell? ⟨(ad385.add ((x3_1).toNat * 23)).block, (ad385.add ((x3_1).toNat * 23)).off + 7, none⟩ = some (.int .i64 ((rd_T35 l0 x3_1).f1.f0)) ∧ w'.cell? ⟨(ad385.add ((x3_1).toNat * 23)).block, (ad385.add ((x3_1).toNat * 23)).off + 8, none⟩ = some (.slice A387_8 ((rd_T35 l0 x3_1).f1.f1).length c387_8) ∧ w'.cell? ⟨(ad385.add ((x3_1).toNat * 23)).block, (ad385.add ((x3_1).toNat * 23)).off + 9, none⟩ = some (.slice A387_9 ((rd_T35 l0 x3_1).f1.f2).length c387_9) ∧ w'.cell? ⟨(ad385.add ((x3_1).toNat * 23)).block, (ad385.add ((x3_1).toNat * 23)).off + 10, none⟩ = some (.string ((rd_T35 l0 x3_1).f1.f3)) ∧ w'.cell? ⟨(ad385.add ((x3_1).toNat * 23)).block, (ad385.add ((x3_1).toNat * 23)).off + 11, none⟩ = some (.int .i64 ((rd_T35 l0 x3_1).f1.f4)) ∧ w'.cell? ⟨(ad385.add ((x3_1).toNat * 23)).block, (ad385.add ((x3_1).toNat * 23)).off + 12, none⟩ = some (.int .i64 ((rd_T35 l0 x3_1).f1.f5)) ∧ w'.cell? ⟨(ad385.add ((x3_1).toNat * 23)).block, (ad385.add ((x3_1).toNat * 23)).off + 13, none⟩ = some (.int .i64 ((rd_T35 l0 x3_1).f2)) ∧ w'.cell? ⟨(ad385.add ((x3_1).toNat * 23)).block, (ad385.add ((x3_1).toNat * 23)).off + 14, none⟩ = some (.string ((rd_T35 l0 x3_1).f3)) ∧ w'.cell? ⟨(ad385.add ((x3_1).toNat * 23)).block, (ad385.add ((x3_1).toNat * 23)).off + 15, none⟩ = some (.int .i64 ((rd_T35 l0 x3_1).f4)) ∧ w'.cell? ⟨(ad385.add ((x3_1).toNat * 23)).block, (ad385.add ((x3_1).toNat * 23)).off + 16, none⟩ = some (.int .i64 ((rd_T35 l0 x3_1).f5)) ∧ w'.cell? ⟨(ad385.add ((x3_1).toNat * 23)).block, (ad385.add ((x3_1).toNat * 23)).off + 17, none⟩ = some (.int .i64 ((rd_T35 l0 x3_1).f6)) ∧ w'.cell? ⟨(ad385.add ((x3_1).toNat * 23)).block, (ad385.add ((x3_1).toNat * 23)).off + 18, none⟩ = some (.int .i64 ((rd_T35 l0 x3_1).f7.f0)) ∧ w'.cell? ⟨(ad385.add ((x3_1).toNat * 23)).block, (ad385.add ((x3_1).toNat * 23)).off + 19, none⟩ = some (.int .i64 ((rd_T35 l0 x3_1).f7.f1)) ∧ w'.cell? ⟨(ad385.add ((x3_1).toNat * 23)).block, (ad385.add ((x3_1).toNat * 23)).off + 20, none⟩ = some (.int .i64 ((rd_T35 l0 x3_1).f7.f2)) ∧ w'.cell? ⟨(ad385.add ((x3_1).toNat * 23)).block, (ad385.add ((x3_1).toNat * 23)).off + 21, none⟩ = some (.int .i64 ((rd_T35 l0 x3_1).f7.f3)) ∧ w'.cell? ⟨(ad385.add ((x3_1).toNat * 23)).block, (ad385.add ((x3_1).toNat * 23)).off + 22, none⟩ = some (.slice A387_22 ((rd_T35 l0 x3_1).f8).length c387_22)) (ds := []) bb16_ (by kernel_rfl) rfl rfl ⟨(up HB hw387_0 :), (up HB hw387_1 :), (up HB hw387_2 :), (up HB hw387_3 :), (up HB hw387_4 :), (up HB hw387_5 :), (up HB hw387_6 :), (up HB hw387_7 :), (up HB hw387_8 :), (up HB hw387_9 :), (up HB hw387_10 :), (up HB hw387_11 :), (up HB hw387_12 :), (up HB hw387_13 :), (up HB hw387_14 :), (up HB hw387_15 :), (up HB hw387_16 :), (up HB hw387_17 :), (up HB hw387_18 :), (up HB hw387_19 :), (up HB hw387_20 :), (up HB hw387_21 :), (up HB hw387_22 :)⟩ (fun hHeld => ?_); refine with_tabW gangwaylaw20_StatNodes.tab6 gangwaylaw20_StatNodes.bits6 (fun HT_ HW_ => ?_)
                     generalize wc.drew = w17 at HB HR387_22 HR387_8 HR387_9 HR388_22 HR388_8 HR388_9 hx387_0 hx387_1 hx387_10 hx387_11 hx387_12 hx387_13 hx387_14 hx387_15 hx387_16 hx387_17 hx387_18 hx387_19 hx387_2 hx387_20 hx387_21 hx387_22 hx387_3 hx387_4 hx387_5 hx387_6 hx387_7 hx387_8 hx387_9 hx388_22 hx388_8 hx388_9 hHeld ⊢
                     refine pure_ (i := 0) (N := some 22) (v := ?_) (a' := ?_) bb15_ rfl rfl (any_of HT_.out (by kernel_rfl)) (fun _ _ _ h => h) (Or.inl ⟨by rfl, ?_⟩) ?_ ?_
                     rotate_left; · intro w'; go_simp; with_reducible rfl
                     rotate_left; · simp only [Act.put, List.setIfInBounds_toArray, List.set_cons_zero, List.set_cons_succ, i64_w, i32_w]; rfl
                     refine pure_ (i := 1) (N := some 23) (v := ?_) (a' := ?_) bb14_ rfl rfl (any_of HT_.out (by kernel_rfl)) (fun _ _ _ h => h) (Or.inl ⟨by rfl, ?_⟩) ?_ ?_
                     rotate_left; · intro w'; go_simp; with_reducible rfl
                     rotate_left; · simp only [Act.put, List.setIfInBounds_toArray, List.set_cons_zero, List.set_cons_succ, i64_w, i32_w]; rfl
                     refine pure_ (i := 2) (N := some 24) (v := ?_) (a' := ?_) bb13_ rfl rfl (any_of HT_.out (by kernel_rfl)) (fun _ _ _ h => h) (Or.inl ⟨by rfl, ?_⟩) ?_ ?_
                     rotate_left; · intro w'; go_simp; with_reducible rfl
                     rotate_left; · simp only [Act.put, List.setIfInBounds_toArray, List.set_cons_zero, List.set_cons_succ, i64_w, i32_w]; rfl
                     refine pure_ (i := 3) (N := some 25) (v := ?_) (a' := ?_) bb12_ rfl rfl (any_of HT_.out (by kernel_rfl)) (fun _ _ _ h => h) (Or.inl ⟨by rfl, ?_⟩) ?_ ?_
                     rotate_left; · intro w'; go_simp; with_reducible rfl
                     rotate_left; · simp only [Act.put, List.setIfInBounds_toArray, List.set_cons_zero, List.set_cons_succ, i64_w, i32_w]; rfl
                     refine pure_ (i := 5) (N := some 27) (v := ?_) (a' := ?_) bb11_ rfl rfl (any_of HT_.out (by kernel_rfl)) (fun _ _ _ h => h) (Or.inl ⟨by rfl, ?_⟩) ?_ ?_
                     rotate_left; · intro w'; go_simp; with_reducible rfl
                     rotate_left; · simp only [Act.put, List.setIfInBounds_toArray, List.set_cons_zero, List.set_cons_succ, i64_w, i32_w]; rfl
                     refine pure_ (i := 6) (N := some 28) (v := ?_) (a' := ?_) bb10_ rfl rfl (any_of HT_.out (by kernel_rfl)) (fun _ _ _ h => h) (Or.inl ⟨by rfl, ?_⟩) ?_ ?_
                     rotate_left; · intro w'; go_simp; with_reducible rfl
                     rotate_left; · simp only [Act.put, List.setIfInBounds_toArray, List.set_cons_zero, List.set_cons_succ, i64_w, i32_w]; rfl
                     refine pure_ (i := 7) (N := some 29) (v := ?_) (a' := ?_) bb9_ rfl rfl (any_of HT_.out (by kernel_rfl)) (fun _ _ _ h => h) (Or.inl ⟨by rfl, ?_⟩) ?_ ?_
                     rotate_left; · intro w'; go_simp; with_reducible rfl
                     rotate_left; · simp only [Act.put, List.setIfInBounds_toArray, List.set_cons_zero, List.set_cons_succ, i64_w, i32_w]; rfl
                     refine pure_ (i := 8) (N := some 30) (v := ?_) (a' := ?_) bb8_ rfl rfl (any_of HT_.out (by kernel_rfl)) (fun _ _ _ h => h) (Or.inl ⟨by rfl, ?_⟩) ?_ ?_
                     rotate_left; · intro w'; go_simp; with_reducible rfl
                     rotate_left; · simp only [Act.put, List.setIfInBounds_toArray, List.set_cons_zero, List.set_cons_succ, i64_w, i32_w]; rfl
                     refine take_ (i := 4) (N := some 26) (v := ?_) (a' := ?_) bb7_ rfl rfl (take_ofW HT_.out HW_.out (by kernel_rfl)) (fun _ _ _ h => h) (Or.inl ⟨by rfl, ?_⟩) hHeld ?_ ?_
                     rotate_left; · rintro w' ⟨s0, s1, s2, s3, s4, s5, s6, s7, s8, s9, s10, s11, s12, s13, s14, s15, s16, s17, s18, s19, s20, s21, s22⟩; go_simp; with_reducible rfl
                     rotate_left; · simp only [Act.put, List.setIfInBounds_toArray, List.set_cons_zero, List.set_cons_succ, i64_w, i32_w]; rfl
                     refine take_ (i := 9) (N := some 31) (v := ?_) (a' := ?_) bb6_ rfl rfl (take_ofW HT_.out HW_.out (by kernel_rfl)) (fun _ _ _ h => h) (Or.inl ⟨by rfl, ?_⟩) hHeld ?_ ?_
                     rotate_left; · rintro w' ⟨s0, s1, s2, s3, s4, s5, s6, s7, s8, s9, s10, s11, s12, s13, s14, s15, s16, s17, s18, s19, s20, s21, s22⟩; go_simp; with_reducible rfl
                     rotate_left; · simp only [Act.put, List.setIfInBounds_toArray, List.set_cons_zero, List.set_cons_succ, i64_w, i32_w]; rfl
                     refine one_ (i := 10) (N := some 32) bb5_ rfl rfl (one_of HT_.out (by kernel_rfl)) (by decide) (fun K hK => ?_)
                     refine goes_ Try.func24 (by kernel_rfl) rfl #[.agg #[.int .i64 ((rd_T35 l0 x3_1).f1.f0), .slice A387_8 ((rd_T35 l0 x3_1).f1.f1).length c387_8, .slice A387_9 ((rd_T35 l0 x3_1).f1.f2).length c387_9, .string ((rd_T35 l0 x3_1).f1.f3), .int .i64 ((rd_T35 l0 x3_1).f1.f4), .int .i64 ((rd_T35 l0 x3_1).f1.f5)], .int .i64 ((rd_T35 l0 x3_1).f2)] (by rfl) rfl rfl (by (try simp only [List.map_toArray, List.map_cons, List.map_nil]); first | done | rfl | (simp only [List.length_drop, List.length_take]; rfl)) ?_
                     with_reducible refine (stat_Filestat.calls kj9 ((rd_T35 l0 x3_1).f1.f0) _ _ ((rd_T35 l0 x3_1).f1.f1) _ _ ((rd_T35 l0 x3_1).f1.f2) ((rd_T35 l0 x3_1).f1.f3) ((rd_T35 l0 x3_1).f1.f4) ((rd_T35 l0 x3_1).f1.f5) ((rd_T35 l0 x3_1).f2) t389 t392 _ ?side1 ?side2 ?side3 ?side4 A15.out).mono ?_
                     (case side1 => repeat (first | exact (Kd.C_below HR387_8.out HB.out) | (with_reducible refine Kd.C_alloc ?_ _) | (with_reducible refine Kd.C_drewN ?_ _) | (with_reducible refine Kd.C_drew ?_)))
                     (case side2 => exact HC387_8.out)
                     (case side3 => repeat (first | exact (Kd.C_below HR387_9.out HB.out) | (with_reducible refine Kd.C_alloc ?_ _) | (with_reducible refine Kd.C_drewN ?_ _) | (with_reducible refine Kd.C_drew ?_)))
                     (case side4 => exact HC387_9.out)
                     rintro e w18 ⟨v390, rfl, ho0, hb⟩
                     refine ⟨_, rfl, ?_⟩
                     have n0_ := Aside0.mk (Kd.R_lower ho0 (below_size (by repeat (first | (with_reducible first | exact HB.out | apply below_alloc | apply pw_below_drewN | apply below_drew1) | exact HB.out))))
                     have n1_ := Aside0.mk (below_step (by repeat (first | (with_reducible first | exact HB.out | apply below_alloc | apply pw_below_drewN | apply below_drew1) | exact HB.out)) hb)
                     clear HB
                     have HO391 := n0_
                     have HB := n1_
                     clear n0_ n1_
                     (try clear hb)
                     (try clear hb2)
                     (try clear hk)
                     (try clear hi)
                     (try clear ho0)
                     refine hK.out _ _ ⟨(up HB hw387_0 :), (up HB hw387_1 :), (up HB hw387_2 :), (up HB hw387_3 :), (up HB hw387_4 :), (up HB hw387_5 :), (up HB hw387_6 :), (up HB hw387_7 :), (up HB hw387_8 :), (up HB hw387_9 :), (up HB hw387_10 :), (up HB hw387_11 :), (up HB hw387_12 :), (up HB hw387_13 :), (up HB hw387_14 :), (up HB hw387_15 :), (up HB hw387_16 :), (up HB hw387_17 :), (up HB hw387_18 :), (up HB hw387_19 :), (up HB hw387_20 :), (up HB hw387_21 :), (up HB hw387_22 :)⟩ (fun hHeld => ?_)
                     clear hK K
                     refine norm_ (a' := ?_) ?_ ?_
                     rotate_left
                     ·show Act.put _ (some 32) _ = _
                      simp only [Act.put, List.setIfInBounds_toArray, List.set_cons_zero, List.set_cons_succ, i64_w, i32_w]
                      rfl
                     refine pure_ (i := 11) (N := some 21) (v := ?_) (a' := ?_) bb4_ rfl rfl (any_of HT_.out (by kernel_rfl)) (fun _ _ _ h => h) (Or.inl ⟨by rfl, ?_⟩) ?_ ?_
                     rotate_left; · intro w'; go_simp; with_reducible rfl
                     rotate_left; · simp only [Act.put, List.setIfInBounds_toArray, List.set_cons_zero, List.set_cons_succ, i64_w, i32_w]; rfl
                     refine pure_ (i := 12) (N := some 33) (v := ?_) (a' := ?_) bb3_ rfl rfl (any_of HT_.out (by kernel_rfl)) (fun _ _ _ h => h) (Or.inl ⟨by rfl, ?_⟩) ?_ ?_
                     rotate_left; · intro w'; go_simp; with_reducible rfl
                     rotate_left; · simp only [Act.put, List.setIfInBounds_toArray, List.set_cons_zero, List.set_cons_succ, i64_w, i32_w]; rfl
                     refine pure_ (i := 13) (N := some 34) (v := ?_) (a' := ?_) bb2_ rfl rfl (any_of HT_.out (by kernel_rfl)) (fun _ _ _ h => h) (Or.inl ⟨by rfl, ?_⟩) ?_ ?_
                     rotate_left; · intro w'; go_simp; with_reducible rfl
                     rotate_left; · simp only [Act.put, List.setIfInBounds_toArray, List.set_cons_zero, List.set_cons_succ, i64_w, i32_w]; rfl
                     refine pure_ (i := 14) (N := some 4) (v := ?_) (a' := ?_) bb1_ rfl rfl (any_of HT_.out (by kernel_rfl)) (fun _ _ _ h => h) (Or.inl ⟨by rfl, ?_⟩) ?_ ?_
                     rotate_left; · intro w'; go_simp; with_reducible rfl
                     rotate_left; · simp only [Act.put, List.setIfInBounds_toArray, List.set_cons_zero, List.set_cons_succ, i64_w, i32_w]; rfl
                     refine pure_ (i := 15) (N := some 5) (v := ?_) (a' := ?_) bb0_ rfl rfl (any_of HT_.out (by kernel_rfl)) (fun _ _ _ h => h) (Or.inl ⟨by rfl, ?_⟩) ?_ ?_
                     rotate_left; · intro w'; go_simp; with_reducible rfl
                     rotate_left; · simp only [Act.put, List.setIfInBounds_toArray, List.set_cons_zero, List.set_cons_succ, i64_w, i32_w]; rfl
                     refine done_ (done_of HT_.out (by kernel_rfl)) ?_
                     go_upto_region 7 with (fail)
                     go_cut [81] (fun v81 wc => ∃ (kq : Nat) (x81_15 : Bool), v81 = .bool x81_15 ∧ Aside0 (gangwaylaw20_StatNodes.j4 kq l0 x3_1 x81_15 = some r) ∧ Aside0 (kq ≤ kj9) ∧ Aside0 (Below w.heap.size w wc))
                     case first =>
                      have H := HC16.out
                      clear HC16
                      by_cases c19 : ((rd_T35 l0 x3_1).f1.f0) ≥ 1
                      ·as_aux_lemma =>
                        rw [if_pos c19] at H
                        have c19b0 : decide (1 ≤ ((rd_T35 l0 x3_1).f1.f0)) = true := decide_eq_true c19
                        clear c19
                        (first | rw [c19b0] | (simp only [i64_w, i32_w]; rw [c19b0]) | skip)
                        by_cases c20 : ((rd_T35 l0 x3_1).f1.f0) ≤ 3
                        ·as_aux_lemma =>
                          rw [if_pos c20] at H
                          have c20b0 : decide (((rd_T35 l0 x3_1).f1.f0) ≤ 3) = true := decide_eq_true c20
                          clear c20
                          by_cases c21 : ((rd_T35 l0 x3_1).f2) ≥ 0
                          ·as_aux_lemma =>
                            rw [if_pos c21] at H
                            have c21b0 : decide (0 ≤ ((rd_T35 l0 x3_1).f2)) = true := decide_eq_true c21
                            clear c21
                            replace H := Option.bind_eq_some_iff.mp H
                            obtain ⟨t399, A220, H⟩ := H
                            replace H : ((gangwaylaw20_is.f kj9 t389 t392 (decide (((rd_T35 l0 x3_1).f2) < 64)) t399).bind fun t402 => (gangwaylaw20_StatNodes.j4 kj9 l0 x3_1 (!t402))) = some r := H
                            have A22 := Aside0.mk A220
                            clear A220
                            replace H := Option.bind_eq_some_iff.mp H
                            obtain ⟨t402, A230, H⟩ := H
                            replace H : (gangwaylaw20_StatNodes.j4 kj9 l0 x3_1 (!t402)) = some r := H
                            have A23 := Aside0.mk A230
                            clear A230
                            have H' := Aside0.mk H
                            clear H
                            try go_wp2
                            have n0_ := Aside0.mk (Kd.R_drew HO391.out)
                            have n1_ := Aside0.mk (below_drew1 HB.out)
                            clear HO391
                            clear HB
                            have HO391 := n0_
                            have HB := n1_
                            clear n0_ n1_
                            have p393 : 0 ≤ (x3_1 : Int) := of_decide_eq_true (by first | (with_reducible assumption) | assumption)
                            have q393 : x3_1 < (l0.length : Int) := of_decide_eq_true (by first | (with_reducible assumption) | assumption)
                            obtain ⟨ad393, A393_8, c393_8, A393_9, c393_9, A393_22, c393_22, e393, hx393_0, hx393_1, hx393_2, hx393_3, hx393_4, hx393_5, hx393_6, hx393_7, hx393_8, hx393_9, hx393_10, hx393_11, hx393_12, hx393_13, hx393_14, hx393_15, hx393_16, hx393_17, hx393_18, hx393_19, hx393_20, hx393_21, hx393_22, hl393_8, hi393_8, hl393_9, hi393_9, hl393_22, hi393_22⟩ := at_T35 HR0.out x3_1 p393 q393
                            have hw393_22 := hx393_22
                            have hw393_21 := hx393_21
                            have hw393_20 := hx393_20
                            have hw393_19 := hx393_19
                            have hw393_18 := hx393_18
                            have hw393_17 := hx393_17
                            have hw393_16 := hx393_16
                            have hw393_15 := hx393_15
                            have hw393_14 := hx393_14
                            have hw393_13 := hx393_13
                            have hw393_12 := hx393_12
                            have hw393_11 := hx393_11
                            have hw393_10 := hx393_10
                            have hw393_9 := hx393_9
                            have hw393_8 := hx393_8
                            have hw393_7 := hx393_7
                            have hw393_6 := hx393_6
                            have hw393_5 := hx393_5
                            have hw393_4 := hx393_4
                            have hw393_3 := hx393_3
                            have hw393_2 := hx393_2
                            have hw393_1 := hx393_1
                            have hw393_0 := hx393_0
                            obtain rfl : ad385 = ad393 := (by injection e393)
                            replace hx393_0 := up HB hx393_0
                            replace hx393_1 := up HB hx393_1
                            replace hx393_2 := up HB hx393_2
                            replace hx393_3 := up HB hx393_3
                            replace hx393_4 := up HB hx393_4
                            replace hx393_5 := up HB hx393_5
                            replace hx393_6 := up HB hx393_6
                            replace hx393_7 := up HB hx393_7
                            replace hx393_8 := up HB hx393_8
                            replace hx393_9 := up HB hx393_9
                            replace hx393_10 := up HB hx393_10
                            replace hx393_11 := up HB hx393_11
                            replace hx393_12 := up HB hx393_12
                            replace hx393_13 := up HB hx393_13
                            replace hx393_14 := up HB hx393_14
                            replace hx393_15 := up HB hx393_15
                            replace hx393_16 := up HB hx393_16
                            replace hx393_17 := up HB hx393_17
                            replace hx393_18 := up HB hx393_18
                            replace hx393_19 := up HB hx393_19
                            replace hx393_20 := up HB hx393_20
                            replace hx393_21 := up HB hx393_21
                            replace hx393_22 := up HB hx393_22
                            have HR393_8 := Aside0.mk hi393_8
                            have HC393_8 := Aside0.mk hl393_8
                            clear hi393_8 hl393_8
                            have HR393_9 := Aside0.mk hi393_9
                            have HC393_9 := Aside0.mk hl393_9
                            clear hi393_9 hl393_9
                            have HR393_22 := Aside0.mk hi393_22
                            have HC393_22 := Aside0.mk hl393_22
                            clear hi393_22 hl393_22
                            replace p393 := eq_true p393
                            replace q393 := eq_true q393
                            have p394 : 0 ≤ (x3_1 : Int) := of_decide_eq_true (by first | (with_reducible assumption) | assumption)
                            have q394 : x3_1 < (l0.length : Int) := of_decide_eq_true (by first | (with_reducible assumption) | assumption)
                            obtain ⟨ad394, A394_8, c394_8, A394_9, c394_9, A394_22, c394_22, e394, -, -, -, -, -, -, -, -, hx394_8, hx394_9, -, -, -, -, -, -, -, -, -, -, -, -, hx394_22, hl394_8, hi394_8, hl394_9, hi394_9, hl394_22, hi394_22⟩ := at_T35 HR0.out x3_1 p394 q394
                            obtain rfl : ad385 = ad394 := (by injection e394)
                            replace hx394_8 := up HB hx394_8
                            replace hx394_9 := up HB hx394_9
                            replace hx394_22 := up HB hx394_22
                            have HR394_8 := Aside0.mk hi394_8
                            have HC394_8 := Aside0.mk hl394_8
                            clear hi394_8 hl394_8
                            have HR394_9 := Aside0.mk hi394_9
                            have HC394_9 := Aside0.mk hl394_9
                            clear hi394_9 hl394_9
                            have HR394_22 := Aside0.mk hi394_22
                            have HC394_22 := Aside0.mk hl394_22
                            clear hi394_22 hl394_22
                            replace p394 := eq_true p394
                            replace q394 := eq_true q394
                            have ea_ := Option.some.inj (hx393_8.symm.trans hx394_8)
                            injection ea_ with ea_ en_ ec_; subst ea_; subst ec_; clear en_
                            have ea_ := Option.some.inj (hx393_9.symm.trans hx394_9)
                            injection ea_ with ea_ en_ ec_; subst ea_; subst ec_; clear en_
                            have ea_ := Option.some.inj (hx393_22.symm.trans hx394_22)
                            injection ea_ with ea_ en_ ec_; subst ea_; subst ec_; clear en_
                            have p395 : 0 ≤ (x3_1 : Int) := of_decide_eq_true (by first | (with_reducible assumption) | assumption)
                            have q395 : x3_1 < (l0.length : Int) := of_decide_eq_true (by first | (with_reducible assumption) | assumption)
                            obtain ⟨ad395, A395_8, c395_8, A395_9, c395_9, A395_22, c395_22, e395, -, -, -, -, -, -, -, -, hx395_8, hx395_9, -, -, -, -, -, -, -, -, -, -, -, -, hx395_22, hl395_8, hi395_8, hl395_9, hi395_9, hl395_22, hi395_22⟩ := at_T35 HR0.out x3_1 p395 q395
                            obtain rfl : ad385 = ad395 := (by injection e395)
                            replace hx395_8 := up HB hx395_8
                            replace hx395_9 := up HB hx395_9
                            replace hx395_22 := up HB hx395_22
                            have HR395_8 := Aside0.mk hi395_8
                            have HC395_8 := Aside0.mk hl395_8
                            clear hi395_8 hl395_8
                            have HR395_9 := Aside0.mk hi395_9
                            have HC395_9 := Aside0.mk hl395_9
                            clear hi395_9 hl395_9
                            have HR395_22 := Aside0.mk hi395_22
                            have HC395_22 := Aside0.mk hl395_22
                            clear hi395_22 hl395_22
                            replace p395 := eq_true p395
                            replace q395 := eq_true q395
                            have ea_ := Option.some.inj (hx393_8.symm.trans hx395_8)
                            injection ea_ with ea_ en_ ec_; subst ea_; subst ec_; clear en_
                            have ea_ := Option.some.inj (hx393_9.symm.trans hx395_9)
                            injection ea_ with ea_ en_ ec_; subst ea_; subst ec_; clear en_
                            have ea_ := Option.some.inj (hx393_22.symm.trans hx395_22)
                            injection ea_ with ea_ en_ ec_; subst ea_; subst ec_; clear en_
                            have p396 : 0 ≤ (x3_1 : Int) := of_decide_eq_true (by first | (with_reducible assumption) | assumption)
                            have q396 : x3_1 < (l0.length : Int) := of_decide_eq_true (by first | (with_reducible assumption) | assumption)
                            obtain ⟨ad396, A396_8, c396_8, A396_9, c396_9, A396_22, c396_22, e396, -, -, -, -, -, -, -, -, hx396_8, hx396_9, -, -, -, -, -, -, -, -, -, -, -, -, hx396_22, hl396_8, hi396_8, hl396_9, hi396_9, hl396_22, hi396_22⟩ := at_T35 HR0.out x3_1 p396 q396
                            obtain rfl : ad385 = ad396 := (by injection e396)
                            replace hx396_8 := up HB hx396_8
                            replace hx396_9 := up HB hx396_9
                            replace hx396_22 := up HB hx396_22
                            have HR396_8 := Aside0.mk hi396_8
                            have HC396_8 := Aside0.mk hl396_8
                            clear hi396_8 hl396_8
                            have HR396_9 := Aside0.mk hi396_9
                            have HC396_9 := Aside0.mk hl396_9
                            clear hi396_9 hl396_9
                            have HR396_22 := Aside0.mk hi396_22
                            have HC396_22 := Aside0.mk hl396_22
                            clear hi396_22 hl396_22
                            replace p396 := eq_true p396
                            replace q396 := eq_true q396
                            have ea_ := Option.some.inj (hx393_8.symm.trans hx396_8)
                            injection ea_ with ea_ en_ ec_; subst ea_; subst ec_; clear en_
                            have ea_ := Option.some.inj (hx393_9.symm.trans hx396_9)
                            injection ea_ with ea_ en_ ec_; subst ea_; subst ec_; clear en_
                            have ea_ := Option.some.inj (hx393_22.symm.trans hx396_22)
                            injection ea_ with ea_ en_ ec_; subst ea_; subst ec_; clear en_
                            have p397 : 0 ≤ (x3_1 : Int) := of_decide_eq_true (by first | (with_reducible assumption) | assumption)
                            have q397 : x3_1 < (l0.length : Int) := of_decide_eq_true (by first | (with_reducible assumption) | assumption)
                            obtain ⟨ad397, A397_8, c397_8, A397_9, c397_9, A397_22, c397_22, e397, -, -, -, -, -, -, -, -, hx397_8, hx397_9, -, -, -, -, -, -, -, -, -, -, -, -, hx397_22, hl397_8, hi397_8, hl397_9, hi397_9, hl397_22, hi397_22⟩ := at_T35 HR0.out x3_1 p397 q397
                            obtain rfl : ad385 = ad397 := (by injection e397)
                            replace hx397_8 := up HB hx397_8
                            replace hx397_9 := up HB hx397_9
                            replace hx397_22 := up HB hx397_22
                            have HR397_8 := Aside0.mk hi397_8
                            have HC397_8 := Aside0.mk hl397_8
                            clear hi397_8 hl397_8
                            have HR397_9 := Aside0.mk hi397_9
                            have HC397_9 := Aside0.mk hl397_9
                            clear hi397_9 hl397_9
                            have HR397_22 := Aside0.mk hi397_22
                            have HC397_22 := Aside0.mk hl397_22
                            clear hi397_22 hl397_22
                            replace p397 := eq_true p397
                            replace q397 := eq_true q397
                            have ea_ := Option.some.inj (hx393_8.symm.trans hx397_8)
                            injection ea_ with ea_ en_ ec_; subst ea_; subst ec_; clear en_
                            have ea_ := Option.some.inj (hx393_9.symm.trans hx397_9)
                            injection ea_ with ea_ en_ ec_; subst ea_; subst ec_; clear en_
                            have ea_ := Option.some.inj (hx393_22.symm.trans hx397_22)
                            injection ea_ with ea_ en_ ec_; subst ea_; subst ec_; clear en_
                            have p398 : 0 ≤ (x3_1 : Int) := of_decide_eq_true (by first | (with_reducible assumption) | assumption)
                            have q398 : x3_1 < (l0.length : Int) := of_decide_eq_true (by first | (with_reducible assumption) | assumption)
                            obtain ⟨ad398, A398_8, c398_8, A398_9, c398_9, A398_22, c398_22, e398, -, -, -, -, -, -, -, -, hx398_8, hx398_9, -, -, -, -, -, -, -, -, -, -, -, -, hx398_22, hl398_8, hi398_8, hl398_9, hi398_9, hl398_22, hi398_22⟩ := at_T35 HR0.out x3_1 p398 q398
                            obtain rfl : ad385 = ad398 := (by injection e398)
                            replace hx398_8 := up HB hx398_8
                            replace hx398_9 := up HB hx398_9
                            replace hx398_22 := up HB hx398_22
                            have HR398_8 := Aside0.mk hi398_8
                            have HC398_8 := Aside0.mk hl398_8
                            clear hi398_8 hl398_8
                            have HR398_9 := Aside0.mk hi398_9
                            have HC398_9 := Aside0.mk hl398_9
                            clear hi398_9 hl398_9
                            have HR398_22 := Aside0.mk hi398_22
                            have HC398_22 := Aside0.mk hl398_22
                            clear hi398_22 hl398_22
                            replace p398 := eq_true p398
                            replace q398 := eq_true q398
                            have ea_ := Option.some.inj (hx393_8.symm.trans hx398_8)
                            injection ea_ with ea_ en_ ec_; subst ea_; subst ec_; clear en_
                            have ea_ := Option.some.inj (hx393_9.symm.trans hx398_9)
                            injection ea_ with ea_ en_ ec_; subst ea_; subst ec_; clear en_
                            have ea_ := Option.some.inj (hx393_22.symm.trans hx398_22)
                            injection ea_ with ea_ en_ ec_; subst ea_; subst ec_; clear en_
                            refine start_ (n := 47) (S := fun w' => w'.cell? (ad385.add ((x3_1).toNat * 23)) = some (.int .i64 ((rd_T35 l0 x3_1).f0.f0)) ∧ w'.cell? ⟨(ad385.add ((x3_1).toNat * 23)).block, (ad385.add ((x3_1).toNat * 23)).off + 1, none⟩ = some (.int .i64 ((rd_T35 l0 x3_1).f0.f1)) ∧ w'.cell? ⟨(ad385.add ((x3_1).toNat * 23)).block, (ad385.add ((x3_1).toNat * 23)).off + 2, none⟩ = some (.int .i64 ((rd_T35 l0 x3_1).f0.f2)) ∧ w'.cell? ⟨(ad385.add ((x3_1).toNat * 23)).block, (ad385.add ((x3_1).toNat * 23)).off + 3, none⟩ = some (.int .i64 ((rd_T35 l0 x3_1).f0.f3)) ∧ w'.cell? ⟨(ad385.add ((x3_1).toNat * 23)).block, (ad385.add ((x3_1).toNat * 23)).off + 4, none⟩ = some (.int .i64 ((rd_T35 l0 x3_1).f0.f4)) ∧ w'.cell? ⟨(ad385.add ((x3_1).toNat * 23)).block, (ad385.add ((x3_1).toNat * 23)).off + 5, none⟩ = some (.int .i64 ((rd_T35 l0 x3_1).f0.f5)) ∧ w'.cell? ⟨(ad385.add ((x3_1).toNat * 23)).block, (ad385.add ((x3_1).toNat * 23)).off + 6, none⟩ = some (.string ((rd_T35 l0 x3_1).f0.f6)) ∧ w'.cell? ⟨(ad385.add ((x3_1).toNat * 23)).block, (ad385.add ((x3_1).toNat * 23)).off + 7, none⟩ = some (.int .i64 ((rd_T35 l0 x3_1).f1.f0)) ∧ w'.cell? ⟨(ad385.add ((x3_1).toNat * 23)).block, (ad385.add ((x3_1).toNat * 23)).off + 8, none⟩ = some (.slice A393_8 ((rd_T35 l0 x3_1).f1.f1).length c393_8) ∧ w'.cell? ⟨(ad385.add ((x3_1).toNat * 23)).block, (ad385.add ((x3_1).toNat * 23)).off + 9, none⟩ = some (.slice A393_9 ((rd_T35 l0 x3_1).f1.f2).length c393_9) ∧ w'.cell? ⟨(ad385.add ((x3_1).toNat * 23)).block, (ad385.add ((x3_1).toNat * 23)).off + 10, none⟩ = some (.string ((rd_T35 l0 x3_1).f1.f3)) ∧ w'.cell? ⟨(ad385.add ((x3_1).toNat * 23)).block, (ad385.add ((x3_1).toNat * 23)).off + 11, none⟩ = some (.int .i64 ((rd_T35 l0 x3_1).f1.f4)) ∧ w'.cell? ⟨(ad385.add ((x3_1).toNat * 23)).block, (ad385.add ((x3_1).toNat * 23)).off + 12, none⟩ = some (.int .i64 ((rd_T35 l0 x3_1).f1.f5)) ∧ w'.cell? ⟨(ad385.add ((x3_1).toNat * 23)).block, (ad385.add ((x3_1).toNat * 23)).off + 13, none⟩ = some (.int .i64 ((rd_T35 l0 x3_1).f2)) ∧ w'.cell? ⟨(ad385.add ((x3_1).toNat * 23)).block, (ad385.add ((x3_1).toNat * 23)).off + 14, none⟩ = some (.string ((rd_T35 l0 x3_1).f3)) ∧ w'.cell? ⟨(ad385.add ((x3_1).toNat * 23)).block, (ad385.add ((x3_1).toNat * 23)).off + 15, none⟩ = some (.int .i64 ((rd_T35 l0 x3_1).f4)) ∧ w'.cell? ⟨(ad385.add ((x3_1).toNat * 23)).block, (ad385.add ((x3_1).toNat * 23)).off + 16, none⟩ = some (.int .i64 ((rd_T35 l0 x3_1).f5)) ∧ w'.cell? ⟨(ad385.add ((x3_1).toNat * 23)).block, (ad385.add ((x3_1).toNat * 23)).off + 17, none⟩ = some (.int .i64 ((rd_T35 l0 x3_1).f6)) ∧ w'.cell? ⟨(ad385.add ((x3_1).toNat * 23)).block, (ad385.add ((x3_1).toNat * 23)).off + 18, none⟩ = some (.int .i64 ((rd_T35 l0 x3_1).f7.f0)) ∧ w'.cell? ⟨(ad385.add ((x3_1).toNat * 23)).block, (ad385.add ((x3_1).toNat * 23)).off + 19, none⟩ = some (.int .i64 ((rd_T35 l0 x3_1).f7.f1)) ∧ w'.cell? ⟨(ad385.add ((x3_1).toNat * 23)).block, (ad385.add ((x3_1).toNat * 23)).off + 20, none⟩ = some (.int .i64 ((rd_T35 l0 x3_1).f7.f2)) ∧ w'.cell? ⟨(ad385.add ((x3_1).toNat * 23)).block, (ad385.add ((x3_1).toNat * 23)).off + 21, none⟩ = some (.int .i64 ((rd_T35 l0 x3_1).f7.f3)) ∧ w'.cell? ⟨(ad385.add ((x3_1).toNat * 23)).block, (ad385.add ((x3_1).toNat * 23)).off + 22, none⟩ = some (.slice A393_22 ((rd_T35 l0 x3_1).f8).length c393_22)) (ds := []) bb64_ (by kernel_rfl) rfl rfl ⟨(up HB hw393_0 :), (up HB hw393_1 :), (up HB hw393_2 :), (up HB hw393_3 :), (up HB hw393_4 :), (up HB hw393_5 :), (up HB hw393_6 :), (up HB hw393_7 :), (up HB hw393_8 :), (up HB hw393_9 :), (up HB hw393_10 :), (up HB hw393_11 :), (up HB hw393_12 :), (up HB hw393_13 :), (up HB hw393_14 :), (up HB hw393_15 :), (up HB hw393_16 :), (up HB hw393_17 :), (up HB hw393_18 :), (up HB hw393_19 :), (up HB hw393_20 :), (up HB hw393_21 :), (up HB hw393_22 :)⟩ (fun hHeld => ?_); refine with_tabW gangwaylaw20_StatNodes.tab7 gangwaylaw20_StatNodes.bits7 (fun HT_ HW_ => ?_)
                            generalize w18.drew = w24 at HO391 HB HR393_22 HR393_8 HR393_9 HR394_22 HR394_8 HR394_9 HR395_22 HR395_8 HR395_9 HR396_22 HR396_8 HR396_9 HR397_22 HR397_8 HR397_9 HR398_22 HR398_8 HR398_9 hx393_0 hx393_1 hx393_10 hx393_11 hx393_12 hx393_13 hx393_14 hx393_15 hx393_16 hx393_17 hx393_18 hx393_19 hx393_2 hx393_20 hx393_21 hx393_22 hx393_3 hx393_4 hx393_5 hx393_6 hx393_7 hx393_8 hx393_9 hx394_22 hx394_8 hx394_9 hx395_22 hx395_8 hx395_9 hx396_22 hx396_8 hx396_9 hx397_22 hx397_8 hx397_9 hx398_22 hx398_8 hx398_9 hHeld ⊢
                            refine pure_ (i := 0) (N := some 35) (v := ?_) (a' := ?_) bb63_ rfl rfl (any_of HT_.out (by kernel_rfl)) (fun _ _ _ h => h) (Or.inl ⟨by rfl, ?_⟩) ?_ ?_
                            rotate_left; · intro w'; go_simp; with_reducible rfl
                            rotate_left; · simp only [Act.put, List.setIfInBounds_toArray, List.set_cons_zero, List.set_cons_succ, i64_w, i32_w]; rfl
                            refine pure_ (i := 1) (N := some 36) (v := ?_) (a' := ?_) bb62_ rfl rfl (any_of HT_.out (by kernel_rfl)) (fun _ _ _ h => h) (Or.inl ⟨by rfl, ?_⟩) ?_ ?_
                            rotate_left; · intro w'; go_simp; with_reducible rfl
                            rotate_left; · simp only [Act.put, List.setIfInBounds_toArray, List.set_cons_zero, List.set_cons_succ, i64_w, i32_w]; rfl
                            refine pure_ (i := 2) (N := some 37) (v := ?_) (a' := ?_) bb61_ rfl rfl (any_of HT_.out (by kernel_rfl)) (fun _ _ _ h => h) (Or.inl ⟨by rfl, ?_⟩) ?_ ?_
                            rotate_left; · intro w'; go_simp; with_reducible rfl
                            rotate_left; · simp only [Act.put, List.setIfInBounds_toArray, List.set_cons_zero, List.set_cons_succ, i64_w, i32_w]; rfl
                            refine pure_ (i := 3) (N := some 38) (v := ?_) (a' := ?_) bb60_ rfl rfl (any_of HT_.out (by kernel_rfl)) (fun _ _ _ h => h) (Or.inl ⟨by rfl, ?_⟩) ?_ ?_
                            rotate_left; · intro w'; go_simp; with_reducible rfl
                            rotate_left; · simp only [Act.put, List.setIfInBounds_toArray, List.set_cons_zero, List.set_cons_succ, i64_w, i32_w]; rfl
                            refine pure_ (i := 4) (N := some 39) (v := ?_) (a' := ?_) bb59_ rfl rfl (any_of HT_.out (by kernel_rfl)) (fun _ _ _ h => h) (Or.inl ⟨by rfl, ?_⟩) ?_ ?_
                            rotate_left; · intro w'; go_simp; with_reducible rfl
                            rotate_left; · simp only [Act.put, List.setIfInBounds_toArray, List.set_cons_zero, List.set_cons_succ, i64_w, i32_w]; rfl
                            refine pure_ (i := 5) (N := some 40) (v := ?_) (a' := ?_) bb58_ rfl rfl (any_of HT_.out (by kernel_rfl)) (fun _ _ _ h => h) (Or.inl ⟨by rfl, ?_⟩) ?_ ?_
                            rotate_left; · intro w'; go_simp; with_reducible rfl
                            rotate_left; · simp only [Act.put, List.setIfInBounds_toArray, List.set_cons_zero, List.set_cons_succ, i64_w, i32_w]; rfl
                            refine pure_ (i := 6) (N := some 41) (v := ?_) (a' := ?_) bb57_ rfl rfl (any_of HT_.out (by kernel_rfl)) (fun _ _ _ h => h) (Or.inl ⟨by rfl, ?_⟩) ?_ ?_
                            rotate_left; · intro w'; go_simp; with_reducible rfl
                            rotate_left; · simp only [Act.put, List.setIfInBounds_toArray, List.set_cons_zero, List.set_cons_succ, i64_w, i32_w]; rfl
                            refine pure_ (i := 34) (N := some 69) (v := ?_) (a' := ?_) bb56_ rfl rfl (any_of HT_.out (by kernel_rfl)) (fun _ _ _ h => h) (Or.inl ⟨by rfl, ?_⟩) ?_ ?_
                            rotate_left; · intro w'; go_simp; with_reducible rfl
                            rotate_left; · simp only [Act.put, List.setIfInBounds_toArray, List.set_cons_zero, List.set_cons_succ, i64_w, i32_w]; rfl
                            refine pure_ (i := 35) (N := some 70) (v := ?_) (a' := ?_) bb55_ rfl rfl (any_of HT_.out (by kernel_rfl)) (fun _ _ _ h => h) (Or.inl ⟨by rfl, ?_⟩) ?_ ?_
                            rotate_left; · intro w'; go_simp; with_reducible rfl
                            rotate_left; · simp only [Act.put, List.setIfInBounds_toArray, List.set_cons_zero, List.set_cons_succ, i64_w, i32_w]; rfl
                            refine pure_ (i := 36) (N := some 71) (v := ?_) (a' := ?_) bb54_ rfl rfl (any_of HT_.out (by kernel_rfl)) (fun _ _ _ h => h) (Or.inl ⟨by rfl, ?_⟩) ?_ ?_
                            rotate_left; · intro w'; go_simp; with_reducible rfl
                            rotate_left; · simp only [Act.put, List.setIfInBounds_toArray, List.set_cons_zero, List.set_cons_succ, i64_w, i32_w]; rfl
                            refine pure_ (i := 37) (N := some 72) (v := ?_) (a' := ?_) bb53_ rfl rfl (any_of HT_.out (by kernel_rfl)) (fun _ _ _ h => h) (Or.inl ⟨by rfl, ?_⟩) ?_ ?_
                            rotate_left; · intro w'; go_simp; with_reducible rfl
                            rotate_left; · simp only [Act.put, List.setIfInBounds_toArray, List.set_cons_zero, List.set_cons_succ, i64_w, i32_w]; rfl
                            refine pure_ (i := 39) (N := some 74) (v := ?_) (a' := ?_) bb52_ rfl rfl (any_of HT_.out (by kernel_rfl)) (fun _ _ _ h => h) (Or.inl ⟨by rfl, ?_⟩) ?_ ?_
                            rotate_left; · intro w'; go_simp; with_reducible rfl
                            rotate_left; · simp only [Act.put, List.setIfInBounds_toArray, List.set_cons_zero, List.set_cons_succ, i64_w, i32_w]; rfl
                            refine pure_ (i := 40) (N := some 75) (v := ?_) (a' := ?_) bb51_ rfl rfl (any_of HT_.out (by kernel_rfl)) (fun _ _ _ h => h) (Or.inl ⟨by rfl, ?_⟩) ?_ ?_
                            rotate_left; · intro w'; go_simp; with_reducible rfl
                            rotate_left; · simp only [Act.put, List.setIfInBounds_toArray, List.set_cons_zero, List.set_cons_succ, i64_w, i32_w]; rfl
                            refine pure_ (i := 41) (N := some 76) (v := ?_) (a' := ?_) bb50_ rfl rfl (any_of HT_.out (by kernel_rfl)) (fun _ _ _ h => h) (Or.inl ⟨by rfl, ?_⟩) ?_ ?_
                            rotate_left; · intro w'; go_simp; with_reducible rfl
                            rotate_left; · simp only [Act.put, List.setIfInBounds_toArray, List.set_cons_zero, List.set_cons_succ, i64_w, i32_w]; rfl
                            refine pure_ (i := 42) (N := some 77) (v := ?_) (a' := ?_) bb49_ rfl rfl (any_of HT_.out (by kernel_rfl)) (fun _ _ _ h => h) (Or.inl ⟨by rfl, ?_⟩) ?_ ?_
                            rotate_left; · intro w'; go_simp; with_reducible rfl
                            rotate_left; · simp only [Act.put, List.setIfInBounds_toArray, List.set_cons_zero, List.set_cons_succ, i64_w, i32_w]; rfl
                            refine take_ (i := 7) (N := some 42) (v := ?_) (a' := ?_) bb48_ rfl rfl (take_ofW HT_.out HW_.out (by kernel_rfl)) (fun _ _ _ h => h) (Or.inl ⟨by rfl, ?_⟩) hHeld ?_ ?_
                            rotate_left; · rintro w' ⟨s0, s1, s2, s3, s4, s5, s6, s7, s8, s9, s10, s11, s12, s13, s14, s15, s16, s17, s18, s19, s20, s21, s22⟩; go_simp; with_reducible rfl
                            rotate_left; · simp only [Act.put, List.setIfInBounds_toArray, List.set_cons_zero, List.set_cons_succ, i64_w, i32_w]; rfl
                            refine pure_ (i := 8) (N := some 43) (v := ?_) (a' := ?_) bb47_ rfl rfl (any_of HT_.out (by kernel_rfl)) (fun _ _ _ h => h) (Or.inl ⟨by rfl, ?_⟩) ?_ ?_
                            rotate_left; · intro w'; go_simp; with_reducible rfl
                            rotate_left; · simp only [Act.put, List.setIfInBounds_toArray, List.set_cons_zero, List.set_cons_succ, i64_w, i32_w]; rfl
                            refine pure_ (i := 9) (N := some 44) (v := ?_) (a' := ?_) bb46_ rfl rfl (any_of HT_.out (by kernel_rfl)) (fun _ _ _ h => h) (Or.inl ⟨by rfl, ?_⟩) ?_ ?_
                            rotate_left; · intro w'; go_simp; with_reducible rfl
                            rotate_left; · simp only [Act.put, List.setIfInBounds_toArray, List.set_cons_zero, List.set_cons_succ, i64_w, i32_w]; rfl
                            refine pure_ (i := 10) (N := some 45) (v := ?_) (a' := ?_) bb45_ rfl rfl (any_of HT_.out (by kernel_rfl)) (fun _ _ _ h => h) (Or.inl ⟨by rfl, ?_⟩) ?_ ?_
                            rotate_left; · intro w'; go_simp; with_reducible rfl
                            rotate_left; · simp only [Act.put, List.setIfInBounds_toArray, List.set_cons_zero, List.set_cons_succ, i64_w, i32_w]; rfl
                            refine pure_ (i := 11) (N := some 46) (v := ?_) (a' := ?_) bb44_ rfl rfl (any_of HT_.out (by kernel_rfl)) (fun _ _ _ h => h) (Or.inl ⟨by rfl, ?_⟩) ?_ ?_
                            rotate_left; · intro w'; go_simp; with_reducible rfl
                            rotate_left; · simp only [Act.put, List.setIfInBounds_toArray, List.set_cons_zero, List.set_cons_succ, i64_w, i32_w]; rfl
                            refine pure_ (i := 12) (N := some 47) (v := ?_) (a' := ?_) bb43_ rfl rfl (any_of HT_.out (by kernel_rfl)) (fun _ _ _ h => h) (Or.inl ⟨by rfl, ?_⟩) ?_ ?_
                            rotate_left; · intro w'; go_simp; with_reducible rfl
                            rotate_left; · simp only [Act.put, List.setIfInBounds_toArray, List.set_cons_zero, List.set_cons_succ, i64_w, i32_w]; rfl
                            refine pure_ (i := 13) (N := some 48) (v := ?_) (a' := ?_) bb42_ rfl rfl (any_of HT_.out (by kernel_rfl)) (fun _ _ _ h => h) (Or.inl ⟨by rfl, ?_⟩) ?_ ?_
                            rotate_left; · intro w'; go_simp; with_reducible rfl
                            rotate_left; · simp only [Act.put, List.setIfInBounds_toArray, List.set_cons_zero, List.set_cons_succ, i64_w, i32_w]; rfl
                            refine pure_ (i := 14) (N := some 49) (v := ?_) (a' := ?_) bb41_ rfl rfl (any_of HT_.out (by kernel_rfl)) (fun _ _ _ h => h) (Or.inl ⟨by rfl, ?_⟩) ?_ ?_
                            rotate_left; · intro w'; go_simp; with_reducible rfl
                            rotate_left; · simp only [Act.put, List.setIfInBounds_toArray, List.set_cons_zero, List.set_cons_succ, i64_w, i32_w]; rfl
                            refine take_ (i := 15) (N := some 50) (v := ?_) (a' := ?_) bb40_ rfl rfl (take_ofW HT_.out HW_.out (by kernel_rfl)) (fun _ _ _ h => h) (Or.inl ⟨by rfl, ?_⟩) hHeld ?_ ?_
                            rotate_left; · rintro w' ⟨s0, s1, s2, s3, s4, s5, s6, s7, s8, s9, s10, s11, s12, s13, s14, s15, s16, s17, s18, s19, s20, s21, s22⟩; go_simp; with_reducible rfl
                            rotate_left; · simp only [Act.put, List.setIfInBounds_toArray, List.set_cons_zero, List.set_cons_succ, i64_w, i32_w]; rfl
                            refine pure_ (i := 16) (N := some 51) (v := ?_) (a' := ?_) bb39_ rfl rfl (any_of HT_.out (by kernel_rfl)) (fun _ _ _ h => h) (Or.inl ⟨by rfl, ?_⟩) ?_ ?_
                            rotate_left; · intro w'; go_simp; with_reducible rfl
                            rotate_left; · simp only [Act.put, List.setIfInBounds_toArray, List.set_cons_zero, List.set_cons_succ, i64_w, i32_w]; rfl
                            refine pure_ (i := 17) (N := some 52) (v := ?_) (a' := ?_) bb38_ rfl rfl (any_of HT_.out (by kernel_rfl)) (fun _ _ _ h => h) (Or.inl ⟨by rfl, ?_⟩) ?_ ?_
                            rotate_left; · intro w'; go_simp; with_reducible rfl
                            rotate_left; · simp only [Act.put, List.setIfInBounds_toArray, List.set_cons_zero, List.set_cons_succ, i64_w, i32_w]; rfl
                            refine pure_ (i := 18) (N := some 53) (v := ?_) (a' := ?_) bb37_ rfl rfl (any_of HT_.out (by kernel_rfl)) (fun _ _ _ h => h) (Or.inl ⟨by rfl, ?_⟩) ?_ ?_
                            rotate_left; · intro w'; go_simp; with_reducible rfl
                            rotate_left; · simp only [Act.put, List.setIfInBounds_toArray, List.set_cons_zero, List.set_cons_succ, i64_w, i32_w]; rfl
                            refine pure_ (i := 19) (N := some 54) (v := ?_) (a' := ?_) bb36_ rfl rfl (any_of HT_.out (by kernel_rfl)) (fun _ _ _ h => h) (Or.inl ⟨by rfl, ?_⟩) ?_ ?_
                            rotate_left; · intro w'; go_simp; with_reducible rfl
                            rotate_left; · simp only [Act.put, List.setIfInBounds_toArray, List.set_cons_zero, List.set_cons_succ, i64_w, i32_w]; rfl
                            refine pure_ (i := 20) (N := some 55) (v := ?_) (a' := ?_) bb35_ rfl rfl (any_of HT_.out (by kernel_rfl)) (fun _ _ _ h => h) (Or.inl ⟨by rfl, ?_⟩) ?_ ?_
                            rotate_left; · intro w'; go_simp; with_reducible rfl
                            rotate_left; · simp only [Act.put, List.setIfInBounds_toArray, List.set_cons_zero, List.set_cons_succ, i64_w, i32_w]; rfl
                            refine pure_ (i := 21) (N := some 56) (v := ?_) (a' := ?_) bb34_ rfl rfl (any_of HT_.out (by kernel_rfl)) (fun _ _ _ h => h) (Or.inl ⟨by rfl, ?_⟩) ?_ ?_
                            rotate_left; · intro w'; go_simp; with_reducible rfl
                            rotate_left; · simp only [Act.put, List.setIfInBounds_toArray, List.set_cons_zero, List.set_cons_succ, i64_w, i32_w]; rfl
                            refine pure_ (i := 22) (N := some 57) (v := ?_) (a' := ?_) bb33_ rfl rfl (any_of HT_.out (by kernel_rfl)) (fun _ _ _ h => h) (Or.inl ⟨by rfl, ?_⟩) ?_ ?_
                            rotate_left; · intro w'; go_simp; with_reducible rfl
                            rotate_left; · simp only [Act.put, List.setIfInBounds_toArray, List.set_cons_zero, List.set_cons_succ, i64_w, i32_w]; rfl
                            refine take_ (i := 23) (N := some 58) (v := ?_) (a' := ?_) bb32_ rfl rfl (take_ofW HT_.out HW_.out (by kernel_rfl)) (fun _ _ _ h => h) (Or.inl ⟨by rfl, ?_⟩) hHeld ?_ ?_
                            rotate_left; · rintro w' ⟨s0, s1, s2, s3, s4, s5, s6, s7, s8, s9, s10, s11, s12, s13, s14, s15, s16, s17, s18, s19, s20, s21, s22⟩; go_simp; with_reducible rfl
                            rotate_left; · simp only [Act.put, List.setIfInBounds_toArray, List.set_cons_zero, List.set_cons_succ, i64_w, i32_w]; rfl
                            refine pure_ (i := 24) (N := some 59) (v := ?_) (a' := ?_) bb31_ rfl rfl (any_of HT_.out (by kernel_rfl)) (fun _ _ _ h => h) (Or.inl ⟨by rfl, ?_⟩) ?_ ?_
                            rotate_left; · intro w'; go_simp; with_reducible rfl
                            rotate_left; · simp only [Act.put, List.setIfInBounds_toArray, List.set_cons_zero, List.set_cons_succ, i64_w, i32_w]; rfl
                            refine pure_ (i := 25) (N := some 60) (v := ?_) (a' := ?_) bb30_ rfl rfl (any_of HT_.out (by kernel_rfl)) (fun _ _ _ h => h) (Or.inl ⟨by rfl, ?_⟩) ?_ ?_
                            rotate_left; · intro w'; go_simp; with_reducible rfl
                            rotate_left; · simp only [Act.put, List.setIfInBounds_toArray, List.set_cons_zero, List.set_cons_succ, i64_w, i32_w]; rfl
                            refine pure_ (i := 26) (N := some 61) (v := ?_) (a' := ?_) bb29_ rfl rfl (any_of HT_.out (by kernel_rfl)) (fun _ _ _ h => h) (Or.inl ⟨by rfl, ?_⟩) ?_ ?_
                            rotate_left; · intro w'; go_simp; with_reducible rfl
                            rotate_left; · simp only [Act.put, List.setIfInBounds_toArray, List.set_cons_zero, List.set_cons_succ, i64_w, i32_w]; rfl
                            refine pure_ (i := 27) (N := some 62) (v := ?_) (a' := ?_) bb28_ rfl rfl (any_of HT_.out (by kernel_rfl)) (fun _ _ _ h => h) (Or.inl ⟨by rfl, ?_⟩) ?_ ?_
                            rotate_left; · intro w'; go_simp; with_reducible rfl
                            rotate_left; · simp only [Act.put, List.setIfInBounds_toArray, List.set_cons_zero, List.set_cons_succ, i64_w, i32_w]; rfl
                            refine pure_ (i := 28) (N := some 63) (v := ?_) (a' := ?_) bb27_ rfl rfl (any_of HT_.out (by kernel_rfl)) (fun _ _ _ h => h) (Or.inl ⟨by rfl, ?_⟩) ?_ ?_
                            rotate_left; · intro w'; go_simp; with_reducible rfl
                            rotate_left; · simp only [Act.put, List.setIfInBounds_toArray, List.set_cons_zero, List.set_cons_succ, i64_w, i32_w]; rfl
                            refine pure_ (i := 29) (N := some 64) (v := ?_) (a' := ?_) bb26_ rfl rfl (any_of HT_.out (by kernel_rfl)) (fun _ _ _ h => h) (Or.inl ⟨by rfl, ?_⟩) ?_ ?_
                            rotate_left; · intro w'; go_simp; with_reducible rfl
                            rotate_left; · simp only [Act.put, List.setIfInBounds_toArray, List.set_cons_zero, List.set_cons_succ, i64_w, i32_w]; rfl
                            refine pure_ (i := 30) (N := some 65) (v := ?_) (a' := ?_) bb25_ rfl rfl (any_of HT_.out (by kernel_rfl)) (fun _ _ _ h => h) (Or.inl ⟨by rfl, ?_⟩) ?_ ?_
                            rotate_left; · intro w'; go_simp; with_reducible rfl
                            rotate_left; · simp only [Act.put, List.setIfInBounds_toArray, List.set_cons_zero, List.set_cons_succ, i64_w, i32_w]; rfl
                            refine take_ (i := 31) (N := some 66) (v := ?_) (a' := ?_) bb24_ rfl rfl (take_ofW HT_.out HW_.out (by kernel_rfl)) (fun _ _ _ h => h) (Or.inl ⟨by rfl, ?_⟩) hHeld ?_ ?_
                            rotate_left; · rintro w' ⟨s0, s1, s2, s3, s4, s5, s6, s7, s8, s9, s10, s11, s12, s13, s14, s15, s16, s17, s18, s19, s20, s21, s22⟩; go_simp; with_reducible rfl
                            rotate_left; · simp only [Act.put, List.setIfInBounds_toArray, List.set_cons_zero, List.set_cons_succ, i64_w, i32_w]; rfl
                            refine pure_ (i := 32) (N := some 67) (v := ?_) (a' := ?_) bb23_ rfl rfl (any_of HT_.out (by kernel_rfl)) (fun _ _ _ h => h) (Or.inl ⟨by rfl, ?_⟩) ?_ ?_
                            rotate_left; · intro w'; go_simp; with_reducible rfl
                            rotate_left; · simp only [Act.put, List.setIfInBounds_toArray, List.set_cons_zero, List.set_cons_succ, i64_w, i32_w]; rfl
                            refine pure_ (i := 33) (N := some 68) (v := ?_) (a' := ?_) bb22_ rfl rfl (any_of HT_.out (by kernel_rfl)) (fun _ _ _ h => h) (Or.inl ⟨by rfl, ?_⟩) ?_ ?_
                            rotate_left; · intro w'; go_simp; with_reducible rfl
                            rotate_left; · simp only [Act.put, List.setIfInBounds_toArray, List.set_cons_zero, List.set_cons_succ, i64_w, i32_w]; rfl
                            refine take_ (i := 38) (N := some 73) (v := ?_) (a' := ?_) bb21_ rfl rfl (take_ofW HT_.out HW_.out (by kernel_rfl)) (fun _ _ _ h => h) (Or.inl ⟨by rfl, ?_⟩) hHeld ?_ ?_
                            rotate_left; · rintro w' ⟨s0, s1, s2, s3, s4, s5, s6, s7, s8, s9, s10, s11, s12, s13, s14, s15, s16, s17, s18, s19, s20, s21, s22⟩; go_simp; with_reducible rfl
                            rotate_left; · simp only [Act.put, List.setIfInBounds_toArray, List.set_cons_zero, List.set_cons_succ, i64_w, i32_w]; rfl
                            refine take_ (i := 43) (N := some 78) (v := ?_) (a' := ?_) bb20_ rfl rfl (take_ofW HT_.out HW_.out (by kernel_rfl)) (fun _ _ _ h => h) (Or.inl ⟨by rfl, ?_⟩) hHeld ?_ ?_
                            rotate_left; · rintro w' ⟨s0, s1, s2, s3, s4, s5, s6, s7, s8, s9, s10, s11, s12, s13, s14, s15, s16, s17, s18, s19, s20, s21, s22⟩; go_simp; with_reducible rfl
                            rotate_left; · simp only [Act.put, List.setIfInBounds_toArray, List.set_cons_zero, List.set_cons_succ, i64_w, i32_w]; rfl
                            refine one_ (i := 44) (N := some 79) bb19_ rfl rfl (one_of HT_.out (by kernel_rfl)) (by decide) (fun K hK => ?_)
                            refine goes_ Try.func25 (by kernel_rfl) rfl #[.agg #[.int .i64 ((rd_T35 l0 x3_1).f1.f0), .slice A393_8 ((rd_T35 l0 x3_1).f1.f1).length c393_8, .slice A393_9 ((rd_T35 l0 x3_1).f1.f2).length c393_9, .string ((rd_T35 l0 x3_1).f1.f3), .int .i64 ((rd_T35 l0 x3_1).f1.f4), .int .i64 ((rd_T35 l0 x3_1).f1.f5)], .int .i64 ((rd_T35 l0 x3_1).f2)] (by rfl) rfl rfl (by (try simp only [List.map_toArray, List.map_cons, List.map_nil]); first | done | rfl | (simp only [List.length_drop, List.length_take]; rfl)) ?_
                            with_reducible refine (gangwayref20_Filestat.calls kj9 ((rd_T35 l0 x3_1).f1.f0) _ _ ((rd_T35 l0 x3_1).f1.f1) _ _ ((rd_T35 l0 x3_1).f1.f2) ((rd_T35 l0 x3_1).f1.f3) ((rd_T35 l0 x3_1).f1.f4) ((rd_T35 l0 x3_1).f1.f5) ((rd_T35 l0 x3_1).f2) t399 _ ?side1 ?side2 ?side3 ?side4 A22.out).mono ?_
                            (case side1 => repeat (first | exact (Kd.C_below HR397_8.out HB.out) | (with_reducible refine Kd.C_alloc ?_ _) | (with_reducible refine Kd.C_drewN ?_ _) | (with_reducible refine Kd.C_drew ?_)))
                            (case side2 => exact HC397_8.out)
                            (case side3 => repeat (first | exact (Kd.C_below HR397_9.out HB.out) | (with_reducible refine Kd.C_alloc ?_ _) | (with_reducible refine Kd.C_drewN ?_ _) | (with_reducible refine Kd.C_drew ?_)))
                            (case side4 => exact HC397_9.out)
                            rintro e w25 ⟨v400, rfl, ho0, hb⟩
                            refine ⟨_, rfl, ?_⟩
                            have n0_ := Aside0.mk (Kd.R_elder' (by (with_reducible repeat (first | apply Kd.R_alloc | apply Kd.R_drewN | apply Kd.R_drew)); exact HO391.out) (Kd.R_base ho0) hb)
                            have n1_ := Aside0.mk (Kd.R_lower (Kd.R_new' ho0 (Kd.R_lt (by (with_reducible repeat (first | apply Kd.R_alloc | apply Kd.R_drewN | apply Kd.R_drew)); exact HO391.out))) (below_size (by repeat (first | (with_reducible first | exact HB.out | apply below_alloc | apply pw_below_drewN | apply below_drew1) | exact HB.out))))
                            have n2_ := Aside0.mk (below_step (by repeat (first | (with_reducible first | exact HB.out | apply below_alloc | apply pw_below_drewN | apply below_drew1) | exact HB.out)) hb)
                            clear HO391
                            clear HB
                            have HO391 := n0_
                            have HO401 := n1_
                            have HB := n2_
                            clear n0_ n1_ n2_
                            (try clear hb)
                            (try clear hb2)
                            (try clear hk)
                            (try clear hi)
                            (try clear ho0)
                            obtain ⟨Ao26, co26, eo26⟩ := Kd.R_slice HO391.out
                            (first | subst eo26 | (injection eo26 with f1_ f2_ f3_; have f4_ := f1_.symm; have f5_ := f3_.symm; clear f1_ f2_ f3_; subst f4_; subst f5_))
                            obtain ⟨Ao27, co27, eo27⟩ := Kd.R_slice HO401.out
                            (first | subst eo27 | (injection eo27 with f1_ f2_ f3_; have f4_ := f1_.symm; have f5_ := f3_.symm; clear f1_ f2_ f3_; subst f4_; subst f5_))
                            refine hK.out _ _ ⟨(up HB hw393_0 :), (up HB hw393_1 :), (up HB hw393_2 :), (up HB hw393_3 :), (up HB hw393_4 :), (up HB hw393_5 :), (up HB hw393_6 :), (up HB hw393_7 :), (up HB hw393_8 :), (up HB hw393_9 :), (up HB hw393_10 :), (up HB hw393_11 :), (up HB hw393_12 :), (up HB hw393_13 :), (up HB hw393_14 :), (up HB hw393_15 :), (up HB hw393_16 :), (up HB hw393_17 :), (up HB hw393_18 :), (up HB hw393_19 :), (up HB hw393_20 :), (up HB hw393_21 :), (up HB hw393_22 :)⟩ (fun hHeld => ?_)
                            clear hK K
                            refine norm_ (a' := ?_) ?_ ?_
                            rotate_left
                            ·show Act.put _ (some 79) _ = _
                             simp only [Act.put, List.setIfInBounds_toArray, List.set_cons_zero, List.set_cons_succ, i64_w, i32_w]
                             rfl
                            refine one_ (i := 45) (N := some 80) bb18_ rfl rfl (one_of HT_.out (by kernel_rfl)) (by decide) (fun K hK => ?_)
                            refine goes_ Try.func11 (by kernel_rfl) rfl #[.slice Ao26 t389.length co26, .int .i64 t392, .bool (decide (((rd_T35 l0 x3_1).f2) < 64)), .slice Ao27 t399.length co27] (by rfl) rfl rfl (by (try simp only [List.map_toArray, List.map_cons, List.map_nil]); first | done | rfl | (simp only [List.length_drop, List.length_take]; rfl)) ?_
                            with_reducible refine (gangwaylaw20_is.calls kj9 _ _ t389 t392 (decide (((rd_T35 l0 x3_1).f2) < 64)) _ _ t399 t402 _ ?side1 ?side2 ?side3 ?side4 A23.out).mono ?_
                            (case side1 => repeat (first | exact (Kd.R_reads' HO391.out).2.2 | (with_reducible refine Kd.C_alloc ?_ _) | (with_reducible refine Kd.C_drewN ?_ _) | (with_reducible refine Kd.C_drew ?_)))
                            (case side2 => exact (Kd.R_reads' HO391.out).2.1)
                            (case side3 => repeat (first | exact (Kd.R_reads' HO401.out).2.2 | (with_reducible refine Kd.C_alloc ?_ _) | (with_reducible refine Kd.C_drewN ?_ _) | (with_reducible refine Kd.C_drew ?_)))
                            (case side4 => exact (Kd.R_reads' HO401.out).2.1)
                            rintro e w' ⟨rfl, ⟨nd, rfl⟩⟩
                            refine ⟨_, rfl, ?_⟩
                            refine hK.out _ _ ⟨(up HB hw393_0 :), (up HB hw393_1 :), (up HB hw393_2 :), (up HB hw393_3 :), (up HB hw393_4 :), (up HB hw393_5 :), (up HB hw393_6 :), (up HB hw393_7 :), (up HB hw393_8 :), (up HB hw393_9 :), (up HB hw393_10 :), (up HB hw393_11 :), (up HB hw393_12 :), (up HB hw393_13 :), (up HB hw393_14 :), (up HB hw393_15 :), (up HB hw393_16 :), (up HB hw393_17 :), (up HB hw393_18 :), (up HB hw393_19 :), (up HB hw393_20 :), (up HB hw393_21 :), (up HB hw393_22 :)⟩ (fun hHeld => ?_)
                            clear hK K
                            refine norm_ (a' := ?_) ?_ ?_
                            rotate_left
                            ·show Act.put _ (some 80) _ = _
                             simp only [Act.put, List.setIfInBounds_toArray, List.set_cons_zero, List.set_cons_succ, i64_w, i32_w]
                             rfl
                            refine pure_ (i := 46) (N := some 81) (v := ?_) (a' := ?_) bb17_ rfl rfl (any_of HT_.out (by kernel_rfl)) (fun _ _ _ h => h) (Or.inl ⟨by rfl, ?_⟩) ?_ ?_
                            rotate_left; · intro w'; go_simp; with_reducible rfl
                            rotate_left; · simp only [Act.put, List.setIfInBounds_toArray, List.set_cons_zero, List.set_cons_succ, i64_w, i32_w]; rfl
                            refine done_ (done_of HT_.out (by kernel_rfl)) ?_
                            try go_wp2
                            go_meet
                            case rel => exact ⟨_, (!t402), (by first | rfl | (simp; done) | (simp [*]; done)), H', ⟨by have := HK1.out; have := HJ2.out; have := HJ4.out; have := HJ9.out; first | omega | exact Nat.le_refl _⟩, ⟨by repeat (first | (with_reducible first | exact HB.out | apply below_alloc | apply pw_below_drewN | apply below_drew1) | exact HB.out)⟩⟩
                          ·as_aux_lemma =>
                            rw [if_neg c21] at H
                            have c21b0 : decide (0 ≤ ((rd_T35 l0 x3_1).f2)) = false := decide_eq_false c21
                            clear c21
                            replace H := Option.bind_eq_some_iff.mp H
                            obtain ⟨t405, A280, H⟩ := H
                            replace H : ((gangwaylaw20_is.f kj9 t389 t392 false t405).bind fun t408 => (gangwaylaw20_StatNodes.j4 kj9 l0 x3_1 (!t408))) = some r := H
                            have A28 := Aside0.mk A280
                            clear A280
                            replace H := Option.bind_eq_some_iff.mp H
                            obtain ⟨t408, A290, H⟩ := H
                            replace H : (gangwaylaw20_StatNodes.j4 kj9 l0 x3_1 (!t408)) = some r := H
                            have A29 := Aside0.mk A290
                            clear A290
                            have H' := Aside0.mk H
                            clear H
                            try go_wp2
                            have n0_ := Aside0.mk (Kd.R_drew HO391.out)
                            have n1_ := Aside0.mk (below_drew1 HB.out)
                            clear HO391
                            clear HB
                            have HO391 := n0_
                            have HB := n1_
                            clear n0_ n1_
                            have p393 : 0 ≤ (x3_1 : Int) := of_decide_eq_true (by first | (with_reducible assumption) | assumption)
                            have q393 : x3_1 < (l0.length : Int) := of_decide_eq_true (by first | (with_reducible assumption) | assumption)
                            obtain ⟨ad393, A393_8, c393_8, A393_9, c393_9, A393_22, c393_22, e393, hx393_0, hx393_1, hx393_2, hx393_3, hx393_4, hx393_5, hx393_6, hx393_7, hx393_8, hx393_9, hx393_10, hx393_11, hx393_12, hx393_13, hx393_14, hx393_15, hx393_16, hx393_17, hx393_18, hx393_19, hx393_20, hx393_21, hx393_22, hl393_8, hi393_8, hl393_9, hi393_9, hl393_22, hi393_22⟩ := at_T35 HR0.out x3_1 p393 q393
                            have hw393_22 := hx393_22
                            have hw393_21 := hx393_21
                            have hw393_20 := hx393_20
                            have hw393_19 := hx393_19
                            have hw393_18 := hx393_18
                            have hw393_17 := hx393_17
                            have hw393_16 := hx393_16
                            have hw393_15 := hx393_15
                            have hw393_14 := hx393_14
                            have hw393_13 := hx393_13
                            have hw393_12 := hx393_12
                            have hw393_11 := hx393_11
                            have hw393_10 := hx393_10
                            have hw393_9 := hx393_9
                            have hw393_8 := hx393_8
                            have hw393_7 := hx393_7
                            have hw393_6 := hx393_6
                            have hw393_5 := hx393_5
                            have hw393_4 := hx393_4
                            have hw393_3 := hx393_3
                            have hw393_2 := hx393_2
                            have hw393_1 := hx393_1
                            have hw393_0 := hx393_0
                            obtain rfl : ad385 = ad393 := (by injection e393)
                            replace hx393_0 := up HB hx393_0
                            replace hx393_1 := up HB hx393_1
                            replace hx393_2 := up HB hx393_2
                            replace hx393_3 := up HB hx393_3
                            replace hx393_4 := up HB hx393_4
                            replace hx393_5 := up HB hx393_5
                            replace hx393_6 := up HB hx393_6
                            replace hx393_7 := up HB hx393_7
                            replace hx393_8 := up HB hx393_8
                            replace hx393_9 := up HB hx393_9
                            replace hx393_10 := up HB hx393_10
                            replace hx393_11 := up HB hx393_11
                            replace hx393_12 := up HB hx393_12
                            replace hx393_13 := up HB hx393_13
                            replace hx393_14 := up HB hx393_14
                            replace hx393_15 := up HB hx393_15
                            replace hx393_16 := up HB hx393_16
                            replace hx393_17 := up HB hx393_17
                            replace hx393_18 := up HB hx393_18
                            replace hx393_19 := up HB hx393_19
                            replace hx393_20 := up HB hx393_20
                            replace hx393_21 := up HB hx393_21
                            replace hx393_22 := up HB hx393_22
                            have HR393_8 := Aside0.mk hi393_8
                            have HC393_8 := Aside0.mk hl393_8
                            clear hi393_8 hl393_8
                            have HR393_9 := Aside0.mk hi393_9
                            have HC393_9 := Aside0.mk hl393_9
                            clear hi393_9 hl393_9
                            have HR393_22 := Aside0.mk hi393_22
                            have HC393_22 := Aside0.mk hl393_22
                            clear hi393_22 hl393_22
                            replace p393 := eq_true p393
                            replace q393 := eq_true q393
                            have p394 : 0 ≤ (x3_1 : Int) := of_decide_eq_true (by first | (with_reducible assumption) | assumption)
                            have q394 : x3_1 < (l0.length : Int) := of_decide_eq_true (by first | (with_reducible assumption) | assumption)
                            obtain ⟨ad394, A394_8, c394_8, A394_9, c394_9, A394_22, c394_22, e394, -, -, -, -, -, -, -, -, hx394_8, hx394_9, -, -, -, -, -, -, -, -, -, -, -, -, hx394_22, hl394_8, hi394_8, hl394_9, hi394_9, hl394_22, hi394_22⟩ := at_T35 HR0.out x3_1 p394 q394
                            obtain rfl : ad385 = ad394 := (by injection e394)
                            replace hx394_8 := up HB hx394_8
                            replace hx394_9 := up HB hx394_9
                            replace hx394_22 := up HB hx394_22
                            have HR394_8 := Aside0.mk hi394_8
                            have HC394_8 := Aside0.mk hl394_8
                            clear hi394_8 hl394_8
                            have HR394_9 := Aside0.mk hi394_9
                            have HC394_9 := Aside0.mk hl394_9
                            clear hi394_9 hl394_9
                            have HR394_22 := Aside0.mk hi394_22
                            have HC394_22 := Aside0.mk hl394_22
                            clear hi394_22 hl394_22
                            replace p394 := eq_true p394
                            replace q394 := eq_true q394
                            have ea_ := Option.some.inj (hx393_8.symm.trans hx394_8)
                            injection ea_ with ea_ en_ ec_; subst ea_; subst ec_; clear en_
                            have ea_ := Option.some.inj (hx393_9.symm.trans hx394_9)
                            injection ea_ with ea_ en_ ec_; subst ea_; subst ec_; clear en_
                            have ea_ := Option.some.inj (hx393_22.symm.trans hx394_22)
                            injection ea_ with ea_ en_ ec_; subst ea_; subst ec_; clear en_
                            have p395 : 0 ≤ (x3_1 : Int) := of_decide_eq_true (by first | (with_reducible assumption) | assumption)
                            have q395 : x3_1 < (l0.length : Int) := of_decide_eq_true (by first | (with_reducible assumption) | assumption)
                            obtain ⟨ad395, A395_8, c395_8, A395_9, c395_9, A395_22, c395_22, e395, -, -, -, -, -, -, -, -, hx395_8, hx395_9, -, -, -, -, -, -, -, -, -, -, -, -, hx395_22, hl395_8, hi395_8, hl395_9, hi395_9, hl395_22, hi395_22⟩ := at_T35 HR0.out x3_1 p395 q395
                            obtain rfl : ad385 = ad395 := (by injection e395)
                            replace hx395_8 := up HB hx395_8
                            replace hx395_9 := up HB hx395_9
                            replace hx395_22 := up HB hx395_22
                            have HR395_8 := Aside0.mk hi395_8
                            have HC395_8 := Aside0.mk hl395_8
                            clear hi395_8 hl395_8
                            have HR395_9 := Aside0.mk hi395_9
                            have HC395_9 := Aside0.mk hl395_9
                            clear hi395_9 hl395_9
                            have HR395_22 := Aside0.mk hi395_22
                            have HC395_22 := Aside0.mk hl395_22
                            clear hi395_22 hl395_22
                            replace p395 := eq_true p395
                            replace q395 := eq_true q395
                            have ea_ := Option.some.inj (hx393_8.symm.trans hx395_8)
                            injection ea_ with ea_ en_ ec_; subst ea_; subst ec_; clear en_
                            have ea_ := Option.some.inj (hx393_9.symm.trans hx395_9)
                            injection ea_ with ea_ en_ ec_; subst ea_; subst ec_; clear en_
                            have ea_ := Option.some.inj (hx393_22.symm.trans hx395_22)
                            injection ea_ with ea_ en_ ec_; subst ea_; subst ec_; clear en_
                            have p403 : 0 ≤ (x3_1 : Int) := of_decide_eq_true (by first | (with_reducible assumption) | assumption)
                            have q403 : x3_1 < (l0.length : Int) := of_decide_eq_true (by first | (with_reducible assumption) | assumption)
                            obtain ⟨ad403, A403_8, c403_8, A403_9, c403_9, A403_22, c403_22, e403, -, -, -, -, -, -, -, -, hx403_8, hx403_9, -, -, -, -, -, -, -, -, -, -, -, -, hx403_22, hl403_8, hi403_8, hl403_9, hi403_9, hl403_22, hi403_22⟩ := at_T35 HR0.out x3_1 p403 q403
                            obtain rfl : ad385 = ad403 := (by injection e403)
                            replace hx403_8 := up HB hx403_8
                            replace hx403_9 := up HB hx403_9
                            replace hx403_22 := up HB hx403_22
                            have HR403_8 := Aside0.mk hi403_8
                            have HC403_8 := Aside0.mk hl403_8
                            clear hi403_8 hl403_8
                            have HR403_9 := Aside0.mk hi403_9
                            have HC403_9 := Aside0.mk hl403_9
                            clear hi403_9 hl403_9
                            have HR403_22 := Aside0.mk hi403_22
                            have HC403_22 := Aside0.mk hl403_22
                            clear hi403_22 hl403_22
                            replace p403 := eq_true p403
                            replace q403 := eq_true q403
                            have ea_ := Option.some.inj (hx393_8.symm.trans hx403_8)
                            injection ea_ with ea_ en_ ec_; subst ea_; subst ec_; clear en_
                            have ea_ := Option.some.inj (hx393_9.symm.trans hx403_9)
                            injection ea_ with ea_ en_ ec_; subst ea_; subst ec_; clear en_
                            have ea_ := Option.some.inj (hx393_22.symm.trans hx403_22)
                            injection ea_ with ea_ en_ ec_; subst ea_; subst ec_; clear en_
                            have p404 : 0 ≤ (x3_1 : Int) := of_decide_eq_true (by first | (with_reducible assumption) | assumption)
                            have q404 : x3_1 < (l0.length : Int) := of_decide_eq_true (by first | (with_reducible assumption) | assumption)
                            obtain ⟨ad404, A404_8, c404_8, A404_9, c404_9, A404_22, c404_22, e404, -, -, -, -, -, -, -, -, hx404_8, hx404_9, -, -, -, -, -, -, -, -, -, -, -, -, hx404_22, hl404_8, hi404_8, hl404_9, hi404_9, hl404_22, hi404_22⟩ := at_T35 HR0.out x3_1 p404 q404
                            obtain rfl : ad385 = ad404 := (by injection e404)
                            replace hx404_8 := up HB hx404_8
                            replace hx404_9 := up HB hx404_9
                            replace hx404_22 := up HB hx404_22
                            have HR404_8 := Aside0.mk hi404_8
                            have HC404_8 := Aside0.mk hl404_8
                            clear hi404_8 hl404_8
                            have HR404_9 := Aside0.mk hi404_9
                            have HC404_9 := Aside0.mk hl404_9
                            clear hi404_9 hl404_9
                            have HR404_22 := Aside0.mk hi404_22
                            have HC404_22 := Aside0.mk hl404_22
                            clear hi404_22 hl404_22
                            replace p404 := eq_true p404
                            replace q404 := eq_true q404
                            have ea_ := Option.some.inj (hx393_8.symm.trans hx404_8)
                            injection ea_ with ea_ en_ ec_; subst ea_; subst ec_; clear en_
                            have ea_ := Option.some.inj (hx393_9.symm.trans hx404_9)
                            injection ea_ with ea_ en_ ec_; subst ea_; subst ec_; clear en_
                            have ea_ := Option.some.inj (hx393_22.symm.trans hx404_22)
                            injection ea_ with ea_ en_ ec_; subst ea_; subst ec_; clear en_
                            refine start_ (n := 47) (S := fun w' => w'.cell? (ad385.add ((x3_1).toNat * 23)) = some (.int .i64 ((rd_T35 l0 x3_1).f0.f0)) ∧ w'.cell? ⟨(ad385.add ((x3_1).toNat * 23)).block, (ad385.add ((x3_1).toNat * 23)).off + 1, none⟩ = some (.int .i64 ((rd_T35 l0 x3_1).f0.f1)) ∧ w'.cell? ⟨(ad385.add ((x3_1).toNat * 23)).block, (ad385.add ((x3_1).toNat * 23)).off + 2, none⟩ = some (.int .i64 ((rd_T35 l0 x3_1).f0.f2)) ∧ w'.cell? ⟨(ad385.add ((x3_1).toNat * 23)).block, (ad385.add ((x3_1).toNat * 23)).off + 3, none⟩ = some (.int .i64 ((rd_T35 l0 x3_1).f0.f3)) ∧ w'.cell? ⟨(ad385.add ((x3_1).toNat * 23)).block, (ad385.add ((x3_1).toNat * 23)).off + 4, none⟩ = some (.int .i64 ((rd_T35 l0 x3_1).f0.f4)) ∧ w'.cell? ⟨(ad385.add ((x3_1).toNat * 23)).block, (ad385.add ((x3_1).toNat * 23)).off + 5, none⟩ = some (.int .i64 ((rd_T35 l0 x3_1).f0.f5)) ∧ w'.cell? ⟨(ad385.add ((x3_1).toNat * 23)).block, (ad385.add ((x3_1).toNat * 23)).off + 6, none⟩ = some (.string ((rd_T35 l0 x3_1).f0.f6)) ∧ w'.cell? ⟨(ad385.add ((x3_1).toNat * 23)).block, (ad385.add ((x3_1).toNat * 23)).off + 7, none⟩ = some (.int .i64 ((rd_T35 l0 x3_1).f1.f0)) ∧ w'.cell? ⟨(ad385.add ((x3_1).toNat * 23)).block, (ad385.add ((x3_1).toNat * 23)).off + 8, none⟩ = some (.slice A393_8 ((rd_T35 l0 x3_1).f1.f1).length c393_8) ∧ w'.cell? ⟨(ad385.add ((x3_1).toNat * 23)).block, (ad385.add ((x3_1).toNat * 23)).off + 9, none⟩ = some (.slice A393_9 ((rd_T35 l0 x3_1).f1.f2).length c393_9) ∧ w'.cell? ⟨(ad385.add ((x3_1).toNat * 23)).block, (ad385.add ((x3_1).toNat * 23)).off + 10, none⟩ = some (.string ((rd_T35 l0 x3_1).f1.f3)) ∧ w'.cell? ⟨(ad385.add ((x3_1).toNat * 23)).block, (ad385.add ((x3_1).toNat * 23)).off + 11, none⟩ = some (.int .i64 ((rd_T35 l0 x3_1).f1.f4)) ∧ w'.cell? ⟨(ad385.add ((x3_1).toNat * 23)).block, (ad385.add ((x3_1).toNat * 23)).off + 12, none⟩ = some (.int .i64 ((rd_T35 l0 x3_1).f1.f5)) ∧ w'.cell? ⟨(ad385.add ((x3_1).toNat * 23)).block, (ad385.add ((x3_1).toNat * 23)).off + 13, none⟩ = some (.int .i64 ((rd_T35 l0 x3_1).f2)) ∧ w'.cell? ⟨(ad385.add ((x3_1).toNat * 23)).block, (ad385.add ((x3_1).toNat * 23)).off + 14, none⟩ = some (.string ((rd_T35 l0 x3_1).f3)) ∧ w'.cell? ⟨(ad385.add ((x3_1).toNat * 23)).block, (ad385.add ((x3_1).toNat * 23)).off + 15, none⟩ = some (.int .i64 ((rd_T35 l0 x3_1).f4)) ∧ w'.cell? ⟨(ad385.add ((x3_1).toNat * 23)).block, (ad385.add ((x3_1).toNat * 23)).off + 16, none⟩ = some (.int .i64 ((rd_T35 l0 x3_1).f5)) ∧ w'.cell? ⟨(ad385.add ((x3_1).toNat * 23)).block, (ad385.add ((x3_1).toNat * 23)).off + 17, none⟩ = some (.int .i64 ((rd_T35 l0 x3_1).f6)) ∧ w'.cell? ⟨(ad385.add ((x3_1).toNat * 23)).block, (ad385.add ((x3_1).toNat * 23)).off + 18, none⟩ = some (.int .i64 ((rd_T35 l0 x3_1).f7.f0)) ∧ w'.cell? ⟨(ad385.add ((x3_1).toNat * 23)).block, (ad385.add ((x3_1).toNat * 23)).off + 19, none⟩ = some (.int .i64 ((rd_T35 l0 x3_1).f7.f1)) ∧ w'.cell? ⟨(ad385.add ((x3_1).toNat * 23)).block, (ad385.add ((x3_1).toNat * 23)).off + 20, none⟩ = some (.int .i64 ((rd_T35 l0 x3_1).f7.f2)) ∧ w'.cell? ⟨(ad385.add ((x3_1).toNat * 23)).block, (ad385.add ((x3_1).toNat * 23)).off + 21, none⟩ = some (.int .i64 ((rd_T35 l0 x3_1).f7.f3)) ∧ w'.cell? ⟨(ad385.add ((x3_1).toNat * 23)).block, (ad385.add ((x3_1).toNat * 23)).off + 22, none⟩ = some (.slice A393_22 ((rd_T35 l0 x3_1).f8).length c393_22)) (ds := []) bb64_ (by kernel_rfl) rfl rfl ⟨(up HB hw393_0 :), (up HB hw393_1 :), (up HB hw393_2 :), (up HB hw393_3 :), (up HB hw393_4 :), (up HB hw393_5 :), (up HB hw393_6 :), (up HB hw393_7 :), (up HB hw393_8 :), (up HB hw393_9 :), (up HB hw393_10 :), (up HB hw393_11 :), (up HB hw393_12 :), (up HB hw393_13 :), (up HB hw393_14 :), (up HB hw393_15 :), (up HB hw393_16 :), (up HB hw393_17 :), (up HB hw393_18 :), (up HB hw393_19 :), (up HB hw393_20 :), (up HB hw393_21 :), (up HB hw393_22 :)⟩ (fun hHeld => ?_); refine with_tabW gangwaylaw20_StatNodes.tab7 gangwaylaw20_StatNodes.bits7 (fun HT_ HW_ => ?_)
                            generalize w18.drew = w30 at HO391 HB HR393_22 HR393_8 HR393_9 HR394_22 HR394_8 HR394_9 HR395_22 HR395_8 HR395_9 HR403_22 HR403_8 HR403_9 HR404_22 HR404_8 HR404_9 hx393_0 hx393_1 hx393_10 hx393_11 hx393_12 hx393_13 hx393_14 hx393_15 hx393_16 hx393_17 hx393_18 hx393_19 hx393_2 hx393_20 hx393_21 hx393_22 hx393_3 hx393_4 hx393_5 hx393_6 hx393_7 hx393_8 hx393_9 hx394_22 hx394_8 hx394_9 hx395_22 hx395_8 hx395_9 hx403_22 hx403_8 hx403_9 hx404_22 hx404_8 hx404_9 hHeld ⊢
                            refine pure_ (i := 0) (N := some 35) (v := ?_) (a' := ?_) bb63_ rfl rfl (any_of HT_.out (by kernel_rfl)) (fun _ _ _ h => h) (Or.inl ⟨by rfl, ?_⟩) ?_ ?_
                            rotate_left; · intro w'; go_simp; with_reducible rfl
                            rotate_left; · simp only [Act.put, List.setIfInBounds_toArray, List.set_cons_zero, List.set_cons_succ, i64_w, i32_w]; rfl
                            refine pure_ (i := 1) (N := some 36) (v := ?_) (a' := ?_) bb62_ rfl rfl (any_of HT_.out (by kernel_rfl)) (fun _ _ _ h => h) (Or.inl ⟨by rfl, ?_⟩) ?_ ?_
                            rotate_left; · intro w'; go_simp; with_reducible rfl
                            rotate_left; · simp only [Act.put, List.setIfInBounds_toArray, List.set_cons_zero, List.set_cons_succ, i64_w, i32_w]; rfl
                            refine pure_ (i := 2) (N := some 37) (v := ?_) (a' := ?_) bb61_ rfl rfl (any_of HT_.out (by kernel_rfl)) (fun _ _ _ h => h) (Or.inl ⟨by rfl, ?_⟩) ?_ ?_
                            rotate_left; · intro w'; go_simp; with_reducible rfl
                            rotate_left; · simp only [Act.put, List.setIfInBounds_toArray, List.set_cons_zero, List.set_cons_succ, i64_w, i32_w]; rfl
                            refine pure_ (i := 3) (N := some 38) (v := ?_) (a' := ?_) bb60_ rfl rfl (any_of HT_.out (by kernel_rfl)) (fun _ _ _ h => h) (Or.inl ⟨by rfl, ?_⟩) ?_ ?_
                            rotate_left; · intro w'; go_simp; with_reducible rfl
                            rotate_left; · simp only [Act.put, List.setIfInBounds_toArray, List.set_cons_zero, List.set_cons_succ, i64_w, i32_w]; rfl
                            refine pure_ (i := 4) (N := some 39) (v := ?_) (a' := ?_) bb59_ rfl rfl (any_of HT_.out (by kernel_rfl)) (fun _ _ _ h => h) (Or.inl ⟨by rfl, ?_⟩) ?_ ?_
                            rotate_left; · intro w'; go_simp; with_reducible rfl
                            rotate_left; · simp only [Act.put, List.setIfInBounds_toArray, List.set_cons_zero, List.set_cons_succ, i64_w, i32_w]; rfl
                            refine pure_ (i := 5) (N := some 40) (v := ?_) (a' := ?_) bb58_ rfl rfl (any_of HT_.out (by kernel_rfl)) (fun _ _ _ h => h) (Or.inl ⟨by rfl, ?_⟩) ?_ ?_
                            rotate_left; · intro w'; go_simp; with_reducible rfl
                            rotate_left; · simp only [Act.put, List.setIfInBounds_toArray, List.set_cons_zero, List.set_cons_succ, i64_w, i32_w]; rfl
                            refine pure_ (i := 6) (N := some 41) (v := ?_) (a' := ?_) bb57_ rfl rfl (any_of HT_.out (by kernel_rfl)) (fun _ _ _ h => h) (Or.inl ⟨by rfl, ?_⟩) ?_ ?_
                            rotate_left; · intro w'; go_simp; with_reducible rfl
                            rotate_left; · simp only [Act.put, List.setIfInBounds_toArray, List.set_cons_zero, List.set_cons_succ, i64_w, i32_w]; rfl
                            refine pure_ (i := 34) (N := some 69) (v := ?_) (a' := ?_) bb56_ rfl rfl (any_of HT_.out (by kernel_rfl)) (fun _ _ _ h => h) (Or.inl ⟨by rfl, ?_⟩) ?_ ?_
                            rotate_left; · intro w'; go_simp; with_reducible rfl
                            rotate_left; · simp only [Act.put, List.setIfInBounds_toArray, List.set_cons_zero, List.set_cons_succ, i64_w, i32_w]; rfl
                            refine pure_ (i := 35) (N := some 70) (v := ?_) (a' := ?_) bb55_ rfl rfl (any_of HT_.out (by kernel_rfl)) (fun _ _ _ h => h) (Or.inl ⟨by rfl, ?_⟩) ?_ ?_
                            rotate_left; · intro w'; go_simp; with_reducible rfl
                            rotate_left; · simp only [Act.put, List.setIfInBounds_toArray, List.set_cons_zero, List.set_cons_succ, i64_w, i32_w]; rfl
                            refine pure_ (i := 36) (N := some 71) (v := ?_) (a' := ?_) bb54_ rfl rfl (any_of HT_.out (by kernel_rfl)) (fun _ _ _ h => h) (Or.inl ⟨by rfl, ?_⟩) ?_ ?_
                            rotate_left; · intro w'; go_simp; with_reducible rfl
                            rotate_left; · simp only [Act.put, List.setIfInBounds_toArray, List.set_cons_zero, List.set_cons_succ, i64_w, i32_w]; rfl
                            refine pure_ (i := 37) (N := some 72) (v := ?_) (a' := ?_) bb53_ rfl rfl (any_of HT_.out (by kernel_rfl)) (fun _ _ _ h => h) (Or.inl ⟨by rfl, ?_⟩) ?_ ?_
                            rotate_left; · intro w'; go_simp; with_reducible rfl
                            rotate_left; · simp only [Act.put, List.setIfInBounds_toArray, List.set_cons_zero, List.set_cons_succ, i64_w, i32_w]; rfl
                            refine pure_ (i := 39) (N := some 74) (v := ?_) (a' := ?_) bb52_ rfl rfl (any_of HT_.out (by kernel_rfl)) (fun _ _ _ h => h) (Or.inl ⟨by rfl, ?_⟩) ?_ ?_
                            rotate_left; · intro w'; go_simp; with_reducible rfl
                            rotate_left; · simp only [Act.put, List.setIfInBounds_toArray, List.set_cons_zero, List.set_cons_succ, i64_w, i32_w]; rfl
                            refine pure_ (i := 40) (N := some 75) (v := ?_) (a' := ?_) bb51_ rfl rfl (any_of HT_.out (by kernel_rfl)) (fun _ _ _ h => h) (Or.inl ⟨by rfl, ?_⟩) ?_ ?_
                            rotate_left; · intro w'; go_simp; with_reducible rfl
                            rotate_left; · simp only [Act.put, List.setIfInBounds_toArray, List.set_cons_zero, List.set_cons_succ, i64_w, i32_w]; rfl
                            refine pure_ (i := 41) (N := some 76) (v := ?_) (a' := ?_) bb50_ rfl rfl (any_of HT_.out (by kernel_rfl)) (fun _ _ _ h => h) (Or.inl ⟨by rfl, ?_⟩) ?_ ?_
                            rotate_left; · intro w'; go_simp; with_reducible rfl
                            rotate_left; · simp only [Act.put, List.setIfInBounds_toArray, List.set_cons_zero, List.set_cons_succ, i64_w, i32_w]; rfl
                            refine pure_ (i := 42) (N := some 77) (v := ?_) (a' := ?_) bb49_ rfl rfl (any_of HT_.out (by kernel_rfl)) (fun _ _ _ h => h) (Or.inl ⟨by rfl, ?_⟩) ?_ ?_
                            rotate_left; · intro w'; go_simp; with_reducible rfl
                            rotate_left; · simp only [Act.put, List.setIfInBounds_toArray, List.set_cons_zero, List.set_cons_succ, i64_w, i32_w]; rfl
                            refine take_ (i := 7) (N := some 42) (v := ?_) (a' := ?_) bb48_ rfl rfl (take_ofW HT_.out HW_.out (by kernel_rfl)) (fun _ _ _ h => h) (Or.inl ⟨by rfl, ?_⟩) hHeld ?_ ?_
                            rotate_left; · rintro w' ⟨s0, s1, s2, s3, s4, s5, s6, s7, s8, s9, s10, s11, s12, s13, s14, s15, s16, s17, s18, s19, s20, s21, s22⟩; go_simp; with_reducible rfl
                            rotate_left; · simp only [Act.put, List.setIfInBounds_toArray, List.set_cons_zero, List.set_cons_succ, i64_w, i32_w]; rfl
                            refine pure_ (i := 8) (N := some 43) (v := ?_) (a' := ?_) bb47_ rfl rfl (any_of HT_.out (by kernel_rfl)) (fun _ _ _ h => h) (Or.inl ⟨by rfl, ?_⟩) ?_ ?_
                            rotate_left; · intro w'; go_simp; with_reducible rfl
                            rotate_left; · simp only [Act.put, List.setIfInBounds_toArray, List.set_cons_zero, List.set_cons_succ, i64_w, i32_w]; rfl
                            refine pure_ (i := 9) (N := some 44) (v := ?_) (a' := ?_) bb46_ rfl rfl (any_of HT_.out (by kernel_rfl)) (fun _ _ _ h => h) (Or.inl ⟨by rfl, ?_⟩) ?_ ?_
                            rotate_left; · intro w'; go_simp; with_reducible rfl
                            rotate_left; · simp only [Act.put, List.setIfInBounds_toArray, List.set_cons_zero, List.set_cons_succ, i64_w, i32_w]; rfl
                            refine pure_ (i := 10) (N := some 45) (v := ?_) (a' := ?_) bb45_ rfl rfl (any_of HT_.out (by kernel_rfl)) (fun _ _ _ h => h) (Or.inl ⟨by rfl, ?_⟩) ?_ ?_
                            rotate_left; · intro w'; go_simp; with_reducible rfl
                            rotate_left; · simp only [Act.put, List.setIfInBounds_toArray, List.set_cons_zero, List.set_cons_succ, i64_w, i32_w]; rfl
                            refine pure_ (i := 11) (N := some 46) (v := ?_) (a' := ?_) bb44_ rfl rfl (any_of HT_.out (by kernel_rfl)) (fun _ _ _ h => h) (Or.inl ⟨by rfl, ?_⟩) ?_ ?_
                            rotate_left; · intro w'; go_simp; with_reducible rfl
                            rotate_left; · simp only [Act.put, List.setIfInBounds_toArray, List.set_cons_zero, List.set_cons_succ, i64_w, i32_w]; rfl
                            refine pure_ (i := 12) (N := some 47) (v := ?_) (a' := ?_) bb43_ rfl rfl (any_of HT_.out (by kernel_rfl)) (fun _ _ _ h => h) (Or.inl ⟨by rfl, ?_⟩) ?_ ?_
                            rotate_left; · intro w'; go_simp; with_reducible rfl
                            rotate_left; · simp only [Act.put, List.setIfInBounds_toArray, List.set_cons_zero, List.set_cons_succ, i64_w, i32_w]; rfl
                            refine pure_ (i := 13) (N := some 48) (v := ?_) (a' := ?_) bb42_ rfl rfl (any_of HT_.out (by kernel_rfl)) (fun _ _ _ h => h) (Or.inl ⟨by rfl, ?_⟩) ?_ ?_
                            rotate_left; · intro w'; go_simp; with_reducible rfl
                            rotate_left; · simp only [Act.put, List.setIfInBounds_toArray, List.set_cons_zero, List.set_cons_succ, i64_w, i32_w]; rfl
                            refine pure_ (i := 14) (N := some 49) (v := ?_) (a' := ?_) bb41_ rfl rfl (any_of HT_.out (by kernel_rfl)) (fun _ _ _ h => h) (Or.inl ⟨by rfl, ?_⟩) ?_ ?_
                            rotate_left; · intro w'; go_simp; with_reducible rfl
                            rotate_left; · simp only [Act.put, List.setIfInBounds_toArray, List.set_cons_zero, List.set_cons_succ, i64_w, i32_w]; rfl
                            refine take_ (i := 15) (N := some 50) (v := ?_) (a' := ?_) bb40_ rfl rfl (take_ofW HT_.out HW_.out (by kernel_rfl)) (fun _ _ _ h => h) (Or.inl ⟨by rfl, ?_⟩) hHeld ?_ ?_
                            rotate_left; · rintro w' ⟨s0, s1, s2, s3, s4, s5, s6, s7, s8, s9, s10, s11, s12, s13, s14, s15, s16, s17, s18, s19, s20, s21, s22⟩; go_simp; with_reducible rfl
                            rotate_left; · simp only [Act.put, List.setIfInBounds_toArray, List.set_cons_zero, List.set_cons_succ, i64_w, i32_w]; rfl
                            refine pure_ (i := 16) (N := some 51) (v := ?_) (a' := ?_) bb39_ rfl rfl (any_of HT_.out (by kernel_rfl)) (fun _ _ _ h => h) (Or.inl ⟨by rfl, ?_⟩) ?_ ?_
                            rotate_left; · intro w'; go_simp; with_reducible rfl
                            rotate_left; · simp only [Act.put, List.setIfInBounds_toArray, List.set_cons_zero, List.set_cons_succ, i64_w, i32_w]; rfl
                            refine pure_ (i := 17) (N := some 52) (v := ?_) (a' := ?_) bb38_ rfl rfl (any_of HT_.out (by kernel_rfl)) (fun _ _ _ h => h) (Or.inl ⟨by rfl, ?_⟩) ?_ ?_
                            rotate_left; · intro w'; go_simp; with_reducible rfl
                            rotate_left; · simp only [Act.put, List.setIfInBounds_toArray, List.set_cons_zero, List.set_cons_succ, i64_w, i32_w]; rfl
                            refine pure_ (i := 18) (N := some 53) (v := ?_) (a' := ?_) bb37_ rfl rfl (any_of HT_.out (by kernel_rfl)) (fun _ _ _ h => h) (Or.inl ⟨by rfl, ?_⟩) ?_ ?_
                            rotate_left; · intro w'; go_simp; with_reducible rfl
                            rotate_left; · simp only [Act.put, List.setIfInBounds_toArray, List.set_cons_zero, List.set_cons_succ, i64_w, i32_w]; rfl
                            refine pure_ (i := 19) (N := some 54) (v := ?_) (a' := ?_) bb36_ rfl rfl (any_of HT_.out (by kernel_rfl)) (fun _ _ _ h => h) (Or.inl ⟨by rfl, ?_⟩) ?_ ?_
                            rotate_left; · intro w'; go_simp; with_reducible rfl
                            rotate_left; · simp only [Act.put, List.setIfInBounds_toArray, List.set_cons_zero, List.set_cons_succ, i64_w, i32_w]; rfl
                            refine pure_ (i := 20) (N := some 55) (v := ?_) (a' := ?_) bb35_ rfl rfl (any_of HT_.out (by kernel_rfl)) (fun _ _ _ h => h) (Or.inl ⟨by rfl, ?_⟩) ?_ ?_
                            rotate_left; · intro w'; go_simp; with_reducible rfl
                            rotate_left; · simp only [Act.put, List.setIfInBounds_toArray, List.set_cons_zero, List.set_cons_succ, i64_w, i32_w]; rfl
                            refine pure_ (i := 21) (N := some 56) (v := ?_) (a' := ?_) bb34_ rfl rfl (any_of HT_.out (by kernel_rfl)) (fun _ _ _ h => h) (Or.inl ⟨by rfl, ?_⟩) ?_ ?_
                            rotate_left; · intro w'; go_simp; with_reducible rfl
                            rotate_left; · simp only [Act.put, List.setIfInBounds_toArray, List.set_cons_zero, List.set_cons_succ, i64_w, i32_w]; rfl
                            refine pure_ (i := 22) (N := some 57) (v := ?_) (a' := ?_) bb33_ rfl rfl (any_of HT_.out (by kernel_rfl)) (fun _ _ _ h => h) (Or.inl ⟨by rfl, ?_⟩) ?_ ?_
                            rotate_left; · intro w'; go_simp; with_reducible rfl
                            rotate_left; · simp only [Act.put, List.setIfInBounds_toArray, List.set_cons_zero, List.set_cons_succ, i64_w, i32_w]; rfl
                            refine take_ (i := 23) (N := some 58) (v := ?_) (a' := ?_) bb32_ rfl rfl (take_ofW HT_.out HW_.out (by kernel_rfl)) (fun _ _ _ h => h) (Or.inl ⟨by rfl, ?_⟩) hHeld ?_ ?_
                            rotate_left; · rintro w' ⟨s0, s1, s2, s3, s4, s5, s6, s7, s8, s9, s10, s11, s12, s13, s14, s15, s16, s17, s18, s19, s20, s21, s22⟩; go_simp; with_reducible rfl
                            rotate_left; · simp only [Act.put, List.setIfInBounds_toArray, List.set_cons_zero, List.set_cons_succ, i64_w, i32_w]; rfl
                            refine pure_ (i := 24) (N := some 59) (v := ?_) (a' := ?_) bb31_ rfl rfl (any_of HT_.out (by kernel_rfl)) (fun _ _ _ h => h) (Or.inl ⟨by rfl, ?_⟩) ?_ ?_
                            rotate_left; · intro w'; go_simp; with_reducible rfl
                            rotate_left; · simp only [Act.put, List.setIfInBounds_toArray, List.set_cons_zero, List.set_cons_succ, i64_w, i32_w]; rfl
                            refine pure_ (i := 25) (N := some 60) (v := ?_) (a' := ?_) bb30_ rfl rfl (any_of HT_.out (by kernel_rfl)) (fun _ _ _ h => h) (Or.inl ⟨by rfl, ?_⟩) ?_ ?_
                            rotate_left; · intro w'; go_simp; with_reducible rfl
                            rotate_left; · simp only [Act.put, List.setIfInBounds_toArray, List.set_cons_zero, List.set_cons_succ, i64_w, i32_w]; rfl
                            refine pure_ (i := 26) (N := some 61) (v := ?_) (a' := ?_) bb29_ rfl rfl (any_of HT_.out (by kernel_rfl)) (fun _ _ _ h => h) (Or.inl ⟨by rfl, ?_⟩) ?_ ?_
                            rotate_left; · intro w'; go_simp; with_reducible rfl
                            rotate_left; · simp only [Act.put, List.setIfInBounds_toArray, List.set_cons_zero, List.set_cons_succ, i64_w, i32_w]; rfl
                            refine pure_ (i := 27) (N := some 62) (v := undef) (a' := ?_) bb28_ rfl rfl (any_of HT_.out (by kernel_rfl)) (fun _ _ _ h => h) (Or.inr ⟨by rfl, rfl⟩) ?_ ?_
                            rotate_left; · simp only [Act.put, List.setIfInBounds_toArray, List.set_cons_zero, List.set_cons_succ, i64_w, i32_w]; rfl
                            refine pure_ (i := 28) (N := some 63) (v := undef) (a' := ?_) bb27_ rfl rfl (any_of HT_.out (by kernel_rfl)) (fun _ _ _ h => h) (Or.inr ⟨by rfl, rfl⟩) ?_ ?_
                            rotate_left; · simp only [Act.put, List.setIfInBounds_toArray, List.set_cons_zero, List.set_cons_succ, i64_w, i32_w]; rfl
                            refine pure_ (i := 29) (N := some 64) (v := undef) (a' := ?_) bb26_ rfl rfl (any_of HT_.out (by kernel_rfl)) (fun _ _ _ h => h) (Or.inr ⟨by rfl, rfl⟩) ?_ ?_
                            rotate_left; · simp only [Act.put, List.setIfInBounds_toArray, List.set_cons_zero, List.set_cons_succ, i64_w, i32_w]; rfl
                            refine pure_ (i := 30) (N := some 65) (v := undef) (a' := ?_) bb25_ rfl rfl (any_of HT_.out (by kernel_rfl)) (fun _ _ _ h => h) (Or.inr ⟨by rfl, rfl⟩) ?_ ?_
                            rotate_left; · simp only [Act.put, List.setIfInBounds_toArray, List.set_cons_zero, List.set_cons_succ, i64_w, i32_w]; rfl
                            refine pure_ (i := 31) (N := some 66) (v := undef) (a' := ?_) bb24_ rfl rfl (any_of HT_.out (by kernel_rfl)) (fun _ _ _ h => h) (Or.inr ⟨by rfl, rfl⟩) ?_ ?_
                            rotate_left; · simp only [Act.put, List.setIfInBounds_toArray, List.set_cons_zero, List.set_cons_succ, i64_w, i32_w]; rfl
                            refine pure_ (i := 32) (N := some 67) (v := undef) (a' := ?_) bb23_ rfl rfl (any_of HT_.out (by kernel_rfl)) (fun _ _ _ h => h) (Or.inr ⟨by rfl, rfl⟩) ?_ ?_
                            rotate_left; · simp only [Act.put, List.setIfInBounds_toArray, List.set_cons_zero, List.set_cons_succ, i64_w, i32_w]; rfl
                            refine pure_ (i := 33) (N := some 68) (v := ?_) (a' := ?_) bb22_ rfl rfl (any_of HT_.out (by kernel_rfl)) (fun _ _ _ h => h) (Or.inl ⟨by rfl, ?_⟩) ?_ ?_
                            rotate_left; · intro w'; go_simp; with_reducible rfl
                            rotate_left; · simp only [Act.put, List.setIfInBounds_toArray, List.set_cons_zero, List.set_cons_succ, i64_w, i32_w]; rfl
                            refine take_ (i := 38) (N := some 73) (v := ?_) (a' := ?_) bb21_ rfl rfl (take_ofW HT_.out HW_.out (by kernel_rfl)) (fun _ _ _ h => h) (Or.inl ⟨by rfl, ?_⟩) hHeld ?_ ?_
                            rotate_left; · rintro w' ⟨s0, s1, s2, s3, s4, s5, s6, s7, s8, s9, s10, s11, s12, s13, s14, s15, s16, s17, s18, s19, s20, s21, s22⟩; go_simp; with_reducible rfl
                            rotate_left; · simp only [Act.put, List.setIfInBounds_toArray, List.set_cons_zero, List.set_cons_succ, i64_w, i32_w]; rfl
                            refine take_ (i := 43) (N := some 78) (v := ?_) (a' := ?_) bb20_ rfl rfl (take_ofW HT_.out HW_.out (by kernel_rfl)) (fun _ _ _ h => h) (Or.inl ⟨by rfl, ?_⟩) hHeld ?_ ?_
                            rotate_left; · rintro w' ⟨s0, s1, s2, s3, s4, s5, s6, s7, s8, s9, s10, s11, s12, s13, s14, s15, s16, s17, s18, s19, s20, s21, s22⟩; go_simp; with_reducible rfl
                            rotate_left; · simp only [Act.put, List.setIfInBounds_toArray, List.set_cons_zero, List.set_cons_succ, i64_w, i32_w]; rfl
                            refine one_ (i := 44) (N := some 79) bb19_ rfl rfl (one_of HT_.out (by kernel_rfl)) (by decide) (fun K hK => ?_)
                            refine goes_ Try.func25 (by kernel_rfl) rfl #[.agg #[.int .i64 ((rd_T35 l0 x3_1).f1.f0), .slice A393_8 ((rd_T35 l0 x3_1).f1.f1).length c393_8, .slice A393_9 ((rd_T35 l0 x3_1).f1.f2).length c393_9, .string ((rd_T35 l0 x3_1).f1.f3), .int .i64 ((rd_T35 l0 x3_1).f1.f4), .int .i64 ((rd_T35 l0 x3_1).f1.f5)], .int .i64 ((rd_T35 l0 x3_1).f2)] (by rfl) rfl rfl (by (try simp only [List.map_toArray, List.map_cons, List.map_nil]); first | done | rfl | (simp only [List.length_drop, List.length_take]; rfl)) ?_
                            with_reducible refine (gangwayref20_Filestat.calls kj9 ((rd_T35 l0 x3_1).f1.f0) _ _ ((rd_T35 l0 x3_1).f1.f1) _ _ ((rd_T35 l0 x3_1).f1.f2) ((rd_T35 l0 x3_1).f1.f3) ((rd_T35 l0 x3_1).f1.f4) ((rd_T35 l0 x3_1).f1.f5) ((rd_T35 l0 x3_1).f2) t405 _ ?side1 ?side2 ?side3 ?side4 A28.out).mono ?_
                            (case side1 => repeat (first | exact (Kd.C_below HR403_8.out HB.out) | (with_reducible refine Kd.C_alloc ?_ _) | (with_reducible refine Kd.C_drewN ?_ _) | (with_reducible refine Kd.C_drew ?_)))
                            (case side2 => exact HC403_8.out)
                            (case side3 => repeat (first | exact (Kd.C_below HR403_9.out HB.out) | (with_reducible refine Kd.C_alloc ?_ _) | (with_reducible refine Kd.C_drewN ?_ _) | (with_reducible refine Kd.C_drew ?_)))
                            (case side4 => exact HC403_9.out)
                            rintro e w31 ⟨v406, rfl, ho0, hb⟩
                            refine ⟨_, rfl, ?_⟩
                            have n0_ := Aside0.mk (Kd.R_elder' (by (with_reducible repeat (first | apply Kd.R_alloc | apply Kd.R_drewN | apply Kd.R_drew)); exact HO391.out) (Kd.R_base ho0) hb)
                            have n1_ := Aside0.mk (Kd.R_lower (Kd.R_new' ho0 (Kd.R_lt (by (with_reducible repeat (first | apply Kd.R_alloc | apply Kd.R_drewN | apply Kd.R_drew)); exact HO391.out))) (below_size (by repeat (first | (with_reducible first | exact HB.out | apply below_alloc | apply pw_below_drewN | apply below_drew1) | exact HB.out))))
                            have n2_ := Aside0.mk (below_step (by repeat (first | (with_reducible first | exact HB.out | apply below_alloc | apply pw_below_drewN | apply below_drew1) | exact HB.out)) hb)
                            clear HO391
                            clear HB
                            have HO391 := n0_
                            have HO407 := n1_
                            have HB := n2_
                            clear n0_ n1_ n2_
                            (try clear hb)
                            (try clear hb2)
                            (try clear hk)
                            (try clear hi)
                            (try clear ho0)
                            obtain ⟨Ao32, co32, eo32⟩ := Kd.R_slice HO391.out
                            (first | subst eo32 | (injection eo32 with f1_ f2_ f3_; have f4_ := f1_.symm; have f5_ := f3_.symm; clear f1_ f2_ f3_; subst f4_; subst f5_))
                            obtain ⟨Ao33, co33, eo33⟩ := Kd.R_slice HO407.out
                            (first | subst eo33 | (injection eo33 with f1_ f2_ f3_; have f4_ := f1_.symm; have f5_ := f3_.symm; clear f1_ f2_ f3_; subst f4_; subst f5_))
                            refine hK.out _ _ ⟨(up HB hw393_0 :), (up HB hw393_1 :), (up HB hw393_2 :), (up HB hw393_3 :), (up HB hw393_4 :), (up HB hw393_5 :), (up HB hw393_6 :), (up HB hw393_7 :), (up HB hw393_8 :), (up HB hw393_9 :), (up HB hw393_10 :), (up HB hw393_11 :), (up HB hw393_12 :), (up HB hw393_13 :), (up HB hw393_14 :), (up HB hw393_15 :), (up HB hw393_16 :), (up HB hw393_17 :), (up HB hw393_18 :), (up HB hw393_19 :), (up HB hw393_20 :), (up HB hw393_21 :), (up HB hw393_22 :)⟩ (fun hHeld => ?_)
                            clear hK K
                            refine norm_ (a' := ?_) ?_ ?_
                            rotate_left
                            ·show Act.put _ (some 79) _ = _
                             simp only [Act.put, List.setIfInBounds_toArray, List.set_cons_zero, List.set_cons_succ, i64_w, i32_w]
                             rfl
                            refine one_ (i := 45) (N := some 80) bb18_ rfl rfl (one_of HT_.out (by kernel_rfl)) (by decide) (fun K hK => ?_)
                            refine goes_ Try.func11 (by kernel_rfl) rfl #[.slice Ao32 t389.length co32, .int .i64 t392, .bool false, .slice Ao33 t405.length co33] (by rfl) rfl rfl (by (try simp only [List.map_toArray, List.map_cons, List.map_nil]); first | done | rfl | (simp only [List.length_drop, List.length_take]; rfl)) ?_
                            with_reducible refine (gangwaylaw20_is.calls kj9 _ _ t389 t392 false _ _ t405 t408 _ ?side1 ?side2 ?side3 ?side4 A29.out).mono ?_
                            (case side1 => repeat (first | exact (Kd.R_reads' HO391.out).2.2 | (with_reducible refine Kd.C_alloc ?_ _) | (with_reducible refine Kd.C_drewN ?_ _) | (with_reducible refine Kd.C_drew ?_)))
                            (case side2 => exact (Kd.R_reads' HO391.out).2.1)
                            (case side3 => repeat (first | exact (Kd.R_reads' HO407.out).2.2 | (with_reducible refine Kd.C_alloc ?_ _) | (with_reducible refine Kd.C_drewN ?_ _) | (with_reducible refine Kd.C_drew ?_)))
                            (case side4 => exact (Kd.R_reads' HO407.out).2.1)
                            rintro e w' ⟨rfl, ⟨nd, rfl⟩⟩
                            refine ⟨_, rfl, ?_⟩
                            refine hK.out _ _ ⟨(up HB hw393_0 :), (up HB hw393_1 :), (up HB hw393_2 :), (up HB hw393_3 :), (up HB hw393_4 :), (up HB hw393_5 :), (up HB hw393_6 :), (up HB hw393_7 :), (up HB hw393_8 :), (up HB hw393_9 :), (up HB hw393_10 :), (up HB hw393_11 :), (up HB hw393_12 :), (up HB hw393_13 :), (up HB hw393_14 :), (up HB hw393_15 :), (up HB hw393_16 :), (up HB hw393_17 :), (up HB hw393_18 :), (up HB hw393_19 :), (up HB hw393_20 :), (up HB hw393_21 :), (up HB hw393_22 :)⟩ (fun hHeld => ?_)
                            clear hK K
                            refine norm_ (a' := ?_) ?_ ?_
                            rotate_left
                            ·show Act.put _ (some 80) _ = _
                             simp only [Act.put, List.setIfInBounds_toArray, List.set_cons_zero, List.set_cons_succ, i64_w, i32_w]
                             rfl
                            refine pure_ (i := 46) (N := some 81) (v := ?_) (a' := ?_) bb17_ rfl rfl (any_of HT_.out (by kernel_rfl)) (fun _ _ _ h => h) (Or.inl ⟨by rfl, ?_⟩) ?_ ?_
                            rotate_left; · intro w'; go_simp; with_reducible rfl
                            rotate_left; · simp only [Act.put, List.setIfInBounds_toArray, List.set_cons_zero, List.set_cons_succ, i64_w, i32_w]; rfl
                            refine done_ (done_of HT_.out (by kernel_rfl)) ?_
                            try go_wp2
                            go_meet
                            case rel => exact ⟨_, (!t408), (by first | rfl | (simp; done) | (simp [*]; done)), H', ⟨by have := HK1.out; have := HJ2.out; have := HJ4.out; have := HJ9.out; first | omega | exact Nat.le_refl _⟩, ⟨by repeat (first | (with_reducible first | exact HB.out | apply below_alloc | apply pw_below_drewN | apply below_drew1) | exact HB.out)⟩⟩
                        ·as_aux_lemma =>
                          rw [if_neg c20] at H
                          have c20b0 : decide (((rd_T35 l0 x3_1).f1.f0) ≤ 3) = false := decide_eq_false c20
                          clear c20
                          replace H := Option.bind_eq_some_iff.mp H
                          obtain ⟨t411, A340, H⟩ := H
                          replace H : ((gangwaylaw20_is.f kj9 t389 t392 false t411).bind fun t414 => (gangwaylaw20_StatNodes.j4 kj9 l0 x3_1 (!t414))) = some r := H
                          have A34 := Aside0.mk A340
                          clear A340
                          replace H := Option.bind_eq_some_iff.mp H
                          obtain ⟨t414, A350, H⟩ := H
                          replace H : (gangwaylaw20_StatNodes.j4 kj9 l0 x3_1 (!t414)) = some r := H
                          have A35 := Aside0.mk A350
                          clear A350
                          have H' := Aside0.mk H
                          clear H
                          try go_wp2
                          have n0_ := Aside0.mk (Kd.R_drew HO391.out)
                          have n1_ := Aside0.mk (below_drew1 HB.out)
                          clear HO391
                          clear HB
                          have HO391 := n0_
                          have HB := n1_
                          clear n0_ n1_
                          have p393 : 0 ≤ (x3_1 : Int) := of_decide_eq_true (by first | (with_reducible assumption) | assumption)
                          have q393 : x3_1 < (l0.length : Int) := of_decide_eq_true (by first | (with_reducible assumption) | assumption)
                          obtain ⟨ad393, A393_8, c393_8, A393_9, c393_9, A393_22, c393_22, e393, hx393_0, hx393_1, hx393_2, hx393_3, hx393_4, hx393_5, hx393_6, hx393_7, hx393_8, hx393_9, hx393_10, hx393_11, hx393_12, hx393_13, hx393_14, hx393_15, hx393_16, hx393_17, hx393_18, hx393_19, hx393_20, hx393_21, hx393_22, hl393_8, hi393_8, hl393_9, hi393_9, hl393_22, hi393_22⟩ := at_T35 HR0.out x3_1 p393 q393
                          have hw393_22 := hx393_22
                          have hw393_21 := hx393_21
                          have hw393_20 := hx393_20
                          have hw393_19 := hx393_19
                          have hw393_18 := hx393_18
                          have hw393_17 := hx393_17
                          have hw393_16 := hx393_16
                          have hw393_15 := hx393_15
                          have hw393_14 := hx393_14
                          have hw393_13 := hx393_13
                          have hw393_12 := hx393_12
                          have hw393_11 := hx393_11
                          have hw393_10 := hx393_10
                          have hw393_9 := hx393_9
                          have hw393_8 := hx393_8
                          have hw393_7 := hx393_7
                          have hw393_6 := hx393_6
                          have hw393_5 := hx393_5
                          have hw393_4 := hx393_4
                          have hw393_3 := hx393_3
                          have hw393_2 := hx393_2
                          have hw393_1 := hx393_1
                          have hw393_0 := hx393_0
                          obtain rfl : ad385 = ad393 := (by injection e393)
                          replace hx393_0 := up HB hx393_0
                          replace hx393_1 := up HB hx393_1
                          replace hx393_2 := up HB hx393_2
                          replace hx393_3 := up HB hx393_3
                          replace hx393_4 := up HB hx393_4
                          replace hx393_5 := up HB hx393_5
                          replace hx393_6 := up HB hx393_6
                          replace hx393_7 := up HB hx393_7
                          replace hx393_8 := up HB hx393_8
                          replace hx393_9 := up HB hx393_9
                          replace hx393_10 := up HB hx393_10
                          replace hx393_11 := up HB hx393_11
                          replace hx393_12 := up HB hx393_12
                          replace hx393_13 := up HB hx393_13
                          replace hx393_14 := up HB hx393_14
                          replace hx393_15 := up HB hx393_15
                          replace hx393_16 := up HB hx393_16
                          replace hx393_17 := up HB hx393_17
                          replace hx393_18 := up HB hx393_18
                          replace hx393_19 := up HB hx393_19
                          replace hx393_20 := up HB hx393_20
                          replace hx393_21 := up HB hx393_21
                          replace hx393_22 := up HB hx393_22
                          have HR393_8 := Aside0.mk hi393_8
                          have HC393_8 := Aside0.mk hl393_8
                          clear hi393_8 hl393_8
                          have HR393_9 := Aside0.mk hi393_9
                          have HC393_9 := Aside0.mk hl393_9
                          clear hi393_9 hl393_9
                          have HR393_22 := Aside0.mk hi393_22
                          have HC393_22 := Aside0.mk hl393_22
                          clear hi393_22 hl393_22
                          replace p393 := eq_true p393
                          replace q393 := eq_true q393
                          have p394 : 0 ≤ (x3_1 : Int) := of_decide_eq_true (by first | (with_reducible assumption) | assumption)
                          have q394 : x3_1 < (l0.length : Int) := of_decide_eq_true (by first | (with_reducible assumption) | assumption)
                          obtain ⟨ad394, A394_8, c394_8, A394_9, c394_9, A394_22, c394_22, e394, -, -, -, -, -, -, -, -, hx394_8, hx394_9, -, -, -, -, -, -, -, -, -, -, -, -, hx394_22, hl394_8, hi394_8, hl394_9, hi394_9, hl394_22, hi394_22⟩ := at_T35 HR0.out x3_1 p394 q394
                          obtain rfl : ad385 = ad394 := (by injection e394)
                          replace hx394_8 := up HB hx394_8
                          replace hx394_9 := up HB hx394_9
                          replace hx394_22 := up HB hx394_22
                          have HR394_8 := Aside0.mk hi394_8
                          have HC394_8 := Aside0.mk hl394_8
                          clear hi394_8 hl394_8
                          have HR394_9 := Aside0.mk hi394_9
                          have HC394_9 := Aside0.mk hl394_9
                          clear hi394_9 hl394_9
                          have HR394_22 := Aside0.mk hi394_22
                          have HC394_22 := Aside0.mk hl394_22
                          clear hi394_22 hl394_22
                          replace p394 := eq_true p394
                          replace q394 := eq_true q394
                          have ea_ := Option.some.inj (hx393_8.symm.trans hx394_8)
                          injection ea_ with ea_ en_ ec_; subst ea_; subst ec_; clear en_
                          have ea_ := Option.some.inj (hx393_9.symm.trans hx394_9)
                          injection ea_ with ea_ en_ ec_; subst ea_; subst ec_; clear en_
                          have ea_ := Option.some.inj (hx393_22.symm.trans hx394_22)
                          injection ea_ with ea_ en_ ec_; subst ea_; subst ec_; clear en_
                          have p409 : 0 ≤ (x3_1 : Int) := of_decide_eq_true (by first | (with_reducible assumption) | assumption)
                          have q409 : x3_1 < (l0.length : Int) := of_decide_eq_true (by first | (with_reducible assumption) | assumption)
                          obtain ⟨ad409, A409_8, c409_8, A409_9, c409_9, A409_22, c409_22, e409, -, -, -, -, -, -, -, -, hx409_8, hx409_9, -, -, -, -, -, -, -, -, -, -, -, -, hx409_22, hl409_8, hi409_8, hl409_9, hi409_9, hl409_22, hi409_22⟩ := at_T35 HR0.out x3_1 p409 q409
                          obtain rfl : ad385 = ad409 := (by injection e409)
                          replace hx409_8 := up HB hx409_8
                          replace hx409_9 := up HB hx409_9
                          replace hx409_22 := up HB hx409_22
                          have HR409_8 := Aside0.mk hi409_8
                          have HC409_8 := Aside0.mk hl409_8
                          clear hi409_8 hl409_8
                          have HR409_9 := Aside0.mk hi409_9
                          have HC409_9 := Aside0.mk hl409_9
                          clear hi409_9 hl409_9
                          have HR409_22 := Aside0.mk hi409_22
                          have HC409_22 := Aside0.mk hl409_22
                          clear hi409_22 hl409_22
                          replace p409 := eq_true p409
                          replace q409 := eq_true q409
                          have ea_ := Option.some.inj (hx393_8.symm.trans hx409_8)
                          injection ea_ with ea_ en_ ec_; subst ea_; subst ec_; clear en_
                          have ea_ := Option.some.inj (hx393_9.symm.trans hx409_9)
                          injection ea_ with ea_ en_ ec_; subst ea_; subst ec_; clear en_
                          have ea_ := Option.some.inj (hx393_22.symm.trans hx409_22)
                          injection ea_ with ea_ en_ ec_; subst ea_; subst ec_; clear en_
                          have p410 : 0 ≤ (x3_1 : Int) := of_decide_eq_true (by first | (with_reducible assumption) | assumption)
                          have q410 : x3_1 < (l0.length : Int) := of_decide_eq_true (by first | (with_reducible assumption) | assumption)
                          obtain ⟨ad410, A410_8, c410_8, A410_9, c410_9, A410_22, c410_22, e410, -, -, -, -, -, -, -, -, hx410_8, hx410_9, -, -, -, -, -, -, -, -, -, -, -, -, hx410_22, hl410_8, hi410_8, hl410_9, hi410_9, hl410_22, hi410_22⟩ := at_T35 HR0.out x3_1 p410 q410
                          obtain rfl : ad385 = ad410 := (by injection e410)
                          replace hx410_8 := up HB hx410_8
                          replace hx410_9 := up HB hx410_9
                          replace hx410_22 := up HB hx410_22
                          have HR410_8 := Aside0.mk hi410_8
                          have HC410_8 := Aside0.mk hl410_8
                          clear hi410_8 hl410_8
                          have HR410_9 := Aside0.mk hi410_9
                          have HC410_9 := Aside0.mk hl410_9
                          clear hi410_9 hl410_9
                          have HR410_22 := Aside0.mk hi410_22
                          have HC410_22 := Aside0.mk hl410_22
                          clear hi410_22 hl410_22
                          replace p410 := eq_true p410
                          replace q410 := eq_true q410
                          have ea_ := Option.some.inj (hx393_8.symm.trans hx410_8)
                          injection ea_ with ea_ en_ ec_; subst ea_; subst ec_; clear en_
                          have ea_ := Option.some.inj (hx393_9.symm.trans hx410_9)
                          injection ea_ with ea_ en_ ec_; subst ea_; subst ec_; clear en_
                          have ea_ := Option.some.inj (hx393_22.symm.trans hx410_22)
                          injection ea_ with ea_ en_ ec_; subst ea_; subst ec_; clear en_
                          refine start_ (n := 47) (S := fun w' => w'.cell? (ad385.add ((x3_1).toNat * 23)) = some (.int .i64 ((rd_T35 l0 x3_1).f0.f0)) ∧ w'.cell? ⟨(ad385.add ((x3_1).toNat * 23)).block, (ad385.add ((x3_1).toNat * 23)).off + 1, none⟩ = some (.int .i64 ((rd_T35 l0 x3_1).f0.f1)) ∧ w'.cell? ⟨(ad385.add ((x3_1).toNat * 23)).block, (ad385.add ((x3_1).toNat * 23)).off + 2, none⟩ = some (.int .i64 ((rd_T35 l0 x3_1).f0.f2)) ∧ w'.cell? ⟨(ad385.add ((x3_1).toNat * 23)).block, (ad385.add ((x3_1).toNat * 23)).off + 3, none⟩ = some (.int .i64 ((rd_T35 l0 x3_1).f0.f3)) ∧ w'.cell? ⟨(ad385.add ((x3_1).toNat * 23)).block, (ad385.add ((x3_1).toNat * 23)).off + 4, none⟩ = some (.int .i64 ((rd_T35 l0 x3_1).f0.f4)) ∧ w'.cell? ⟨(ad385.add ((x3_1).toNat * 23)).block, (ad385.add ((x3_1).toNat * 23)).off + 5, none⟩ = some (.int .i64 ((rd_T35 l0 x3_1).f0.f5)) ∧ w'.cell? ⟨(ad385.add ((x3_1).toNat * 23)).block, (ad385.add ((x3_1).toNat * 23)).off + 6, none⟩ = some (.string ((rd_T35 l0 x3_1).f0.f6)) ∧ w'.cell? ⟨(ad385.add ((x3_1).toNat * 23)).block, (ad385.add ((x3_1).toNat * 23)).off + 7, none⟩ = some (.int .i64 ((rd_T35 l0 x3_1).f1.f0)) ∧ w'.cell? ⟨(ad385.add ((x3_1).toNat * 23)).block, (ad385.add ((x3_1).toNat * 23)).off + 8, none⟩ = some (.slice A393_8 ((rd_T35 l0 x3_1).f1.f1).length c393_8) ∧ w'.cell? ⟨(ad385.add ((x3_1).toNat * 23)).block, (ad385.add ((x3_1).toNat * 23)).off + 9, none⟩ = some (.slice A393_9 ((rd_T35 l0 x3_1).f1.f2).length c393_9) ∧ w'.cell? ⟨(ad385.add ((x3_1).toNat * 23)).block, (ad385.add ((x3_1).toNat * 23)).off + 10, none⟩ = some (.string ((rd_T35 l0 x3_1).f1.f3)) ∧ w'.cell? ⟨(ad385.add ((x3_1).toNat * 23)).block, (ad385.add ((x3_1).toNat * 23)).off + 11, none⟩ = some (.int .i64 ((rd_T35 l0 x3_1).f1.f4)) ∧ w'.cell? ⟨(ad385.add ((x3_1).toNat * 23)).block, (ad385.add ((x3_1).toNat * 23)).off + 12, none⟩ = some (.int .i64 ((rd_T35 l0 x3_1).f1.f5)) ∧ w'.cell? ⟨(ad385.add ((x3_1).toNat * 23)).block, (ad385.add ((x3_1).toNat * 23)).off + 13, none⟩ = some (.int .i64 ((rd_T35 l0 x3_1).f2)) ∧ w'.cell? ⟨(ad385.add ((x3_1).toNat * 23)).block, (ad385.add ((x3_1).toNat * 23)).off + 14, none⟩ = some (.string ((rd_T35 l0 x3_1).f3)) ∧ w'.cell? ⟨(ad385.add ((x3_1).toNat * 23)).block, (ad385.add ((x3_1).toNat * 23)).off + 15, none⟩ = some (.int .i64 ((rd_T35 l0 x3_1).f4)) ∧ w'.cell? ⟨(ad385.add ((x3_1).toNat * 23)).block, (ad385.add ((x3_1).toNat * 23)).off + 16, none⟩ = some (.int .i64 ((rd_T35 l0 x3_1).f5)) ∧ w'.cell? ⟨(ad385.add ((x3_1).toNat * 23)).block, (ad385.add ((x3_1).toNat * 23)).off + 17, none⟩ = some (.int .i64 ((rd_T35 l0 x3_1).f6)) ∧ w'.cell? ⟨(ad385.add ((x3_1).toNat * 23)).block, (ad385.add ((x3_1).toNat * 23)).off + 18, none⟩ = some (.int .i64 ((rd_T35 l0 x3_1).f7.f0)) ∧ w'.cell? ⟨(ad385.add ((x3_1).toNat * 23)).block, (ad385.add ((x3_1).toNat * 23)).off + 19, none⟩ = some (.int .i64 ((rd_T35 l0 x3_1).f7.f1)) ∧ w'.cell? ⟨(ad385.add ((x3_1).toNat * 23)).block, (ad385.add ((x3_1).toNat * 23)).off + 20, none⟩ = some (.int .i64 ((rd_T35 l0 x3_1).f7.f2)) ∧ w'.cell? ⟨(ad385.add ((x3_1).toNat * 23)).block, (ad385.add ((x3_1).toNat * 23)).off + 21, none⟩ = some (.int .i64 ((rd_T35 l0 x3_1).f7.f3)) ∧ w'.cell? ⟨(ad385.add ((x3_1).toNat * 23)).block, (ad385.add ((x3_1).toNat * 23)).off + 22, none⟩ = some (.slice A393_22 ((rd_T35 l0 x3_1).f8).length c393_22)) (ds := []) bb64_ (by kernel_rfl) rfl rfl ⟨(up HB hw393_0 :), (up HB hw393_1 :), (up HB hw393_2 :), (up HB hw393_3 :), (up HB hw393_4 :), (up HB hw393_5 :), (up HB hw393_6 :), (up HB hw393_7 :), (up HB hw393_8 :), (up HB hw393_9 :), (up HB hw393_10 :), (up HB hw393_11 :), (up HB hw393_12 :), (up HB hw393_13 :), (up HB hw393_14 :), (up HB hw393_15 :), (up HB hw393_16 :), (up HB hw393_17 :), (up HB hw393_18 :), (up HB hw393_19 :), (up HB hw393_20 :), (up HB hw393_21 :), (up HB hw393_22 :)⟩ (fun hHeld => ?_); refine with_tabW gangwaylaw20_StatNodes.tab7 gangwaylaw20_StatNodes.bits7 (fun HT_ HW_ => ?_)
                          generalize w18.drew = w36 at HO391 HB HR393_22 HR393_8 HR393_9 HR394_22 HR394_8 HR394_9 HR409_22 HR409_8 HR409_9 HR410_22 HR410_8 HR410_9 hx393_0 hx393_1 hx393_10 hx393_11 hx393_12 hx393_13 hx393_14 hx393_15 hx393_16 hx393_17 hx393_18 hx393_19 hx393_2 hx393_20 hx393_21 hx393_22 hx393_3 hx393_4 hx393_5 hx393_6 hx393_7 hx393_8 hx393_9 hx394_22 hx394_8 hx394_9 hx409_22 hx409_8 hx409_9 hx410_22 hx410_8 hx410_9 hHeld ⊢
                          refine pure_ (i := 0) (N := some 35) (v := ?_) (a' := ?_) bb63_ rfl rfl (any_of HT_.out (by kernel_rfl)) (fun _ _ _ h => h) (Or.inl ⟨by rfl, ?_⟩) ?_ ?_
                          rotate_left; · intro w'; go_simp; with_reducible rfl
                          rotate_left; · simp only [Act.put, List.setIfInBounds_toArray, List.set_cons_zero, List.set_cons_succ, i64_w, i32_w]; rfl
                          refine pure_ (i := 1) (N := some 36) (v := ?_) (a' := ?_) bb62_ rfl rfl (any_of HT_.out (by kernel_rfl)) (fun _ _ _ h => h) (Or.inl ⟨by rfl, ?_⟩) ?_ ?_
                          rotate_left; · intro w'; go_simp; with_reducible rfl
                          rotate_left; · simp only [Act.put, List.setIfInBounds_toArray, List.set_cons_zero, List.set_cons_succ, i64_w, i32_w]; rfl
                          refine pure_ (i := 2) (N := some 37) (v := ?_) (a' := ?_) bb61_ rfl rfl (any_of HT_.out (by kernel_rfl)) (fun _ _ _ h => h) (Or.inl ⟨by rfl, ?_⟩) ?_ ?_
                          rotate_left; · intro w'; go_simp; with_reducible rfl
                          rotate_left; · simp only [Act.put, List.setIfInBounds_toArray, List.set_cons_zero, List.set_cons_succ, i64_w, i32_w]; rfl
                          refine pure_ (i := 3) (N := some 38) (v := ?_) (a' := ?_) bb60_ rfl rfl (any_of HT_.out (by kernel_rfl)) (fun _ _ _ h => h) (Or.inl ⟨by rfl, ?_⟩) ?_ ?_
                          rotate_left; · intro w'; go_simp; with_reducible rfl
                          rotate_left; · simp only [Act.put, List.setIfInBounds_toArray, List.set_cons_zero, List.set_cons_succ, i64_w, i32_w]; rfl
                          refine pure_ (i := 4) (N := some 39) (v := ?_) (a' := ?_) bb59_ rfl rfl (any_of HT_.out (by kernel_rfl)) (fun _ _ _ h => h) (Or.inl ⟨by rfl, ?_⟩) ?_ ?_
                          rotate_left; · intro w'; go_simp; with_reducible rfl
                          rotate_left; · simp only [Act.put, List.setIfInBounds_toArray, List.set_cons_zero, List.set_cons_succ, i64_w, i32_w]; rfl
                          refine pure_ (i := 5) (N := some 40) (v := ?_) (a' := ?_) bb58_ rfl rfl (any_of HT_.out (by kernel_rfl)) (fun _ _ _ h => h) (Or.inl ⟨by rfl, ?_⟩) ?_ ?_
                          rotate_left; · intro w'; go_simp; with_reducible rfl
                          rotate_left; · simp only [Act.put, List.setIfInBounds_toArray, List.set_cons_zero, List.set_cons_succ, i64_w, i32_w]; rfl
                          refine pure_ (i := 6) (N := some 41) (v := ?_) (a' := ?_) bb57_ rfl rfl (any_of HT_.out (by kernel_rfl)) (fun _ _ _ h => h) (Or.inl ⟨by rfl, ?_⟩) ?_ ?_
                          rotate_left; · intro w'; go_simp; with_reducible rfl
                          rotate_left; · simp only [Act.put, List.setIfInBounds_toArray, List.set_cons_zero, List.set_cons_succ, i64_w, i32_w]; rfl
                          refine pure_ (i := 34) (N := some 69) (v := ?_) (a' := ?_) bb56_ rfl rfl (any_of HT_.out (by kernel_rfl)) (fun _ _ _ h => h) (Or.inl ⟨by rfl, ?_⟩) ?_ ?_
                          rotate_left; · intro w'; go_simp; with_reducible rfl
                          rotate_left; · simp only [Act.put, List.setIfInBounds_toArray, List.set_cons_zero, List.set_cons_succ, i64_w, i32_w]; rfl
                          refine pure_ (i := 35) (N := some 70) (v := ?_) (a' := ?_) bb55_ rfl rfl (any_of HT_.out (by kernel_rfl)) (fun _ _ _ h => h) (Or.inl ⟨by rfl, ?_⟩) ?_ ?_
                          rotate_left; · intro w'; go_simp; with_reducible rfl
                          rotate_left; · simp only [Act.put, List.setIfInBounds_toArray, List.set_cons_zero, List.set_cons_succ, i64_w, i32_w]; rfl
                          refine pure_ (i := 36) (N := some 71) (v := ?_) (a' := ?_) bb54_ rfl rfl (any_of HT_.out (by kernel_rfl)) (fun _ _ _ h => h) (Or.inl ⟨by rfl, ?_⟩) ?_ ?_
                          rotate_left; · intro w'; go_simp; with_reducible rfl
                          rotate_left; · simp only [Act.put, List.setIfInBounds_toArray, List.set_cons_zero, List.set_cons_succ, i64_w, i32_w]; rfl
                          refine pure_ (i := 37) (N := some 72) (v := ?_) (a' := ?_) bb53_ rfl rfl (any_of HT_.out (by kernel_rfl)) (fun _ _ _ h => h) (Or.inl ⟨by rfl, ?_⟩) ?_ ?_
                          rotate_left; · intro w'; go_simp; with_reducible rfl
                          rotate_left; · simp only [Act.put, List.setIfInBounds_toArray, List.set_cons_zero, List.set_cons_succ, i64_w, i32_w]; rfl
                          refine pure_ (i := 39) (N := some 74) (v := ?_) (a' := ?_) bb52_ rfl rfl (any_of HT_.out (by kernel_rfl)) (fun _ _ _ h => h) (Or.inl ⟨by rfl, ?_⟩) ?_ ?_
                          rotate_left; · intro w'; go_simp; with_reducible rfl
                          rotate_left; · simp only [Act.put, List.setIfInBounds_toArray, List.set_cons_zero, List.set_cons_succ, i64_w, i32_w]; rfl
                          refine pure_ (i := 40) (N := some 75) (v := ?_) (a' := ?_) bb51_ rfl rfl (any_of HT_.out (by kernel_rfl)) (fun _ _ _ h => h) (Or.inl ⟨by rfl, ?_⟩) ?_ ?_
                          rotate_left; · intro w'; go_simp; with_reducible rfl
                          rotate_left; · simp only [Act.put, List.setIfInBounds_toArray, List.set_cons_zero, List.set_cons_succ, i64_w, i32_w]; rfl
                          refine pure_ (i := 41) (N := some 76) (v := ?_) (a' := ?_) bb50_ rfl rfl (any_of HT_.out (by kernel_rfl)) (fun _ _ _ h => h) (Or.inl ⟨by rfl, ?_⟩) ?_ ?_
                          rotate_left; · intro w'; go_simp; with_reducible rfl
                          rotate_left; · simp only [Act.put, List.setIfInBounds_toArray, List.set_cons_zero, List.set_cons_succ, i64_w, i32_w]; rfl
                          refine pure_ (i := 42) (N := some 77) (v := ?_) (a' := ?_) bb49_ rfl rfl (any_of HT_.out (by kernel_rfl)) (fun _ _ _ h => h) (Or.inl ⟨by rfl, ?_⟩) ?_ ?_
                          rotate_left; · intro w'; go_simp; with_reducible rfl
                          rotate_left; · simp only [Act.put, List.setIfInBounds_toArray, List.set_cons_zero, List.set_cons_succ, i64_w, i32_w]; rfl
                          refine take_ (i := 7) (N := some 42) (v := ?_) (a' := ?_) bb48_ rfl rfl (take_ofW HT_.out HW_.out (by kernel_rfl)) (fun _ _ _ h => h) (Or.inl ⟨by rfl, ?_⟩) hHeld ?_ ?_
                          rotate_left; · rintro w' ⟨s0, s1, s2, s3, s4, s5, s6, s7, s8, s9, s10, s11, s12, s13, s14, s15, s16, s17, s18, s19, s20, s21, s22⟩; go_simp; with_reducible rfl
                          rotate_left; · simp only [Act.put, List.setIfInBounds_toArray, List.set_cons_zero, List.set_cons_succ, i64_w, i32_w]; rfl
                          refine pure_ (i := 8) (N := some 43) (v := ?_) (a' := ?_) bb47_ rfl rfl (any_of HT_.out (by kernel_rfl)) (fun _ _ _ h => h) (Or.inl ⟨by rfl, ?_⟩) ?_ ?_
                          rotate_left; · intro w'; go_simp; with_reducible rfl
                          rotate_left; · simp only [Act.put, List.setIfInBounds_toArray, List.set_cons_zero, List.set_cons_succ, i64_w, i32_w]; rfl
                          refine pure_ (i := 9) (N := some 44) (v := ?_) (a' := ?_) bb46_ rfl rfl (any_of HT_.out (by kernel_rfl)) (fun _ _ _ h => h) (Or.inl ⟨by rfl, ?_⟩) ?_ ?_
                          rotate_left; · intro w'; go_simp; with_reducible rfl
                          rotate_left; · simp only [Act.put, List.setIfInBounds_toArray, List.set_cons_zero, List.set_cons_succ, i64_w, i32_w]; rfl
                          refine pure_ (i := 10) (N := some 45) (v := ?_) (a' := ?_) bb45_ rfl rfl (any_of HT_.out (by kernel_rfl)) (fun _ _ _ h => h) (Or.inl ⟨by rfl, ?_⟩) ?_ ?_
                          rotate_left; · intro w'; go_simp; with_reducible rfl
                          rotate_left; · simp only [Act.put, List.setIfInBounds_toArray, List.set_cons_zero, List.set_cons_succ, i64_w, i32_w]; rfl
                          refine pure_ (i := 11) (N := some 46) (v := ?_) (a' := ?_) bb44_ rfl rfl (any_of HT_.out (by kernel_rfl)) (fun _ _ _ h => h) (Or.inl ⟨by rfl, ?_⟩) ?_ ?_
                          rotate_left; · intro w'; go_simp; with_reducible rfl
                          rotate_left; · simp only [Act.put, List.setIfInBounds_toArray, List.set_cons_zero, List.set_cons_succ, i64_w, i32_w]; rfl
                          refine pure_ (i := 12) (N := some 47) (v := ?_) (a' := ?_) bb43_ rfl rfl (any_of HT_.out (by kernel_rfl)) (fun _ _ _ h => h) (Or.inl ⟨by rfl, ?_⟩) ?_ ?_
                          rotate_left; · intro w'; go_simp; with_reducible rfl
                          rotate_left; · simp only [Act.put, List.setIfInBounds_toArray, List.set_cons_zero, List.set_cons_succ, i64_w, i32_w]; rfl
                          refine pure_ (i := 13) (N := some 48) (v := ?_) (a' := ?_) bb42_ rfl rfl (any_of HT_.out (by kernel_rfl)) (fun _ _ _ h => h) (Or.inl ⟨by rfl, ?_⟩) ?_ ?_
                          rotate_left; · intro w'; go_simp; with_reducible rfl
                          rotate_left; · simp only [Act.put, List.setIfInBounds_toArray, List.set_cons_zero, List.set_cons_succ, i64_w, i32_w]; rfl
                          refine pure_ (i := 14) (N := some 49) (v := ?_) (a' := ?_) bb41_ rfl rfl (any_of HT_.out (by kernel_rfl)) (fun _ _ _ h => h) (Or.inl ⟨by rfl, ?_⟩) ?_ ?_
                          rotate_left; · intro w'; go_simp; with_reducible rfl
                          rotate_left; · simp only [Act.put, List.setIfInBounds_toArray, List.set_cons_zero, List.set_cons_succ, i64_w, i32_w]; rfl
                          refine take_ (i := 15) (N := some 50) (v := ?_) (a' := ?_) bb40_ rfl rfl (take_ofW HT_.out HW_.out (by kernel_rfl)) (fun _ _ _ h => h) (Or.inl ⟨by rfl, ?_⟩) hHeld ?_ ?_
                          rotate_left; · rintro w' ⟨s0, s1, s2, s3, s4, s5, s6, s7, s8, s9, s10, s11, s12, s13, s14, s15, s16, s17, s18, s19, s20, s21, s22⟩; go_simp; with_reducible rfl
                          rotate_left; · simp only [Act.put, List.setIfInBounds_toArray, List.set_cons_zero, List.set_cons_succ, i64_w, i32_w]; rfl
                          refine pure_ (i := 16) (N := some 51) (v := ?_) (a' := ?_) bb39_ rfl rfl (any_of HT_.out (by kernel_rfl)) (fun _ _ _ h => h) (Or.inl ⟨by rfl, ?_⟩) ?_ ?_
                          rotate_left; · intro w'; go_simp; with_reducible rfl
                          rotate_left; · simp only [Act.put, List.setIfInBounds_toArray, List.set_cons_zero, List.set_cons_succ, i64_w, i32_w]; rfl
                          refine pure_ (i := 17) (N := some 52) (v := ?_) (a' := ?_) bb38_ rfl rfl (any_of HT_.out (by kernel_rfl)) (fun _ _ _ h => h) (Or.inl ⟨by rfl, ?_⟩) ?_ ?_
                          rotate_left; · intro w'; go_simp; with_reducible rfl
                          rotate_left; · simp only [Act.put, List.setIfInBounds_toArray, List.set_cons_zero, List.set_cons_succ, i64_w, i32_w]; rfl
                          refine pure_ (i := 18) (N := some 53) (v := ?_) (a' := ?_) bb37_ rfl rfl (any_of HT_.out (by kernel_rfl)) (fun _ _ _ h => h) (Or.inl ⟨by rfl, ?_⟩) ?_ ?_
                          rotate_left; · intro w'; go_simp; with_reducible rfl
                          rotate_left; · simp only [Act.put, List.setIfInBounds_toArray, List.set_cons_zero, List.set_cons_succ, i64_w, i32_w]; rfl
                          refine pure_ (i := 19) (N := some 54) (v := undef) (a' := ?_) bb36_ rfl rfl (any_of HT_.out (by kernel_rfl)) (fun _ _ _ h => h) (Or.inr ⟨by rfl, rfl⟩) ?_ ?_
                          rotate_left; · simp only [Act.put, List.setIfInBounds_toArray, List.set_cons_zero, List.set_cons_succ, i64_w, i32_w]; rfl
                          refine pure_ (i := 20) (N := some 55) (v := undef) (a' := ?_) bb35_ rfl rfl (any_of HT_.out (by kernel_rfl)) (fun _ _ _ h => h) (Or.inr ⟨by rfl, rfl⟩) ?_ ?_
                          rotate_left; · simp only [Act.put, List.setIfInBounds_toArray, List.set_cons_zero, List.set_cons_succ, i64_w, i32_w]; rfl
                          refine pure_ (i := 21) (N := some 56) (v := undef) (a' := ?_) bb34_ rfl rfl (any_of HT_.out (by kernel_rfl)) (fun _ _ _ h => h) (Or.inr ⟨by rfl, rfl⟩) ?_ ?_
                          rotate_left; · simp only [Act.put, List.setIfInBounds_toArray, List.set_cons_zero, List.set_cons_succ, i64_w, i32_w]; rfl
                          refine pure_ (i := 22) (N := some 57) (v := undef) (a' := ?_) bb33_ rfl rfl (any_of HT_.out (by kernel_rfl)) (fun _ _ _ h => h) (Or.inr ⟨by rfl, rfl⟩) ?_ ?_
                          rotate_left; · simp only [Act.put, List.setIfInBounds_toArray, List.set_cons_zero, List.set_cons_succ, i64_w, i32_w]; rfl
                          refine pure_ (i := 23) (N := some 58) (v := undef) (a' := ?_) bb32_ rfl rfl (any_of HT_.out (by kernel_rfl)) (fun _ _ _ h => h) (Or.inr ⟨by rfl, rfl⟩) ?_ ?_
                          rotate_left; · simp only [Act.put, List.setIfInBounds_toArray, List.set_cons_zero, List.set_cons_succ, i64_w, i32_w]; rfl
                          refine pure_ (i := 24) (N := some 59) (v := undef) (a' := ?_) bb31_ rfl rfl (any_of HT_.out (by kernel_rfl)) (fun _ _ _ h => h) (Or.inr ⟨by rfl, rfl⟩) ?_ ?_
                          rotate_left; · simp only [Act.put, List.setIfInBounds_toArray, List.set_cons_zero, List.set_cons_succ, i64_w, i32_w]; rfl
                          refine pure_ (i := 25) (N := some 60) (v := ?_) (a' := ?_) bb30_ rfl rfl (any_of HT_.out (by kernel_rfl)) (fun _ _ _ h => h) (Or.inl ⟨by rfl, ?_⟩) ?_ ?_
                          rotate_left; · intro w'; go_simp; with_reducible rfl
                          rotate_left; · simp only [Act.put, List.setIfInBounds_toArray, List.set_cons_zero, List.set_cons_succ, i64_w, i32_w]; rfl
                          refine pure_ (i := 26) (N := some 61) (v := ?_) (a' := ?_) bb29_ rfl rfl (any_of HT_.out (by kernel_rfl)) (fun _ _ _ h => h) (Or.inl ⟨by rfl, ?_⟩) ?_ ?_
                          rotate_left; · intro w'; go_simp; with_reducible rfl
                          rotate_left; · simp only [Act.put, List.setIfInBounds_toArray, List.set_cons_zero, List.set_cons_succ, i64_w, i32_w]; rfl
                          refine pure_ (i := 27) (N := some 62) (v := undef) (a' := ?_) bb28_ rfl rfl (any_of HT_.out (by kernel_rfl)) (fun _ _ _ h => h) (Or.inr ⟨by rfl, rfl⟩) ?_ ?_
                          rotate_left; · simp only [Act.put, List.setIfInBounds_toArray, List.set_cons_zero, List.set_cons_succ, i64_w, i32_w]; rfl
                          refine pure_ (i := 28) (N := some 63) (v := undef) (a' := ?_) bb27_ rfl rfl (any_of HT_.out (by kernel_rfl)) (fun _ _ _ h => h) (Or.inr ⟨by rfl, rfl⟩) ?_ ?_
                          rotate_left; · simp only [Act.put, List.setIfInBounds_toArray, List.set_cons_zero, List.set_cons_succ, i64_w, i32_w]; rfl
                          refine pure_ (i := 29) (N := some 64) (v := undef) (a' := ?_) bb26_ rfl rfl (any_of HT_.out (by kernel_rfl)) (fun _ _ _ h => h) (Or.inr ⟨by rfl, rfl⟩) ?_ ?_
                          rotate_left; · simp only [Act.put, List.setIfInBounds_toArray, List.set_cons_zero, List.set_cons_succ, i64_w, i32_w]; rfl
                          refine pure_ (i := 30) (N := some 65) (v := undef) (a' := ?_) bb25_ rfl rfl (any_of HT_.out (by kernel_rfl)) (fun _ _ _ h => h) (Or.inr ⟨by rfl, rfl⟩) ?_ ?_
                          rotate_left; · simp only [Act.put, List.setIfInBounds_toArray, List.set_cons_zero, List.set_cons_succ, i64_w, i32_w]; rfl
                          refine pure_ (i := 31) (N := some 66) (v := undef) (a' := ?_) bb24_ rfl rfl (any_of HT_.out (by kernel_rfl)) (fun _ _ _ h => h) (Or.inr ⟨by rfl, rfl⟩) ?_ ?_
                          rotate_left; · simp only [Act.put, List.setIfInBounds_toArray, List.set_cons_zero, List.set_cons_succ, i64_w, i32_w]; rfl
                          refine pure_ (i := 32) (N := some 67) (v := undef) (a' := ?_) bb23_ rfl rfl (any_of HT_.out (by kernel_rfl)) (fun _ _ _ h => h) (Or.inr ⟨by rfl, rfl⟩) ?_ ?_
                          rotate_left; · simp only [Act.put, List.setIfInBounds_toArray, List.set_cons_zero, List.set_cons_succ, i64_w, i32_w]; rfl
                          refine pure_ (i := 33) (N := some 68) (v := ?_) (a' := ?_) bb22_ rfl rfl (any_of HT_.out (by kernel_rfl)) (fun _ _ _ h => h) (Or.inl ⟨by rfl, ?_⟩) ?_ ?_
                          rotate_left; · intro w'; go_simp; with_reducible rfl
                          rotate_left; · simp only [Act.put, List.setIfInBounds_toArray, List.set_cons_zero, List.set_cons_succ, i64_w, i32_w]; rfl
                          refine take_ (i := 38) (N := some 73) (v := ?_) (a' := ?_) bb21_ rfl rfl (take_ofW HT_.out HW_.out (by kernel_rfl)) (fun _ _ _ h => h) (Or.inl ⟨by rfl, ?_⟩) hHeld ?_ ?_
                          rotate_left; · rintro w' ⟨s0, s1, s2, s3, s4, s5, s6, s7, s8, s9, s10, s11, s12, s13, s14, s15, s16, s17, s18, s19, s20, s21, s22⟩; go_simp; with_reducible rfl
                          rotate_left; · simp only [Act.put, List.setIfInBounds_toArray, List.set_cons_zero, List.set_cons_succ, i64_w, i32_w]; rfl
                          refine take_ (i := 43) (N := some 78) (v := ?_) (a' := ?_) bb20_ rfl rfl (take_ofW HT_.out HW_.out (by kernel_rfl)) (fun _ _ _ h => h) (Or.inl ⟨by rfl, ?_⟩) hHeld ?_ ?_
                          rotate_left; · rintro w' ⟨s0, s1, s2, s3, s4, s5, s6, s7, s8, s9, s10, s11, s12, s13, s14, s15, s16, s17, s18, s19, s20, s21, s22⟩; go_simp; with_reducible rfl
                          rotate_left; · simp only [Act.put, List.setIfInBounds_toArray, List.set_cons_zero, List.set_cons_succ, i64_w, i32_w]; rfl
                          refine one_ (i := 44) (N := some 79) bb19_ rfl rfl (one_of HT_.out (by kernel_rfl)) (by decide) (fun K hK => ?_)
                          refine goes_ Try.func25 (by kernel_rfl) rfl #[.agg #[.int .i64 ((rd_T35 l0 x3_1).f1.f0), .slice A393_8 ((rd_T35 l0 x3_1).f1.f1).length c393_8, .slice A393_9 ((rd_T35 l0 x3_1).f1.f2).length c393_9, .string ((rd_T35 l0 x3_1).f1.f3), .int .i64 ((rd_T35 l0 x3_1).f1.f4), .int .i64 ((rd_T35 l0 x3_1).f1.f5)], .int .i64 ((rd_T35 l0 x3_1).f2)] (by rfl) rfl rfl (by (try simp only [List.map_toArray, List.map_cons, List.map_nil]); first | done | rfl | (simp only [List.length_drop, List.length_take]; rfl)) ?_
                          with_reducible refine (gangwayref20_Filestat.calls kj9 ((rd_T35 l0 x3_1).f1.f0) _ _ ((rd_T35 l0 x3_1).f1.f1) _ _ ((rd_T35 l0 x3_1).f1.f2) ((rd_T35 l0 x3_1).f1.f3) ((rd_T35 l0 x3_1).f1.f4) ((rd_T35 l0 x3_1).f1.f5) ((rd_T35 l0 x3_1).f2) t411 _ ?side1 ?side2 ?side3 ?side4 A34.out).mono ?_
                          (case side1 => repeat (first | exact (Kd.C_below HR409_8.out HB.out) | (with_reducible refine Kd.C_alloc ?_ _) | (with_reducible refine Kd.C_drewN ?_ _) | (with_reducible refine Kd.C_drew ?_)))
                          (case side2 => exact HC409_8.out)
                          (case side3 => repeat (first | exact (Kd.C_below HR409_9.out HB.out) | (with_reducible refine Kd.C_alloc ?_ _) | (with_reducible refine Kd.C_drewN ?_ _) | (with_reducible refine Kd.C_drew ?_)))
                          (case side4 => exact HC409_9.out)
                          rintro e w37 ⟨v412, rfl, ho0, hb⟩
                          refine ⟨_, rfl, ?_⟩
                          have n0_ := Aside0.mk (Kd.R_elder' (by (with_reducible repeat (first | apply Kd.R_alloc | apply Kd.R_drewN | apply Kd.R_drew)); exact HO391.out) (Kd.R_base ho0) hb)
                          have n1_ := Aside0.mk (Kd.R_lower (Kd.R_new' ho0 (Kd.R_lt (by (with_reducible repeat (first | apply Kd.R_alloc | apply Kd.R_drewN | apply Kd.R_drew)); exact HO391.out))) (below_size (by repeat (first | (with_reducible first | exact HB.out | apply below_alloc | apply pw_below_drewN | apply below_drew1) | exact HB.out))))
                          have n2_ := Aside0.mk (below_step (by repeat (first | (with_reducible first | exact HB.out | apply below_alloc | apply pw_below_drewN | apply below_drew1) | exact HB.out)) hb)
                          clear HO391
                          clear HB
                          have HO391 := n0_
                          have HO413 := n1_
                          have HB := n2_
                          clear n0_ n1_ n2_
                          (try clear hb)
                          (try clear hb2)
                          (try clear hk)
                          (try clear hi)
                          (try clear ho0)
                          obtain ⟨Ao38, co38, eo38⟩ := Kd.R_slice HO391.out
                          (first | subst eo38 | (injection eo38 with f1_ f2_ f3_; have f4_ := f1_.symm; have f5_ := f3_.symm; clear f1_ f2_ f3_; subst f4_; subst f5_))
                          obtain ⟨Ao39, co39, eo39⟩ := Kd.R_slice HO413.out
                          (first | subst eo39 | (injection eo39 with f1_ f2_ f3_; have f4_ := f1_.symm; have f5_ := f3_.symm; clear f1_ f2_ f3_; subst f4_; subst f5_))
                          refine hK.out _ _ ⟨(up HB hw393_0 :), (up HB hw393_1 :), (up HB hw393_2 :), (up HB hw393_3 :), (up HB hw393_4 :), (up HB hw393_5 :), (up HB hw393_6 :), (up HB hw393_7 :), (up HB hw393_8 :), (up HB hw393_9 :), (up HB hw393_10 :), (up HB hw393_11 :), (up HB hw393_12 :), (up HB hw393_13 :), (up HB hw393_14 :), (up HB hw393_15 :), (up HB hw393_16 :), (up HB hw393_17 :), (up HB hw393_18 :), (up HB hw393_19 :), (up HB hw393_20 :), (up HB hw393_21 :), (up HB hw393_22 :)⟩ (fun hHeld => ?_)
                          clear hK K
                          refine norm_ (a' := ?_) ?_ ?_
                          rotate_left
                          ·show Act.put _ (some 79) _ = _
                           simp only [Act.put, List.setIfInBounds_toArray, List.set_cons_zero, List.set_cons_succ, i64_w, i32_w]
                           rfl
                          refine one_ (i := 45) (N := some 80) bb18_ rfl rfl (one_of HT_.out (by kernel_rfl)) (by decide) (fun K hK => ?_)
                          refine goes_ Try.func11 (by kernel_rfl) rfl #[.slice Ao38 t389.length co38, .int .i64 t392, .bool false, .slice Ao39 t411.length co39] (by rfl) rfl rfl (by (try simp only [List.map_toArray, List.map_cons, List.map_nil]); first | done | rfl | (simp only [List.length_drop, List.length_take]; rfl)) ?_
                          with_reducible refine (gangwaylaw20_is.calls kj9 _ _ t389 t392 false _ _ t411 t414 _ ?side1 ?side2 ?side3 ?side4 A35.out).mono ?_
                          (case side1 => repeat (first | exact (Kd.R_reads' HO391.out).2.2 | (with_reducible refine Kd.C_alloc ?_ _) | (with_reducible refine Kd.C_drewN ?_ _) | (with_reducible refine Kd.C_drew ?_)))
                          (case side2 => exact (Kd.R_reads' HO391.out).2.1)
                          (case side3 => repeat (first | exact (Kd.R_reads' HO413.out).2.2 | (with_reducible refine Kd.C_alloc ?_ _) | (with_reducible refine Kd.C_drewN ?_ _) | (with_reducible refine Kd.C_drew ?_)))
                          (case side4 => exact (Kd.R_reads' HO413.out).2.1)
                          rintro e w' ⟨rfl, ⟨nd, rfl⟩⟩
                          refine ⟨_, rfl, ?_⟩
                          refine hK.out _ _ ⟨(up HB hw393_0 :), (up HB hw393_1 :), (up HB hw393_2 :), (up HB hw393_3 :), (up HB hw393_4 :), (up HB hw393_5 :), (up HB hw393_6 :), (up HB hw393_7 :), (up HB hw393_8 :), (up HB hw393_9 :), (up HB hw393_10 :), (up HB hw393_11 :), (up HB hw393_12 :), (up HB hw393_13 :), (up HB hw393_14 :), (up HB hw393_15 :), (up HB hw393_16 :), (up HB hw393_17 :), (up HB hw393_18 :), (up HB hw393_19 :), (up HB hw393_20 :), (up HB hw393_21 :), (up HB hw393_22 :)⟩ (fun hHeld => ?_)
                          clear hK K
                          refine norm_ (a' := ?_) ?_ ?_
                          rotate_left
                          ·show Act.put _ (some 80) _ = _
                           simp only [Act.put, List.setIfInBounds_toArray, List.set_cons_zero, List.set_cons_succ, i64_w, i32_w]
                           rfl
                          refine pure_ (i := 46) (N := some 81) (v := ?_) (a' := ?_) bb17_ rfl rfl (any_of HT_.out (by kernel_rfl)) (fun _ _ _ h => h) (Or.inl ⟨by rfl, ?_⟩) ?_ ?_
                          rotate_left; · intro w'; go_simp; with_reducible rfl
                          rotate_left; · simp only [Act.put, List.setIfInBounds_toArray, List.set_cons_zero, List.set_cons_succ, i64_w, i32_w]; rfl
                          refine done_ (done_of HT_.out (by kernel_rfl)) ?_
                          try go_wp2
                          go_meet
                          case rel => exact ⟨_, (!t414), (by first | rfl | (simp; done) | (simp [*]; done)), H', ⟨by have := HK1.out; have := HJ2.out; have := HJ4.out; have := HJ9.out; first | omega | exact Nat.le_refl _⟩, ⟨by repeat (first | (with_reducible first | exact HB.out | apply below_alloc | apply pw_below_drewN | apply below_drew1) | exact HB.out)⟩⟩
                      ·as_aux_lemma =>
                        rw [if_neg c19] at H
                        have c19b0 : decide (1 ≤ ((rd_T35 l0 x3_1).f1.f0)) = false := decide_eq_false c19
                        clear c19
                        (first | rw [c19b0] | (simp only [i64_w, i32_w]; rw [c19b0]) | skip)
                        replace H := Option.bind_eq_some_iff.mp H
                        obtain ⟨t417, A400, H⟩ := H
                        replace H : ((gangwaylaw20_is.f kj9 t389 t392 false t417).bind fun t420 => (gangwaylaw20_StatNodes.j4 kj9 l0 x3_1 (!t420))) = some r := H
                        have A40 := Aside0.mk A400
                        clear A400
                        replace H := Option.bind_eq_some_iff.mp H
                        obtain ⟨t420, A410, H⟩ := H
                        replace H : (gangwaylaw20_StatNodes.j4 kj9 l0 x3_1 (!t420)) = some r := H
                        have A41 := Aside0.mk A410
                        clear A410
                        have H' := Aside0.mk H
                        clear H
                        try go_wp2
                        have n0_ := Aside0.mk (Kd.R_drew HO391.out)
                        have n1_ := Aside0.mk (below_drew1 HB.out)
                        clear HO391
                        clear HB
                        have HO391 := n0_
                        have HB := n1_
                        clear n0_ n1_
                        have p393 : 0 ≤ (x3_1 : Int) := of_decide_eq_true (by first | (with_reducible assumption) | assumption)
                        have q393 : x3_1 < (l0.length : Int) := of_decide_eq_true (by first | (with_reducible assumption) | assumption)
                        obtain ⟨ad393, A393_8, c393_8, A393_9, c393_9, A393_22, c393_22, e393, hx393_0, hx393_1, hx393_2, hx393_3, hx393_4, hx393_5, hx393_6, hx393_7, hx393_8, hx393_9, hx393_10, hx393_11, hx393_12, hx393_13, hx393_14, hx393_15, hx393_16, hx393_17, hx393_18, hx393_19, hx393_20, hx393_21, hx393_22, hl393_8, hi393_8, hl393_9, hi393_9, hl393_22, hi393_22⟩ := at_T35 HR0.out x3_1 p393 q393
                        have hw393_22 := hx393_22
                        have hw393_21 := hx393_21
                        have hw393_20 := hx393_20
                        have hw393_19 := hx393_19
                        have hw393_18 := hx393_18
                        have hw393_17 := hx393_17
                        have hw393_16 := hx393_16
                        have hw393_15 := hx393_15
                        have hw393_14 := hx393_14
                        have hw393_13 := hx393_13
                        have hw393_12 := hx393_12
                        have hw393_11 := hx393_11
                        have hw393_10 := hx393_10
                        have hw393_9 := hx393_9
                        have hw393_8 := hx393_8
                        have hw393_7 := hx393_7
                        have hw393_6 := hx393_6
                        have hw393_5 := hx393_5
                        have hw393_4 := hx393_4
                        have hw393_3 := hx393_3
                        have hw393_2 := hx393_2
                        have hw393_1 := hx393_1
                        have hw393_0 := hx393_0
                        obtain rfl : ad385 = ad393 := (by injection e393)
                        replace hx393_0 := up HB hx393_0
                        replace hx393_1 := up HB hx393_1
                        replace hx393_2 := up HB hx393_2
                        replace hx393_3 := up HB hx393_3
                        replace hx393_4 := up HB hx393_4
                        replace hx393_5 := up HB hx393_5
                        replace hx393_6 := up HB hx393_6
                        replace hx393_7 := up HB hx393_7
                        replace hx393_8 := up HB hx393_8
                        replace hx393_9 := up HB hx393_9
                        replace hx393_10 := up HB hx393_10
                        replace hx393_11 := up HB hx393_11
                        replace hx393_12 := up HB hx393_12
                        replace hx393_13 := up HB hx393_13
                        replace hx393_14 := up HB hx393_14
                        replace hx393_15 := up HB hx393_15
                        replace hx393_16 := up HB hx393_16
                        replace hx393_17 := up HB hx393_17
                        replace hx393_18 := up HB hx393_18
                        replace hx393_19 := up HB hx393_19
                        replace hx393_20 := up HB hx393_20
                        replace hx393_21 := up HB hx393_21
                        replace hx393_22 := up HB hx393_22
                        have HR393_8 := Aside0.mk hi393_8
                        have HC393_8 := Aside0.mk hl393_8
                        clear hi393_8 hl393_8
                        have HR393_9 := Aside0.mk hi393_9
                        have HC393_9 := Aside0.mk hl393_9
                        clear hi393_9 hl393_9
                        have HR393_22 := Aside0.mk hi393_22
                        have HC393_22 := Aside0.mk hl393_22
                        clear hi393_22 hl393_22
                        replace p393 := eq_true p393
                        replace q393 := eq_true q393
                        have p415 : 0 ≤ (x3_1 : Int) := of_decide_eq_true (by first | (with_reducible assumption) | assumption)
                        have q415 : x3_1 < (l0.length : Int) := of_decide_eq_true (by first | (with_reducible assumption) | assumption)
                        obtain ⟨ad415, A415_8, c415_8, A415_9, c415_9, A415_22, c415_22, e415, -, -, -, -, -, -, -, -, hx415_8, hx415_9, -, -, -, -, -, -, -, -, -, -, -, -, hx415_22, hl415_8, hi415_8, hl415_9, hi415_9, hl415_22, hi415_22⟩ := at_T35 HR0.out x3_1 p415 q415
                        obtain rfl : ad385 = ad415 := (by injection e415)
                        replace hx415_8 := up HB hx415_8
                        replace hx415_9 := up HB hx415_9
                        replace hx415_22 := up HB hx415_22
                        have HR415_8 := Aside0.mk hi415_8
                        have HC415_8 := Aside0.mk hl415_8
                        clear hi415_8 hl415_8
                        have HR415_9 := Aside0.mk hi415_9
                        have HC415_9 := Aside0.mk hl415_9
                        clear hi415_9 hl415_9
                        have HR415_22 := Aside0.mk hi415_22
                        have HC415_22 := Aside0.mk hl415_22
                        clear hi415_22 hl415_22
                        replace p415 := eq_true p415
                        replace q415 := eq_true q415
                        have ea_ := Option.some.inj (hx393_8.symm.trans hx415_8)
                        injection ea_ with ea_ en_ ec_; subst ea_; subst ec_; clear en_
                        have ea_ := Option.some.inj (hx393_9.symm.trans hx415_9)
                        injection ea_ with ea_ en_ ec_; subst ea_; subst ec_; clear en_
                        have ea_ := Option.some.inj (hx393_22.symm.trans hx415_22)
                        injection ea_ with ea_ en_ ec_; subst ea_; subst ec_; clear en_
                        have p416 : 0 ≤ (x3_1 : Int) := of_decide_eq_true (by first | (with_reducible assumption) | assumption)
                        have q416 : x3_1 < (l0.length : Int) := of_decide_eq_true (by first | (with_reducible assumption) | assumption)
                        obtain ⟨ad416, A416_8, c416_8, A416_9, c416_9, A416_22, c416_22, e416, -, -, -, -, -, -, -, -, hx416_8, hx416_9, -, -, -, -, -, -, -, -, -, -, -, -, hx416_22, hl416_8, hi416_8, hl416_9, hi416_9, hl416_22, hi416_22⟩ := at_T35 HR0.out x3_1 p416 q416
                        obtain rfl : ad385 = ad416 := (by injection e416)
                        replace hx416_8 := up HB hx416_8
                        replace hx416_9 := up HB hx416_9
                        replace hx416_22 := up HB hx416_22
                        have HR416_8 := Aside0.mk hi416_8
                        have HC416_8 := Aside0.mk hl416_8
                        clear hi416_8 hl416_8
                        have HR416_9 := Aside0.mk hi416_9
                        have HC416_9 := Aside0.mk hl416_9
                        clear hi416_9 hl416_9
                        have HR416_22 := Aside0.mk hi416_22
                        have HC416_22 := Aside0.mk hl416_22
                        clear hi416_22 hl416_22
                        replace p416 := eq_true p416
                        replace q416 := eq_true q416
                        have ea_ := Option.some.inj (hx393_8.symm.trans hx416_8)
                        injection ea_ with ea_ en_ ec_; subst ea_; subst ec_; clear en_
                        have ea_ := Option.some.inj (hx393_9.symm.trans hx416_9)
                        injection ea_ with ea_ en_ ec_; subst ea_; subst ec_; clear en_
                        have ea_ := Option.some.inj (hx393_22.symm.trans hx416_22)
                        injection ea_ with ea_ en_ ec_; subst ea_; subst ec_; clear en_
                        refine start_ (n := 47) (S := fun w' => w'.cell? (ad385.add ((x3_1).toNat * 23)) = some (.int .i64 ((rd_T35 l0 x3_1).f0.f0)) ∧ w'.cell? ⟨(ad385.add ((x3_1).toNat * 23)).block, (ad385.add ((x3_1).toNat * 23)).off + 1, none⟩ = some (.int .i64 ((rd_T35 l0 x3_1).f0.f1)) ∧ w'.cell? ⟨(ad385.add ((x3_1).toNat * 23)).block, (ad385.add ((x3_1).toNat * 23)).off + 2, none⟩ = some (.int .i64 ((rd_T35 l0 x3_1).f0.f2)) ∧ w'.cell? ⟨(ad385.add ((x3_1).toNat * 23)).block, (ad385.add ((x3_1).toNat * 23)).off + 3, none⟩ = some (.int .i64 ((rd_T35 l0 x3_1).f0.f3)) ∧ w'.cell? ⟨(ad385.add ((x3_1).toNat * 23)).block, (ad385.add ((x3_1).toNat * 23)).off + 4, none⟩ = some (.int .i64 ((rd_T35 l0 x3_1).f0.f4)) ∧ w'.cell? ⟨(ad385.add ((x3_1).toNat * 23)).block, (ad385.add ((x3_1).toNat * 23)).off + 5, none⟩ = some (.int .i64 ((rd_T35 l0 x3_1).f0.f5)) ∧ w'.cell? ⟨(ad385.add ((x3_1).toNat * 23)).block, (ad385.add ((x3_1).toNat * 23)).off + 6, none⟩ = some (.string ((rd_T35 l0 x3_1).f0.f6)) ∧ w'.cell? ⟨(ad385.add ((x3_1).toNat * 23)).block, (ad385.add ((x3_1).toNat * 23)).off + 7, none⟩ = some (.int .i64 ((rd_T35 l0 x3_1).f1.f0)) ∧ w'.cell? ⟨(ad385.add ((x3_1).toNat * 23)).block, (ad385.add ((x3_1).toNat * 23)).off + 8, none⟩ = some (.slice A393_8 ((rd_T35 l0 x3_1).f1.f1).length c393_8) ∧ w'.cell? ⟨(ad385.add ((x3_1).toNat * 23)).block, (ad385.add ((x3_1).toNat * 23)).off + 9, none⟩ = some (.slice A393_9 ((rd_T35 l0 x3_1).f1.f2).length c393_9) ∧ w'.cell? ⟨(ad385.add ((x3_1).toNat * 23)).block, (ad385.add ((x3_1).toNat * 23)).off + 10, none⟩ = some (.string ((rd_T35 l0 x3_1).f1.f3)) ∧ w'.cell? ⟨(ad385.add ((x3_1).toNat * 23)).block, (ad385.add ((x3_1).toNat * 23)).off + 11, none⟩ = some (.int .i64 ((rd_T35 l0 x3_1).f1.f4)) ∧ w'.cell? ⟨(ad385.add ((x3_1).toNat * 23)).block, (ad385.add ((x3_1).toNat * 23)).off + 12, none⟩ = some (.int .i64 ((rd_T35 l0 x3_1).f1.f5)) ∧ w'.cell? ⟨(ad385.add ((x3_1).toNat * 23)).block, (ad385.add ((x3_1).toNat * 23)).off + 13, none⟩ = some (.int .i64 ((rd_T35 l0 x3_1).f2)) ∧ w'.cell? ⟨(ad385.add ((x3_1).toNat * 23)).block, (ad385.add ((x3_1).toNat * 23)).off + 14, none⟩ = some (.string ((rd_T35 l0 x3_1).f3)) ∧ w'.cell? ⟨(ad385.add ((x3_1).toNat * 23)).block, (ad385.add ((x3_1).toNat * 23)).off + 15, none⟩ = some (.int .i64 ((rd_T35 l0 x3_1).f4)) ∧ w'.cell? ⟨(ad385.add ((x3_1).toNat * 23)).block, (ad385.add ((x3_1).toNat * 23)).off + 16, none⟩ = some (.int .i64 ((rd_T35 l0 x3_1).f5)) ∧ w'.cell? ⟨(ad385.add ((x3_1).toNat * 23)).block, (ad385.add ((x3_1).toNat * 23)).off + 17, none⟩ = some (.int .i64 ((rd_T35 l0 x3_1).f6)) ∧ w'.cell? ⟨(ad385.add ((x3_1).toNat * 23)).block, (ad385.add ((x3_1).toNat * 23)).off + 18, none⟩ = some (.int .i64 ((rd_T35 l0 x3_1).f7.f0)) ∧ w'.cell? ⟨(ad385.add ((x3_1).toNat * 23)).block, (ad385.add ((x3_1).toNat * 23)).off + 19, none⟩ = some (.int .i64 ((rd_T35 l0 x3_1).f7.f1)) ∧ w'.cell? ⟨(ad385.add ((x3_1).toNat * 23)).block, (ad385.add ((x3_1).toNat * 23)).off + 20, none⟩ = some (.int .i64 ((rd_T35 l0 x3_1).f7.f2)) ∧ w'.cell? ⟨(ad385.add ((x3_1).toNat * 23)).block, (ad385.add ((x3_1).toNat * 23)).off + 21, none⟩ = some (.int .i64 ((rd_T35 l0 x3_1).f7.f3)) ∧ w'.cell? ⟨(ad385.add ((x3_1).toNat * 23)).block, (ad385.add ((x3_1).toNat * 23)).off + 22, none⟩ = some (.slice A393_22 ((rd_T35 l0 x3_1).f8).length c393_22)) (ds := []) bb64_ (by kernel_rfl) rfl rfl ⟨(up HB hw393_0 :), (up HB hw393_1 :), (up HB hw393_2 :), (up HB hw393_3 :), (up HB hw393_4 :), (up HB hw393_5 :), (up HB hw393_6 :), (up HB hw393_7 :), (up HB hw393_8 :), (up HB hw393_9 :), (up HB hw393_10 :), (up HB hw393_11 :), (up HB hw393_12 :), (up HB hw393_13 :), (up HB hw393_14 :), (up HB hw393_15 :), (up HB hw393_16 :), (up HB hw393_17 :), (up HB hw393_18 :), (up HB hw393_19 :), (up HB hw393_20 :), (up HB hw393_21 :), (up HB hw393_22 :)⟩ (fun hHeld => ?_); refine with_tabW gangwaylaw20_StatNodes.tab7 gangwaylaw20_StatNodes.bits7 (fun HT_ HW_ => ?_)
                        generalize w18.drew = w42 at HO391 HB HR393_22 HR393_8 HR393_9 HR415_22 HR415_8 HR415_9 HR416_22 HR416_8 HR416_9 hx393_0 hx393_1 hx393_10 hx393_11 hx393_12 hx393_13 hx393_14 hx393_15 hx393_16 hx393_17 hx393_18 hx393_19 hx393_2 hx393_20 hx393_21 hx393_22 hx393_3 hx393_4 hx393_5 hx393_6 hx393_7 hx393_8 hx393_9 hx415_22 hx415_8 hx415_9 hx416_22 hx416_8 hx416_9 hHeld ⊢
                        refine pure_ (i := 0) (N := some 35) (v := ?_) (a' := ?_) bb63_ rfl rfl (any_of HT_.out (by kernel_rfl)) (fun _ _ _ h => h) (Or.inl ⟨by rfl, ?_⟩) ?_ ?_
                        rotate_left; · intro w'; go_simp; with_reducible rfl
                        rotate_left; · simp only [Act.put, List.setIfInBounds_toArray, List.set_cons_zero, List.set_cons_succ, i64_w, i32_w]; rfl
                        refine pure_ (i := 1) (N := some 36) (v := ?_) (a' := ?_) bb62_ rfl rfl (any_of HT_.out (by kernel_rfl)) (fun _ _ _ h => h) (Or.inl ⟨by rfl, ?_⟩) ?_ ?_
                        rotate_left; · intro w'; go_simp; with_reducible rfl
                        rotate_left; · simp only [Act.put, List.setIfInBounds_toArray, List.set_cons_zero, List.set_cons_succ, i64_w, i32_w]; rfl
                        refine pure_ (i := 2) (N := some 37) (v := ?_) (a' := ?_) bb61_ rfl rfl (any_of HT_.out (by kernel_rfl)) (fun _ _ _ h => h) (Or.inl ⟨by rfl, ?_⟩) ?_ ?_
                        rotate_left; · intro w'; go_simp; with_reducible rfl
                        rotate_left; · simp only [Act.put, List.setIfInBounds_toArray, List.set_cons_zero, List.set_cons_succ, i64_w, i32_w]; rfl
                        refine pure_ (i := 3) (N := some 38) (v := ?_) (a' := ?_) bb60_ rfl rfl (any_of HT_.out (by kernel_rfl)) (fun _ _ _ h => h) (Or.inl ⟨by rfl, ?_⟩) ?_ ?_
                        rotate_left; · intro w'; go_simp; with_reducible rfl
                        rotate_left; · simp only [Act.put, List.setIfInBounds_toArray, List.set_cons_zero, List.set_cons_succ, i64_w, i32_w]; rfl
                        refine pure_ (i := 4) (N := some 39) (v := ?_) (a' := ?_) bb59_ rfl rfl (any_of HT_.out (by kernel_rfl)) (fun _ _ _ h => h) (Or.inl ⟨by rfl, ?_⟩) ?_ ?_
                        rotate_left; · intro w'; go_simp; with_reducible rfl
                        rotate_left; · simp only [Act.put, List.setIfInBounds_toArray, List.set_cons_zero, List.set_cons_succ, i64_w, i32_w]; rfl
                        refine pure_ (i := 5) (N := some 40) (v := ?_) (a' := ?_) bb58_ rfl rfl (any_of HT_.out (by kernel_rfl)) (fun _ _ _ h => h) (Or.inl ⟨by rfl, ?_⟩) ?_ ?_
                        rotate_left; · intro w'; go_simp; with_reducible rfl
                        rotate_left; · simp only [Act.put, List.setIfInBounds_toArray, List.set_cons_zero, List.set_cons_succ, i64_w, i32_w]; rfl
                        refine pure_ (i := 6) (N := some 41) (v := ?_) (a' := ?_) bb57_ rfl rfl (any_of HT_.out (by kernel_rfl)) (fun _ _ _ h => h) (Or.inl ⟨by rfl, ?_⟩) ?_ ?_
                        rotate_left; · intro w'; go_simp; with_reducible rfl
                        rotate_left; · simp only [Act.put, List.setIfInBounds_toArray, List.set_cons_zero, List.set_cons_succ, i64_w, i32_w]; rfl
                        refine pure_ (i := 34) (N := some 69) (v := ?_) (a' := ?_) bb56_ rfl rfl (any_of HT_.out (by kernel_rfl)) (fun _ _ _ h => h) (Or.inl ⟨by rfl, ?_⟩) ?_ ?_
                        rotate_left; · intro w'; go_simp; with_reducible rfl
                        rotate_left; · simp only [Act.put, List.setIfInBounds_toArray, List.set_cons_zero, List.set_cons_succ, i64_w, i32_w]; rfl
                        refine pure_ (i := 35) (N := some 70) (v := ?_) (a' := ?_) bb55_ rfl rfl (any_of HT_.out (by kernel_rfl)) (fun _ _ _ h => h) (Or.inl ⟨by rfl, ?_⟩) ?_ ?_
                        rotate_left; · intro w'; go_simp; with_reducible rfl
                        rotate_left; · simp only [Act.put, List.setIfInBounds_toArray, List.set_cons_zero, List.set_cons_succ, i64_w, i32_w]; rfl
                        refine pure_ (i := 36) (N := some 71) (v := ?_) (a' := ?_) bb54_ rfl rfl (any_of HT_.out (by kernel_rfl)) (fun _ _ _ h => h) (Or.inl ⟨by rfl, ?_⟩) ?_ ?_
                        rotate_left; · intro w'; go_simp; with_reducible rfl
                        rotate_left; · simp only [Act.put, List.setIfInBounds_toArray, List.set_cons_zero, List.set_cons_succ, i64_w, i32_w]; rfl
                        refine pure_ (i := 37) (N := some 72) (v := ?_) (a' := ?_) bb53_ rfl rfl (any_of HT_.out (by kernel_rfl)) (fun _ _ _ h => h) (Or.inl ⟨by rfl, ?_⟩) ?_ ?_
                        rotate_left; · intro w'; go_simp; with_reducible rfl
                        rotate_left; · simp only [Act.put, List.setIfInBounds_toArray, List.set_cons_zero, List.set_cons_succ, i64_w, i32_w]; rfl
                        refine pure_ (i := 39) (N := some 74) (v := ?_) (a' := ?_) bb52_ rfl rfl (any_of HT_.out (by kernel_rfl)) (fun _ _ _ h => h) (Or.inl ⟨by rfl, ?_⟩) ?_ ?_
                        rotate_left; · intro w'; go_simp; with_reducible rfl
                        rotate_left; · simp only [Act.put, List.setIfInBounds_toArray, List.set_cons_zero, List.set_cons_succ, i64_w, i32_w]; rfl
                        refine pure_ (i := 40) (N := some 75) (v := ?_) (a' := ?_) bb51_ rfl rfl (any_of HT_.out (by kernel_rfl)) (fun _ _ _ h => h) (Or.inl ⟨by rfl, ?_⟩) ?_ ?_
                        rotate_left; · intro w'; go_simp; with_reducible rfl
                        rotate_left; · simp only [Act.put, List.setIfInBounds_toArray, List.set_cons_zero, List.set_cons_succ, i64_w, i32_w]; rfl
                        refine pure_ (i := 41) (N := some 76) (v := ?_) (a' := ?_) bb50_ rfl rfl (any_of HT_.out (by kernel_rfl)) (fun _ _ _ h => h) (Or.inl ⟨by rfl, ?_⟩) ?_ ?_
                        rotate_left; · intro w'; go_simp; with_reducible rfl
                        rotate_left; · simp only [Act.put, List.setIfInBounds_toArray, List.set_cons_zero, List.set_cons_succ, i64_w, i32_w]; rfl
                        refine pure_ (i := 42) (N := some 77) (v := ?_) (a' := ?_) bb49_ rfl rfl (any_of HT_.out (by kernel_rfl)) (fun _ _ _ h => h) (Or.inl ⟨by rfl, ?_⟩) ?_ ?_
                        rotate_left; · intro w'; go_simp; with_reducible rfl
                        rotate_left; · simp only [Act.put, List.setIfInBounds_toArray, List.set_cons_zero, List.set_cons_succ, i64_w, i32_w]; rfl
                        refine take_ (i := 7) (N := some 42) (v := ?_) (a' := ?_) bb48_ rfl rfl (take_ofW HT_.out HW_.out (by kernel_rfl)) (fun _ _ _ h => h) (Or.inl ⟨by rfl, ?_⟩) hHeld ?_ ?_
                        rotate_left; · rintro w' ⟨s0, s1, s2, s3, s4, s5, s6, s7, s8, s9, s10, s11, s12, s13, s14, s15, s16, s17, s18, s19, s20, s21, s22⟩; go_simp; with_reducible rfl
                        rotate_left; · simp only [Act.put, List.setIfInBounds_toArray, List.set_cons_zero, List.set_cons_succ, i64_w, i32_w]; rfl
                        refine pure_ (i := 8) (N := some 43) (v := ?_) (a' := ?_) bb47_ rfl rfl (any_of HT_.out (by kernel_rfl)) (fun _ _ _ h => h) (Or.inl ⟨by rfl, ?_⟩) ?_ ?_
                        rotate_left; · intro w'; go_simp; with_reducible rfl
                        rotate_left; · simp only [Act.put, List.setIfInBounds_toArray, List.set_cons_zero, List.set_cons_succ, i64_w, i32_w]; rfl
                        refine pure_ (i := 9) (N := some 44) (v := ?_) (a' := ?_) bb46_ rfl rfl (any_of HT_.out (by kernel_rfl)) (fun _ _ _ h => h) (Or.inl ⟨by rfl, ?_⟩) ?_ ?_
                        rotate_left; · intro w'; go_simp; with_reducible rfl
                        rotate_left; · simp only [Act.put, List.setIfInBounds_toArray, List.set_cons_zero, List.set_cons_succ, i64_w, i32_w]; rfl
                        refine pure_ (i := 10) (N := some 45) (v := undef) (a' := ?_) bb45_ rfl rfl (any_of HT_.out (by kernel_rfl)) (fun _ _ _ h => h) (Or.inr ⟨by rfl, rfl⟩) ?_ ?_
                        rotate_left; · simp only [Act.put, List.setIfInBounds_toArray, List.set_cons_zero, List.set_cons_succ, i64_w, i32_w]; rfl
                        refine pure_ (i := 11) (N := some 46) (v := undef) (a' := ?_) bb44_ rfl rfl (any_of HT_.out (by kernel_rfl)) (fun _ _ _ h => h) (Or.inr ⟨by rfl, rfl⟩) ?_ ?_
                        rotate_left; · simp only [Act.put, List.setIfInBounds_toArray, List.set_cons_zero, List.set_cons_succ, i64_w, i32_w]; rfl
                        refine pure_ (i := 12) (N := some 47) (v := undef) (a' := ?_) bb43_ rfl rfl (any_of HT_.out (by kernel_rfl)) (fun _ _ _ h => h) (Or.inr ⟨by rfl, rfl⟩) ?_ ?_
                        rotate_left; · simp only [Act.put, List.setIfInBounds_toArray, List.set_cons_zero, List.set_cons_succ, i64_w, i32_w]; rfl
                        refine pure_ (i := 13) (N := some 48) (v := undef) (a' := ?_) bb42_ rfl rfl (any_of HT_.out (by kernel_rfl)) (fun _ _ _ h => h) (Or.inr ⟨by rfl, rfl⟩) ?_ ?_
                        rotate_left; · simp only [Act.put, List.setIfInBounds_toArray, List.set_cons_zero, List.set_cons_succ, i64_w, i32_w]; rfl
                        refine pure_ (i := 14) (N := some 49) (v := undef) (a' := ?_) bb41_ rfl rfl (any_of HT_.out (by kernel_rfl)) (fun _ _ _ h => h) (Or.inr ⟨by rfl, rfl⟩) ?_ ?_
                        rotate_left; · simp only [Act.put, List.setIfInBounds_toArray, List.set_cons_zero, List.set_cons_succ, i64_w, i32_w]; rfl
                        refine pure_ (i := 15) (N := some 50) (v := undef) (a' := ?_) bb40_ rfl rfl (any_of HT_.out (by kernel_rfl)) (fun _ _ _ h => h) (Or.inr ⟨by rfl, rfl⟩) ?_ ?_
                        rotate_left; · simp only [Act.put, List.setIfInBounds_toArray, List.set_cons_zero, List.set_cons_succ, i64_w, i32_w]; rfl
                        refine pure_ (i := 16) (N := some 51) (v := undef) (a' := ?_) bb39_ rfl rfl (any_of HT_.out (by kernel_rfl)) (fun _ _ _ h => h) (Or.inr ⟨by rfl, rfl⟩) ?_ ?_
                        rotate_left; · simp only [Act.put, List.setIfInBounds_toArray, List.set_cons_zero, List.set_cons_succ, i64_w, i32_w]; rfl
                        refine pure_ (i := 17) (N := some 52) (v := ?_) (a' := ?_) bb38_ rfl rfl (any_of HT_.out (by kernel_rfl)) (fun _ _ _ h => h) (Or.inl ⟨by rfl, ?_⟩) ?_ ?_
                        rotate_left; · intro w'; go_simp; with_reducible rfl
                        rotate_left; · simp only [Act.put, List.setIfInBounds_toArray, List.set_cons_zero, List.set_cons_succ, i64_w, i32_w]; rfl
                        refine pure_ (i := 18) (N := some 53) (v := ?_) (a' := ?_) bb37_ rfl rfl (any_of HT_.out (by kernel_rfl)) (fun _ _ _ h => h) (Or.inl ⟨by rfl, ?_⟩) ?_ ?_
                        rotate_left; · intro w'; go_simp; with_reducible rfl
                        rotate_left; · simp only [Act.put, List.setIfInBounds_toArray, List.set_cons_zero, List.set_cons_succ, i64_w, i32_w]; rfl
                        refine pure_ (i := 19) (N := some 54) (v := undef) (a' := ?_) bb36_ rfl rfl (any_of HT_.out (by kernel_rfl)) (fun _ _ _ h => h) (Or.inr ⟨by rfl, rfl⟩) ?_ ?_
                        rotate_left; · simp only [Act.put, List.setIfInBounds_toArray, List.set_cons_zero, List.set_cons_succ, i64_w, i32_w]; rfl
                        refine pure_ (i := 20) (N := some 55) (v := undef) (a' := ?_) bb35_ rfl rfl (any_of HT_.out (by kernel_rfl)) (fun _ _ _ h => h) (Or.inr ⟨by rfl, rfl⟩) ?_ ?_
                        rotate_left; · simp only [Act.put, List.setIfInBounds_toArray, List.set_cons_zero, List.set_cons_succ, i64_w, i32_w]; rfl
                        refine pure_ (i := 21) (N := some 56) (v := undef) (a' := ?_) bb34_ rfl rfl (any_of HT_.out (by kernel_rfl)) (fun _ _ _ h => h) (Or.inr ⟨by rfl, rfl⟩) ?_ ?_
                        rotate_left; · simp only [Act.put, List.setIfInBounds_toArray, List.set_cons_zero, List.set_cons_succ, i64_w, i32_w]; rfl
                        refine pure_ (i := 22) (N := some 57) (v := undef) (a' := ?_) bb33_ rfl rfl (any_of HT_.out (by kernel_rfl)) (fun _ _ _ h => h) (Or.inr ⟨by rfl, rfl⟩) ?_ ?_
                        rotate_left; · simp only [Act.put, List.setIfInBounds_toArray, List.set_cons_zero, List.set_cons_succ, i64_w, i32_w]; rfl
                        refine pure_ (i := 23) (N := some 58) (v := undef) (a' := ?_) bb32_ rfl rfl (any_of HT_.out (by kernel_rfl)) (fun _ _ _ h => h) (Or.inr ⟨by rfl, rfl⟩) ?_ ?_
                        rotate_left; · simp only [Act.put, List.setIfInBounds_toArray, List.set_cons_zero, List.set_cons_succ, i64_w, i32_w]; rfl
                        refine pure_ (i := 24) (N := some 59) (v := undef) (a' := ?_) bb31_ rfl rfl (any_of HT_.out (by kernel_rfl)) (fun _ _ _ h => h) (Or.inr ⟨by rfl, rfl⟩) ?_ ?_
                        rotate_left; · simp only [Act.put, List.setIfInBounds_toArray, List.set_cons_zero, List.set_cons_succ, i64_w, i32_w]; rfl
                        refine pure_ (i := 25) (N := some 60) (v := ?_) (a' := ?_) bb30_ rfl rfl (any_of HT_.out (by kernel_rfl)) (fun _ _ _ h => h) (Or.inl ⟨by rfl, ?_⟩) ?_ ?_
                        rotate_left; · intro w'; go_simp; with_reducible rfl
                        rotate_left; · simp only [Act.put, List.setIfInBounds_toArray, List.set_cons_zero, List.set_cons_succ, i64_w, i32_w]; rfl
                        refine pure_ (i := 26) (N := some 61) (v := ?_) (a' := ?_) bb29_ rfl rfl (any_of HT_.out (by kernel_rfl)) (fun _ _ _ h => h) (Or.inl ⟨by rfl, ?_⟩) ?_ ?_
                        rotate_left; · intro w'; go_simp; with_reducible rfl
                        rotate_left; · simp only [Act.put, List.setIfInBounds_toArray, List.set_cons_zero, List.set_cons_succ, i64_w, i32_w]; rfl
                        refine pure_ (i := 27) (N := some 62) (v := undef) (a' := ?_) bb28_ rfl rfl (any_of HT_.out (by kernel_rfl)) (fun _ _ _ h => h) (Or.inr ⟨by rfl, rfl⟩) ?_ ?_
                        rotate_left; · simp only [Act.put, List.setIfInBounds_toArray, List.set_cons_zero, List.set_cons_succ, i64_w, i32_w]; rfl
                        refine pure_ (i := 28) (N := some 63) (v := undef) (a' := ?_) bb27_ rfl rfl (any_of HT_.out (by kernel_rfl)) (fun _ _ _ h => h) (Or.inr ⟨by rfl, rfl⟩) ?_ ?_
                        rotate_left; · simp only [Act.put, List.setIfInBounds_toArray, List.set_cons_zero, List.set_cons_succ, i64_w, i32_w]; rfl
                        refine pure_ (i := 29) (N := some 64) (v := undef) (a' := ?_) bb26_ rfl rfl (any_of HT_.out (by kernel_rfl)) (fun _ _ _ h => h) (Or.inr ⟨by rfl, rfl⟩) ?_ ?_
                        rotate_left; · simp only [Act.put, List.setIfInBounds_toArray, List.set_cons_zero, List.set_cons_succ, i64_w, i32_w]; rfl
                        refine pure_ (i := 30) (N := some 65) (v := undef) (a' := ?_) bb25_ rfl rfl (any_of HT_.out (by kernel_rfl)) (fun _ _ _ h => h) (Or.inr ⟨by rfl, rfl⟩) ?_ ?_
                        rotate_left; · simp only [Act.put, List.setIfInBounds_toArray, List.set_cons_zero, List.set_cons_succ, i64_w, i32_w]; rfl
                        refine pure_ (i := 31) (N := some 66) (v := undef) (a' := ?_) bb24_ rfl rfl (any_of HT_.out (by kernel_rfl)) (fun _ _ _ h => h) (Or.inr ⟨by rfl, rfl⟩) ?_ ?_
                        rotate_left; · simp only [Act.put, List.setIfInBounds_toArray, List.set_cons_zero, List.set_cons_succ, i64_w, i32_w]; rfl
                        refine pure_ (i := 32) (N := some 67) (v := undef) (a' := ?_) bb23_ rfl rfl (any_of HT_.out (by kernel_rfl)) (fun _ _ _ h => h) (Or.inr ⟨by rfl, rfl⟩) ?_ ?_
                        rotate_left; · simp only [Act.put, List.setIfInBounds_toArray, List.set_cons_zero, List.set_cons_succ, i64_w, i32_w]; rfl
                        refine pure_ (i := 33) (N := some 68) (v := ?_) (a' := ?_) bb22_ rfl rfl (any_of HT_.out (by kernel_rfl)) (fun _ _ _ h => h) (Or.inl ⟨by rfl, ?_⟩) ?_ ?_
                        rotate_left; · intro w'; go_simp; with_reducible rfl
                        rotate_left; · simp only [Act.put, List.setIfInBounds_toArray, List.set_cons_zero, List.set_cons_succ, i64_w, i32_w]; rfl
                        refine take_ (i := 38) (N := some 73) (v := ?_) (a' := ?_) bb21_ rfl rfl (take_ofW HT_.out HW_.out (by kernel_rfl)) (fun _ _ _ h => h) (Or.inl ⟨by rfl, ?_⟩) hHeld ?_ ?_
                        rotate_left; · rintro w' ⟨s0, s1, s2, s3, s4, s5, s6, s7, s8, s9, s10, s11, s12, s13, s14, s15, s16, s17, s18, s19, s20, s21, s22⟩; go_simp; with_reducible rfl
                        rotate_left; · simp only [Act.put, List.setIfInBounds_toArray, List.set_cons_zero, List.set_cons_succ, i64_w, i32_w]; rfl
                        refine take_ (i := 43) (N := some 78) (v := ?_) (a' := ?_) bb20_ rfl rfl (take_ofW HT_.out HW_.out (by kernel_rfl)) (fun _ _ _ h => h) (Or.inl ⟨by rfl, ?_⟩) hHeld ?_ ?_
                        rotate_left; · rintro w' ⟨s0, s1, s2, s3, s4, s5, s6, s7, s8, s9, s10, s11, s12, s13, s14, s15, s16, s17, s18, s19, s20, s21, s22⟩; go_simp; with_reducible rfl
                        rotate_left; · simp only [Act.put, List.setIfInBounds_toArray, List.set_cons_zero, List.set_cons_succ, i64_w, i32_w]; rfl
                        refine one_ (i := 44) (N := some 79) bb19_ rfl rfl (one_of HT_.out (by kernel_rfl)) (by decide) (fun K hK => ?_)
                        refine goes_ Try.func25 (by kernel_rfl) rfl #[.agg #[.int .i64 ((rd_T35 l0 x3_1).f1.f0), .slice A393_8 ((rd_T35 l0 x3_1).f1.f1).length c393_8, .slice A393_9 ((rd_T35 l0 x3_1).f1.f2).length c393_9, .string ((rd_T35 l0 x3_1).f1.f3), .int .i64 ((rd_T35 l0 x3_1).f1.f4), .int .i64 ((rd_T35 l0 x3_1).f1.f5)], .int .i64 ((rd_T35 l0 x3_1).f2)] (by rfl) rfl rfl (by (try simp only [List.map_toArray, List.map_cons, List.map_nil]); first | done | rfl | (simp only [List.length_drop, List.length_take]; rfl)) ?_
                        with_reducible refine (gangwayref20_Filestat.calls kj9 ((rd_T35 l0 x3_1).f1.f0) _ _ ((rd_T35 l0 x3_1).f1.f1) _ _ ((rd_T35 l0 x3_1).f1.f2) ((rd_T35 l0 x3_1).f1.f3) ((rd_T35 l0 x3_1).f1.f4) ((rd_T35 l0 x3_1).f1.f5) ((rd_T35 l0 x3_1).f2) t417 _ ?side1 ?side2 ?side3 ?side4 A40.out).mono ?_
                        (case side1 => repeat (first | exact (Kd.C_below HR415_8.out HB.out) | (with_reducible refine Kd.C_alloc ?_ _) | (with_reducible refine Kd.C_drewN ?_ _) | (with_reducible refine Kd.C_drew ?_)))
                        (case side2 => exact HC415_8.out)
                        (case side3 => repeat (first | exact (Kd.C_below HR415_9.out HB.out) | (with_reducible refine Kd.C_alloc ?_ _) | (with_reducible refine Kd.C_drewN ?_ _) | (with_reducible refine Kd.C_drew ?_)))
                        (case side4 => exact HC415_9.out)
                        rintro e w43 ⟨v418, rfl, ho0, hb⟩
                        refine ⟨_, rfl, ?_⟩
                        have n0_ := Aside0.mk (Kd.R_elder' (by (with_reducible repeat (first | apply Kd.R_alloc | apply Kd.R_drewN | apply Kd.R_drew)); exact HO391.out) (Kd.R_base ho0) hb)
                        have n1_ := Aside0.mk (Kd.R_lower (Kd.R_new' ho0 (Kd.R_lt (by (with_reducible repeat (first | apply Kd.R_alloc | apply Kd.R_drewN | apply Kd.R_drew)); exact HO391.out))) (below_size (by repeat (first | (with_reducible first | exact HB.out | apply below_alloc | apply pw_below_drewN | apply below_drew1) | exact HB.out))))
                        have n2_ := Aside0.mk (below_step (by repeat (first | (with_reducible first | exact HB.out | apply below_alloc | apply pw_below_drewN | apply below_drew1) | exact HB.out)) hb)
                        clear HO391
                        clear HB
                        have HO391 := n0_
                        have HO419 := n1_
                        have HB := n2_
                        clear n0_ n1_ n2_
                        (try clear hb)
                        (try clear hb2)
                        (try clear hk)
                        (try clear hi)
                        (try clear ho0)
                        obtain ⟨Ao44, co44, eo44⟩ := Kd.R_slice HO391.out
                        (first | subst eo44 | (injection eo44 with f1_ f2_ f3_; have f4_ := f1_.symm; have f5_ := f3_.symm; clear f1_ f2_ f3_; subst f4_; subst f5_))
                        obtain ⟨Ao45, co45, eo45⟩ := Kd.R_slice HO419.out
                        (first | subst eo45 | (injection eo45 with f1_ f2_ f3_; have f4_ := f1_.symm; have f5_ := f3_.symm; clear f1_ f2_ f3_; subst f4_; subst f5_))
                        refine hK.out _ _ ⟨(up HB hw393_0 :), (up HB hw393_1 :), (up HB hw393_2 :), (up HB hw393_3 :), (up HB hw393_4 :), (up HB hw393_5 :), (up HB hw393_6 :), (up HB hw393_7 :), (up HB hw393_8 :), (up HB hw393_9 :), (up HB hw393_10 :), (up HB hw393_11 :), (up HB hw393_12 :), (up HB hw393_13 :), (up HB hw393_14 :), (up HB hw393_15 :), (up HB hw393_16 :), (up HB hw393_17 :), (up HB hw393_18 :), (up HB hw393_19 :), (up HB hw393_20 :), (up HB hw393_21 :), (up HB hw393_22 :)⟩ (fun hHeld => ?_)
                        clear hK K
                        refine norm_ (a' := ?_) ?_ ?_
                        rotate_left
                        ·show Act.put _ (some 79) _ = _
                         simp only [Act.put, List.setIfInBounds_toArray, List.set_cons_zero, List.set_cons_succ, i64_w, i32_w]
                         rfl
                        refine one_ (i := 45) (N := some 80) bb18_ rfl rfl (one_of HT_.out (by kernel_rfl)) (by decide) (fun K hK => ?_)
                        refine goes_ Try.func11 (by kernel_rfl) rfl #[.slice Ao44 t389.length co44, .int .i64 t392, .bool false, .slice Ao45 t417.length co45] (by rfl) rfl rfl (by (try simp only [List.map_toArray, List.map_cons, List.map_nil]); first | done | rfl | (simp only [List.length_drop, List.length_take]; rfl)) ?_
                        with_reducible refine (gangwaylaw20_is.calls kj9 _ _ t389 t392 false _ _ t417 t420 _ ?side1 ?side2 ?side3 ?side4 A41.out).mono ?_
                        (case side1 => repeat (first | exact (Kd.R_reads' HO391.out).2.2 | (with_reducible refine Kd.C_alloc ?_ _) | (with_reducible refine Kd.C_drewN ?_ _) | (with_reducible refine Kd.C_drew ?_)))
                        (case side2 => exact (Kd.R_reads' HO391.out).2.1)
                        (case side3 => repeat (first | exact (Kd.R_reads' HO419.out).2.2 | (with_reducible refine Kd.C_alloc ?_ _) | (with_reducible refine Kd.C_drewN ?_ _) | (with_reducible refine Kd.C_drew ?_)))
                        (case side4 => exact (Kd.R_reads' HO419.out).2.1)
                        rintro e w' ⟨rfl, ⟨nd, rfl⟩⟩
                        refine ⟨_, rfl, ?_⟩
                        refine hK.out _ _ ⟨(up HB hw393_0 :), (up HB hw393_1 :), (up HB hw393_2 :), (up HB hw393_3 :), (up HB hw393_4 :), (up HB hw393_5 :), (up HB hw393_6 :), (up HB hw393_7 :), (up HB hw393_8 :), (up HB hw393_9 :), (up HB hw393_10 :), (up HB hw393_11 :), (up HB hw393_12 :), (up HB hw393_13 :), (up HB hw393_14 :), (up HB hw393_15 :), (up HB hw393_16 :), (up HB hw393_17 :), (up HB hw393_18 :), (up HB hw393_19 :), (up HB hw393_20 :), (up HB hw393_21 :), (up HB hw393_22 :)⟩ (fun hHeld => ?_)
                        clear hK K
                        refine norm_ (a' := ?_) ?_ ?_
                        rotate_left
                        ·show Act.put _ (some 80) _ = _
                         simp only [Act.put, List.setIfInBounds_toArray, List.set_cons_zero, List.set_cons_succ, i64_w, i32_w]
                         rfl
                        refine pure_ (i := 46) (N := some 81) (v := ?_) (a' := ?_) bb17_ rfl rfl (any_of HT_.out (by kernel_rfl)) (fun _ _ _ h => h) (Or.inl ⟨by rfl, ?_⟩) ?_ ?_
                        rotate_left; · intro w'; go_simp; with_reducible rfl
                        rotate_left; · simp only [Act.put, List.setIfInBounds_toArray, List.set_cons_zero, List.set_cons_succ, i64_w, i32_w]; rfl
                        refine done_ (done_of HT_.out (by kernel_rfl)) ?_
                        try go_wp2
                        go_meet
                        case rel => exact ⟨_, (!t420), (by first | rfl | (simp; done) | (simp [*]; done)), H', ⟨by have := HK1.out; have := HJ2.out; have := HJ4.out; have := HJ9.out; first | omega | exact Nat.le_refl _⟩, ⟨by repeat (first | (with_reducible first | exact HB.out | apply below_alloc | apply pw_below_drewN | apply below_drew1) | exact HB.out)⟩⟩
                     case rest =>
                      as_aux_lemma =>
                       clear HC16
                       try clear c1
                       try clear c2
                       try clear p2
                       try clear c3
                       try clear p3
                       try clear q3
                       try clear hx3
                       try clear c4
                       try clear p4
                       try clear q4
                       try clear hx4
                       try clear c11
                       try clear c19
                       try clear c19b0
                       try clear c25
                       try clear c39
                       try clear p39
                       try clear q39
                       try clear hx39
                       try clear c41
                       try clear p41
                       try clear q41
                       try clear hx41
                       try clear hx393_0
                       try clear hx393_1
                       try clear hx393_10
                       try clear hx393_11
                       try clear hx393_12
                       try clear hx393_13
                       try clear hx393_14
                       try clear hx393_15
                       try clear hx393_16
                       try clear hx393_17
                       try clear hx393_18
                       try clear hx393_19
                       try clear hx393_2
                       try clear hx393_20
                       try clear hx393_21
                       try clear hx393_22
                       try clear hx393_3
                       try clear hx393_4
                       try clear hx393_5
                       try clear hx393_6
                       try clear hx393_7
                       try clear hx393_8
                       try clear hx393_9
                       try clear hx415_22
                       try clear hx415_8
                       try clear hx415_9
                       try clear hx416_22
                       try clear hx416_8
                       try clear hx416_9
                       try clear p393
                       try clear p415
                       try clear p416
                       try clear q393
                       try clear q415
                       try clear q416
                       obtain ⟨kq, x81_15, rfl, HA, HJ15, HB⟩ := hcut
                       cases kq with
                       | zero => exact absurd HA.out (by simp [gangwaylaw20_StatNodes.j4])
                       | succ kj15 =>
                        have H := HA.out
                        clear HA
                        simp only [gangwaylaw20_StatNodes.j4] at H
                        by_cases c46 : x81_15 = true
                        ·subst c46
                         have H1 : (some false) = some r := by rw [if_pos rfl] at H; exact H
                         clear H
                         have H := H1
                         clear H1
                         obtain rfl := Option.some.inj H
                         go_wp2
                         go_ret
                         exact ⟨by first | rfl | (simp [errW_none, errW_some] <;> rfl) | (simp [*, errW_none, errW_some] <;> rfl), by repeat (first | (with_reducible first | exact HB.out | apply below_alloc | apply pw_below_drewN | apply below_drew1) | exact HB.out)⟩
                        ·replace c46 := Bool.eq_false_iff.mpr c46
                         subst c46
                         have H1 : (gangwaylaw20_StatNodes.l0 kj15 l0 (wrap64 (x3_1 + 1))) = some r := by rw [if_neg (show ¬ (false = true) by decide)] at H; exact H
                         clear H
                         have H := H1
                         clear H1
                         have H' := Aside0.mk H
                         clear H
                         go_wp2
                         go_roundg kj15
                         case measure => have := HK1.out; have := HJ2.out; have := HJ4.out; have := HJ9.out; have := HJ15.out; omega
                         case rel => exact ⟨(wrap64 (x3_1 + 1)), (by first | rfl | (simp; done) | (simp [*]; done)), H', ⟨by have := HK1.out; have := HJ2.out; have := HJ4.out; have := HJ9.out; have := HJ15.out; omega⟩, ⟨by repeat (first | (with_reducible first | exact HB.out | apply below_alloc | apply pw_below_drewN | apply below_drew1) | exact HB.out)⟩⟩
                   ·rw [if_neg c14] at H
                    exact absurd H (by simp)
                 ·rw [if_neg c13] at H
                  exact absurd H (by simp)
            ·rw [if_neg c8] at H
             exact absurd H (by simp)
          ·rw [if_neg c7] at H
           exact absurd H (by simp)
 case rest =>
  as_aux_lemma =>
   clear HC2
   try clear c1
   try clear c2
   try clear p2
   try clear c3
   try clear p3
   try clear q3
   try clear hx3
   try clear c4
   try clear p4
   try clear q4
   try clear hx4
   try clear p6
   try clear c7
   try clear c8
   try clear c11
   try clear c13
   try clear c14
   try clear c19
   try clear c19b0
   try clear c25
   try clear c39
   try clear p39
   try clear q39
   try clear hx39
   try clear c41
   try clear p41
   try clear q41
   try clear hx41
   try clear c46
   try clear hx393_0
   try clear hx393_1
   try clear hx393_10
   try clear hx393_11
   try clear hx393_12
   try clear hx393_13
   try clear hx393_14
   try clear hx393_15
   try clear hx393_16
   try clear hx393_17
   try clear hx393_18
   try clear hx393_19
   try clear hx393_2
   try clear hx393_20
   try clear hx393_21
   try clear hx393_22
   try clear hx393_3
   try clear hx393_4
   try clear hx393_5
   try clear hx393_6
   try clear hx393_7
   try clear hx393_8
   try clear hx393_9
   try clear hx415_22
   try clear hx415_8
   try clear hx415_9
   try clear hx416_22
   try clear hx416_8
   try clear hx416_9
   try clear p2
   try clear p3
   try clear p39
   try clear p393
   try clear p4
   try clear p41
   try clear p415
   try clear p416
   try clear q3
   try clear q39
   try clear q393
   try clear q4
   try clear q41
   try clear q415
   try clear q416
   obtain ⟨kq, HA, HJ1, HB⟩ := hcut
   cases kq with
   | zero => exact absurd HA.out (by simp [gangwaylaw20_StatNodes.j5])
   | succ kj1 =>
    have H := HA.out
    clear HA
    simp only [gangwaylaw20_StatNodes.j5] at H
    replace H := Option.bind_eq_some_iff.mp H
    obtain ⟨t421, A470, H⟩ := H
    replace H : (some t421) = some r := H
    have A47 := Aside0.mk A470
    clear A470
    obtain rfl := Option.some.inj H
    go_wp2_with (first | ((with_reducible refine gate_callee (f := 14) rfl ?_); refine goesL_ (some 82) rfl rfl Try.func14 (by kernel_rfl) rfl #[] rfl (by (try simp only [List.map_toArray, List.map_cons, List.map_nil]); first | done | rfl | (simp only [List.length_drop, List.length_take]; rfl)) ?_; (with_reducible refine (gangwaylaw20_wakes.calls kj1  t421 _ A47.out).mono ?_); rintro e w48 ⟨rfl, hb⟩; refine ⟨_, rfl, ?_⟩; have n0_ := Aside0.mk (below_step (by repeat (first | (with_reducible first | exact HB.out | apply below_alloc | apply pw_below_drewN | apply below_drew1) | exact HB.out)) hb); clear HB; have HB := n0_; clear n0_; (try clear hb); (try clear hb2); (try clear hk); (try clear hi)))
    go_ret
    exact ⟨by first | rfl | (simp [errW_none, errW_some] <;> rfl) | (simp [*, errW_none, errW_some] <;> rfl), by repeat (first | (with_reducible first | exact HB.out | apply below_alloc | apply pw_below_drewN | apply below_drew1) | exact HB.out)⟩

/-- THE ONE PURE STATEMENT of gangwaylaw20_StatNodes: yours. -/
def gangwaylaw20_StatNodes.Pure : Prop := ∀ (x0 : List (S35)), (x0.length * 256 ≤ 140737488351232 ∧ ∀ y422 ∈ x0, okT35 y422) → ∃ k, gangwaylaw20_StatNodes.f k x0 = some true
theorem gangwaylaw20_StatNodes.walk (P : gangwaylaw20_StatNodes.Pure) (w : World) (x0 : List (S35)) (A0 : Option Addr) (c0 : Nat) (hr0 : Kd.C k35 w A0 x0.length x0) (hc0 : x0.length ≤ c0) (hok0 : (x0.length * 256 ≤ 140737488351232 ∧ ∀ y423 ∈ x0, okT35 y423)) :
  Calls Try.prog 7 #[.slice A0 x0.length c0] w fun e w' => e = .returned (.bool true) ∧ Below w.heap.size w w' := by
 obtain ⟨k, h⟩ := P x0 hok0
 refine (gangwaylaw20_StatNodes.calls k _ _ x0 true w hr0 hc0 h).mono ?_
 rintro e w' ⟨rfl, hd⟩
 exact ⟨rfl, hd⟩

end Go.Proofs.Ythhmnecnoojcpaa.PAll
