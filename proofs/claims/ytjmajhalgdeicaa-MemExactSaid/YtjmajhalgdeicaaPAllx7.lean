/- Printed by a copy of the printer that was turned for this claim: functions as plain Lean functions, with proofs that their calls come to these; or words that such proofs use. -/
import Derived.Test.YtjmajhalgdeicaaPAllx0
import Derived.Test.YtjmajhalgdeicaaPAllx1
import Derived.Test.YtjmajhalgdeicaaPAllx2
import Derived.Test.YtjmajhalgdeicaaPAllx4
import Derived.Test.YtjmajhalgdeicaaPAllx5
import Derived.Test.YtjmajhalgdeicaaPAllx6
namespace Go.Proofs.Ytjmajhalgdeicaa.PAll
open Go.RowKit Go.Proofs.YtjmajhalgdeicaaW.PrintWords Go.Proofs.YtjmajhalgdeicaaW.PrintLast Go.Proofs.YtjmajhalgdeicaaW.PrintMore
attribute [local go_sem] max2_int min2_int max_two min_two max_three min_three max_four min_four   -- for this text's walks alone
set_option linter.unusedVariables false
set_option linter.unusedSimpArgs false

/-! ### gangwaylaw9_MemExact: function 5 -/
abbrev gangwaylaw9_MemExact.t : Bool := true
abbrev gangwaylaw9_MemExact.f_ : Bool := false
def gangwaylaw9_MemExact.bb0_ : Array Bool := #[t, t, t, t, t, t, t, t, t]
def gangwaylaw9_MemExact.bb1_ : Array Bool := #[t, t, t, t, t, t, t, t, f_]
def gangwaylaw9_MemExact.bb2_ : Array Bool := #[t, t, t, t, t, t, t, f_, f_]
def gangwaylaw9_MemExact.bb3_ : Array Bool := #[t, t, t, f_, t, t, t, f_, f_]
def gangwaylaw9_MemExact.bb4_ : Array Bool := #[t, t, t, f_, t, t, f_, f_, f_]
def gangwaylaw9_MemExact.bb5_ : Array Bool := #[t, t, f_, f_, t, t, f_, f_, f_]
def gangwaylaw9_MemExact.bb6_ : Array Bool := #[t, t, f_, f_, t, f_, f_, f_, f_]
def gangwaylaw9_MemExact.bb7_ : Array Bool := #[t, t, f_, f_, f_, f_, f_, f_, f_]
def gangwaylaw9_MemExact.bb8_ : Array Bool := #[t, f_, f_, f_, f_, f_, f_, f_, f_]
def gangwaylaw9_MemExact.bb9_ : Array Bool := #[f_, f_, f_, f_, f_, f_, f_, f_, f_]
def gangwaylaw9_MemExact.bb10_ : Array Bool := #[t, t, t, t, t, t, t, t, t, t, t, t, t]
def gangwaylaw9_MemExact.bb11_ : Array Bool := #[t, t, t, t, t, t, t, t, t, t, t, t, f_]
def gangwaylaw9_MemExact.bb12_ : Array Bool := #[t, t, t, t, t, t, t, t, t, t, t, f_, f_]
def gangwaylaw9_MemExact.bb13_ : Array Bool := #[t, t, t, t, t, t, t, t, t, t, f_, f_, f_]
def gangwaylaw9_MemExact.bb14_ : Array Bool := #[t, t, t, t, t, t, t, t, t, f_, f_, f_, f_]
def gangwaylaw9_MemExact.bb15_ : Array Bool := #[t, t, t, t, t, t, t, f_, t, f_, f_, f_, f_]
def gangwaylaw9_MemExact.bb16_ : Array Bool := #[t, t, t, t, t, f_, t, f_, t, f_, f_, f_, f_]
def gangwaylaw9_MemExact.bb17_ : Array Bool := #[t, t, t, f_, t, f_, t, f_, t, f_, f_, f_, f_]
def gangwaylaw9_MemExact.bb18_ : Array Bool := #[t, t, t, f_, t, f_, t, f_, f_, f_, f_, f_, f_]
def gangwaylaw9_MemExact.bb19_ : Array Bool := #[t, t, t, f_, t, f_, f_, f_, f_, f_, f_, f_, f_]
def gangwaylaw9_MemExact.bb20_ : Array Bool := #[t, t, t, f_, f_, f_, f_, f_, f_, f_, f_, f_, f_]
def gangwaylaw9_MemExact.bb21_ : Array Bool := #[t, t, f_, f_, f_, f_, f_, f_, f_, f_, f_, f_, f_]
def gangwaylaw9_MemExact.bb22_ : Array Bool := #[t, f_, f_, f_, f_, f_, f_, f_, f_, f_, f_, f_, f_]
def gangwaylaw9_MemExact.bb23_ : Array Bool := #[t, t, t, t, t, t, t, t, t, t, t, t, t, t, t]
def gangwaylaw9_MemExact.bb24_ : Array Bool := #[f_, f_, f_, f_, f_, f_, f_, f_, f_, f_, f_, f_, f_]
def gangwaylaw9_MemExact.bb25_ : Array Bool := #[t, t, t, t, t, t, t, t, t, t, t, t, t, t, f_]
def gangwaylaw9_MemExact.bb26_ : Array Bool := #[t, t, t, t, t, t, t, t, t, t, t, t, t, f_, f_]
def gangwaylaw9_MemExact.bb27_ : Array Bool := #[t, t, t, t, t, t, t, t, t, t, t, t, f_, f_, f_]
def gangwaylaw9_MemExact.bb28_ : Array Bool := #[t, t, t, t, t, t, t, t, t, t, t, f_, f_, f_, f_]
def gangwaylaw9_MemExact.bb29_ : Array Bool := #[t, t, t, t, t, t, t, t, t, f_, t, f_, f_, f_, f_]
def gangwaylaw9_MemExact.bb30_ : Array Bool := #[t, t, t, t, t, t, t, f_, t, f_, t, f_, f_, f_, f_]
def gangwaylaw9_MemExact.bb31_ : Array Bool := #[t, t, t, t, t, f_, t, f_, t, f_, t, f_, f_, f_, f_]
def gangwaylaw9_MemExact.bb32_ : Array Bool := #[t, t, t, f_, t, f_, t, f_, t, f_, t, f_, f_, f_, f_]
def gangwaylaw9_MemExact.bb33_ : Array Bool := #[t, t, t, f_, t, f_, t, f_, t, f_, f_, f_, f_, f_, f_]
def gangwaylaw9_MemExact.bb34_ : Array Bool := #[t, t, t, f_, t, f_, t, f_, f_, f_, f_, f_, f_, f_, f_]
def gangwaylaw9_MemExact.bb35_ : Array Bool := #[t, t, t, f_, t, f_, f_, f_, f_, f_, f_, f_, f_, f_, f_]
def gangwaylaw9_MemExact.bb36_ : Array Bool := #[t, t, t, f_, f_, f_, f_, f_, f_, f_, f_, f_, f_, f_, f_]
def gangwaylaw9_MemExact.bb37_ : Array Bool := #[t, t, f_, f_, f_, f_, f_, f_, f_, f_, f_, f_, f_, f_, f_]
def gangwaylaw9_MemExact.bb38_ : Array Bool := #[t, f_, f_, f_, f_, f_, f_, f_, f_, f_, f_, f_, f_, f_, f_]
def gangwaylaw9_MemExact.bb39_ : Array Bool := #[f_, f_, f_, f_, f_, f_, f_, f_, f_, f_, f_, f_, f_, f_, f_]
theorem gangwaylaw9_MemExact.bc {w : World} {g : Nat} {cs : Array Value} {t : TypeId} (h : Aside0 (w.heap[g]? = some (.cells cs t (0, 0)))) (i : Nat) {v : Value} (e : cs[i]? = some v := by rfl) : w.cell? ⟨g, i, none⟩ = some v := (blk_cell h.out i).trans e
theorem gangwaylaw9_MemExact.bkept {W0 W W2 : World} {g : Nat} {o : Obj} {S : Nat → Prop} (_b : Aside0 (W0.heap[g]? = some o)) (h : W.heap[g]? = some o) (hk : Kept W W2 S) (hn : ¬ S g) : W2.heap[g]? = some o := blk_kept h hk hn
theorem gangwaylaw9_MemExact.bbelow {W0 w w1 : World} {g : Nat} {o : Obj} (_b : Aside0 (W0.heap[g]? = some o)) (h : w.heap[g]? = some o) (hb : Below w.heap.size w w1) : w1.heap[g]? = some o := blk_below h hb
theorem gangwaylaw9_MemExact.e1 {α : Type _} (xs : List α) (i : Nat) (a : α) : xs.toArray.setIfInBounds i a = (xs.set i a).toArray := by simp
theorem gangwaylaw9_MemExact.e2 {α : Type _} (x a : α) (xs : List α) : (x :: xs).set 0 a = a :: xs := rfl
theorem gangwaylaw9_MemExact.e3 {α : Type _} (x a : α) (xs : List α) (n : Nat) : (x :: xs).set (n + 1) a = x :: xs.set n a := rfl
theorem gangwaylaw9_MemExact.up {w w' : World} {a : Addr} {v : Value} (hb : Aside0 (Below w.heap.size w w')) (h : w.cell? a = some v) : w'.cell? a = some v := (hb.out.cell (World.block_lt_of_cell? w _ h)).trans h
mutual
def gangwaylaw9_MemExact.l0 : Nat → Int → Int → Int → Int → List (S48) → List Int → Int → List Int → Int → Option (Bool)
 | 0, _, _, _, _, _, _, _, _, _ => none
 | k + 1, x6, x0z, x1z, x2z, x3z, x4z, x5z, x6z, x7z => if x6 < (x3z.length : Int) then (gangwaylaw9_MemExact.j1 k x6 (decide (x6 < 30)) x0z x1z x2z x3z x4z x5z x6z x7z) else (gangwaylaw9_MemExact.j1 k x6 false x0z x1z x2z x3z x4z x5z x6z x7z)
def gangwaylaw9_MemExact.j1 : Nat → Int → Bool → Int → Int → Int → List (S48) → List Int → Int → List Int → Int → Option (Bool)
 | 0, _, _, _, _, _, _, _, _, _, _ => none
 | k + 1, x6, x84, x0z, x1z, x2z, x3z, x4z, x5z, x6z, x7z => if x84 = true then (if 0 ≤ x6 then (if x6 < (x3z.length : Int) then (if ((rd_T48 x3z x6).f3) = 1 then (if ((rd_T48 x3z x6).f1) ≥ 0 then (if ((rd_T48 x3z x6).f1) < 4294967296 then (if ((rd_T48 x3z x6).f2) ≥ 0 then (gangwaylaw9_MemExact.j2 k x6 (decide (((rd_T48 x3z x6).f2) < 4294967296)) x0z x1z x2z x3z x4z x5z x6z x7z ((rd_T48 x3z x6).f0) ((rd_T48 x3z x6).f1) ((rd_T48 x3z x6).f2) ((rd_T48 x3z x6).f3) ((rd_T48 x3z x6).f4) ((rd_T48 x3z x6).f5)) else (gangwaylaw9_MemExact.j2 k x6 false x0z x1z x2z x3z x4z x5z x6z x7z ((rd_T48 x3z x6).f0) ((rd_T48 x3z x6).f1) ((rd_T48 x3z x6).f2) ((rd_T48 x3z x6).f3) ((rd_T48 x3z x6).f4) ((rd_T48 x3z x6).f5))) else (gangwaylaw9_MemExact.j2 k x6 false x0z x1z x2z x3z x4z x5z x6z x7z ((rd_T48 x3z x6).f0) ((rd_T48 x3z x6).f1) ((rd_T48 x3z x6).f2) ((rd_T48 x3z x6).f3) ((rd_T48 x3z x6).f4) ((rd_T48 x3z x6).f5))) else (gangwaylaw9_MemExact.j2 k x6 false x0z x1z x2z x3z x4z x5z x6z x7z ((rd_T48 x3z x6).f0) ((rd_T48 x3z x6).f1) ((rd_T48 x3z x6).f2) ((rd_T48 x3z x6).f3) ((rd_T48 x3z x6).f4) ((rd_T48 x3z x6).f5))) else (if ((rd_T48 x3z x6).f3) = 2 then (if ((rd_T48 x3z x6).f1) ≥ 0 then (if ((rd_T48 x3z x6).f1) < 4294967296 then (if ((rd_T48 x3z x6).f2) ≥ 0 then (gangwaylaw9_MemExact.j2 k x6 (decide (((rd_T48 x3z x6).f2) < 4294967296)) x0z x1z x2z x3z x4z x5z x6z x7z ((rd_T48 x3z x6).f0) ((rd_T48 x3z x6).f1) ((rd_T48 x3z x6).f2) ((rd_T48 x3z x6).f3) ((rd_T48 x3z x6).f4) ((rd_T48 x3z x6).f5)) else (gangwaylaw9_MemExact.j2 k x6 false x0z x1z x2z x3z x4z x5z x6z x7z ((rd_T48 x3z x6).f0) ((rd_T48 x3z x6).f1) ((rd_T48 x3z x6).f2) ((rd_T48 x3z x6).f3) ((rd_T48 x3z x6).f4) ((rd_T48 x3z x6).f5))) else (gangwaylaw9_MemExact.j2 k x6 false x0z x1z x2z x3z x4z x5z x6z x7z ((rd_T48 x3z x6).f0) ((rd_T48 x3z x6).f1) ((rd_T48 x3z x6).f2) ((rd_T48 x3z x6).f3) ((rd_T48 x3z x6).f4) ((rd_T48 x3z x6).f5))) else (gangwaylaw9_MemExact.j2 k x6 false x0z x1z x2z x3z x4z x5z x6z x7z ((rd_T48 x3z x6).f0) ((rd_T48 x3z x6).f1) ((rd_T48 x3z x6).f2) ((rd_T48 x3z x6).f3) ((rd_T48 x3z x6).f4) ((rd_T48 x3z x6).f5))) else (if ((rd_T48 x3z x6).f3) = 4 then (if ((rd_T48 x3z x6).f1) ≥ 0 then (if ((rd_T48 x3z x6).f1) < 4294967296 then (if ((rd_T48 x3z x6).f2) ≥ 0 then (gangwaylaw9_MemExact.j2 k x6 (decide (((rd_T48 x3z x6).f2) < 4294967296)) x0z x1z x2z x3z x4z x5z x6z x7z ((rd_T48 x3z x6).f0) ((rd_T48 x3z x6).f1) ((rd_T48 x3z x6).f2) ((rd_T48 x3z x6).f3) ((rd_T48 x3z x6).f4) ((rd_T48 x3z x6).f5)) else (gangwaylaw9_MemExact.j2 k x6 false x0z x1z x2z x3z x4z x5z x6z x7z ((rd_T48 x3z x6).f0) ((rd_T48 x3z x6).f1) ((rd_T48 x3z x6).f2) ((rd_T48 x3z x6).f3) ((rd_T48 x3z x6).f4) ((rd_T48 x3z x6).f5))) else (gangwaylaw9_MemExact.j2 k x6 false x0z x1z x2z x3z x4z x5z x6z x7z ((rd_T48 x3z x6).f0) ((rd_T48 x3z x6).f1) ((rd_T48 x3z x6).f2) ((rd_T48 x3z x6).f3) ((rd_T48 x3z x6).f4) ((rd_T48 x3z x6).f5))) else (gangwaylaw9_MemExact.j2 k x6 false x0z x1z x2z x3z x4z x5z x6z x7z ((rd_T48 x3z x6).f0) ((rd_T48 x3z x6).f1) ((rd_T48 x3z x6).f2) ((rd_T48 x3z x6).f3) ((rd_T48 x3z x6).f4) ((rd_T48 x3z x6).f5))) else (if ((rd_T48 x3z x6).f3) = 8 then (if ((rd_T48 x3z x6).f1) ≥ 0 then (if ((rd_T48 x3z x6).f1) < 4294967296 then (if ((rd_T48 x3z x6).f2) ≥ 0 then (gangwaylaw9_MemExact.j2 k x6 (decide (((rd_T48 x3z x6).f2) < 4294967296)) x0z x1z x2z x3z x4z x5z x6z x7z ((rd_T48 x3z x6).f0) ((rd_T48 x3z x6).f1) ((rd_T48 x3z x6).f2) ((rd_T48 x3z x6).f3) ((rd_T48 x3z x6).f4) ((rd_T48 x3z x6).f5)) else (gangwaylaw9_MemExact.j2 k x6 false x0z x1z x2z x3z x4z x5z x6z x7z ((rd_T48 x3z x6).f0) ((rd_T48 x3z x6).f1) ((rd_T48 x3z x6).f2) ((rd_T48 x3z x6).f3) ((rd_T48 x3z x6).f4) ((rd_T48 x3z x6).f5))) else (gangwaylaw9_MemExact.j2 k x6 false x0z x1z x2z x3z x4z x5z x6z x7z ((rd_T48 x3z x6).f0) ((rd_T48 x3z x6).f1) ((rd_T48 x3z x6).f2) ((rd_T48 x3z x6).f3) ((rd_T48 x3z x6).f4) ((rd_T48 x3z x6).f5))) else (gangwaylaw9_MemExact.j2 k x6 false x0z x1z x2z x3z x4z x5z x6z x7z ((rd_T48 x3z x6).f0) ((rd_T48 x3z x6).f1) ((rd_T48 x3z x6).f2) ((rd_T48 x3z x6).f3) ((rd_T48 x3z x6).f4) ((rd_T48 x3z x6).f5))) else (gangwaylaw9_MemExact.j2 k x6 false x0z x1z x2z x3z x4z x5z x6z x7z ((rd_T48 x3z x6).f0) ((rd_T48 x3z x6).f1) ((rd_T48 x3z x6).f2) ((rd_T48 x3z x6).f3) ((rd_T48 x3z x6).f4) ((rd_T48 x3z x6).f5)))))) else (none)) else (none)) else ((mem_Memory_Read.f x4z x5z 0 (x6z.length : Int)).bind fun bt712 => ((gangwaylaw9_num.f bt712.2.1).bind fun t720 => (if t720 = 0 then ((gangwayref0_EqBytes.f k bt712.1 x6z).bind fun t721 => (if t721 = true then ((gangwaylaw9_wakes.f k).bind fun t722 => (some t722)) else (none))) else (none))))
def gangwaylaw9_MemExact.j2 : Nat → Int → Bool → Int → Int → Int → List (S48) → List Int → Int → List Int → Int → Int → Int → Int → Int → Int → List Int → Option (Bool)
 | 0, _, _, _, _, _, _, _, _, _, _, _, _, _, _, _, _ => none
 | k + 1, x6, x8, x0z, x1z, x2z, x3z, x4z, x5z, x6z, x7z, x8z, x9z, x10z, x11z, x12z, x13z => (gangwaylaw0_Within.f x8z 8).bind fun t607 => (if t607 = 3 then (gangwaylaw9_MemExact.j3 k x6 x8 t607 (t607 == 3) x0z x1z x2z x3z x4z x5z x6z x7z x8z x9z x10z x11z x12z x13z) else (gangwaylaw9_MemExact.j3 k x6 x8 t607 (t607 == 4) x0z x1z x2z x3z x4z x5z x6z x7z x8z x9z x10z x11z x12z x13z))
def gangwaylaw9_MemExact.j9 : Nat → Int → Int → Int → Int → List (S48) → List Int → Int → List Int → Int → Option (Bool)
 | 0, _, _, _, _, _, _, _, _, _ => none
 | k + 1, x6, x0z, x1z, x2z, x3z, x4z, x5z, x6z, x7z => (mem_Memory_Size.f x4z x5z).bind fun bt702 => ((gangwayref9_Mem_Size.f x6z x7z).bind fun bt707 => (if bt702.1 = bt707.1 then (gangwaylaw9_MemExact.l0 k (wrap64 (x6 + 1)) x0z x1z x2z x3z bt702.2.1 bt702.2.2 bt707.2.1 bt707.2.2) else (none)))
def gangwaylaw9_MemExact.j3 : Nat → Int → Bool → Int → Bool → Int → Int → Int → List (S48) → List Int → Int → List Int → Int → Int → Int → Int → Int → Int → List Int → Option (Bool)
 | 0, _, _, _, _, _, _, _, _, _, _, _, _, _, _, _, _, _, _ => none
 | k + 1, x6, x8, x132, x158, x0z, x1z, x2z, x3z, x4z, x5z, x6z, x7z, x8z, x9z, x10z, x11z, x12z, x13z => if x158 = true then (if x8 = true then ((gangwayref9_Mem_Load.f k x6z x7z (wrap64 (x9z + x10z)) x11z).bind fun bt608 => (if bt608.2.1 = true then (gangwaylaw9_MemExact.j4 k x6 0 bt608.1 x0z x1z x2z x3z x4z x5z bt608.2.2.1 bt608.2.2.2 x8z x9z x10z x11z x12z x13z) else (gangwaylaw9_MemExact.j4 k x6 21 0 x0z x1z x2z x3z x4z x5z bt608.2.2.1 bt608.2.2.2 x8z x9z x10z x11z x12z x13z))) else (gangwaylaw9_MemExact.j4 k x6 100 0 x0z x1z x2z x3z x4z x5z x6z x7z x8z x9z x10z x11z x12z x13z)) else (if x132 = 5 then ((gangwayref9_Mem_Has.f x6z x7z x9z x11z).bind fun bt621 => (if bt621.1 = true then (gangwaylaw9_MemExact.j5 k x6 21 ([] : List Int) (decide (x11z ≤ 5000)) x0z x1z x2z x3z x4z x5z bt621.2.1 bt621.2.2 x8z x9z x10z x11z x12z x13z) else (gangwaylaw9_MemExact.j5 k x6 21 ([] : List Int) false x0z x1z x2z x3z x4z x5z bt621.2.1 bt621.2.2 x8z x9z x10z x11z x12z x13z))) else (if x132 = 6 then ((gangwayref9_Mem_Has.f x6z x7z x9z (x13z.length : Int)).bind fun bt665 => (if bt665.1 = true then (gangwaylaw9_MemExact.l1 k x6 0 0 x0z x1z x2z x3z x4z x5z bt665.2.1 bt665.2.2 x8z x9z x10z x11z x12z x13z) else (gangwaylaw9_MemExact.j7 k x6 21 x0z x1z x2z x3z x4z x5z bt665.2.1 bt665.2.2 x8z x9z x10z x11z x12z x13z))) else (if x132 = 7 then ((mem_Memory_Grow.f x4z x5z x11z).bind fun bt681 => ((gangwayref9_Mem_Grow.f x6z x7z x11z).bind fun bt686 => (if bt681.1 = bt686.1 then (gangwaylaw9_MemExact.j9 k x6 x0z x1z x2z x3z bt681.2.1 bt681.2.2 bt686.2.1 bt686.2.2) else (none)))) else (if x8 = true then ((gangwayref9_Mem_Store.f k x6z x7z (wrap64 (x9z + x10z)) x11z x12z).bind fun bt691 => (if bt691.1 = true then (gangwaylaw9_MemExact.j8 k x6 0 x0z x1z x2z x3z x4z x5z bt691.2.1 bt691.2.2 x8z x9z x10z x11z x12z x13z) else (gangwaylaw9_MemExact.j8 k x6 21 x0z x1z x2z x3z x4z x5z bt691.2.1 bt691.2.2 x8z x9z x10z x11z x12z x13z))) else (gangwaylaw9_MemExact.j8 k x6 100 x0z x1z x2z x3z x4z x5z x6z x7z x8z x9z x10z x11z x12z x13z)))))
def gangwaylaw9_MemExact.j4 : Nat → Int → Int → Int → Int → Int → Int → List (S48) → List Int → Int → List Int → Int → Int → Int → Int → Int → Int → List Int → Option (Bool)
 | 0, _, _, _, _, _, _, _, _, _, _, _, _, _, _, _, _, _ => none
 | k + 1, x6, x9, x10, x0z, x1z, x2z, x3z, x4z, x5z, x6z, x7z, x8z, x9z, x10z, x11z, x12z, x13z => (mem_Memory_Load.f k x4z x5z x9z x10z x11z).bind fun bt614 => ((gangwaylaw9_num.f bt614.2.1).bind fun t620 => (if t620 = x9 then (if bt614.1 = x10 then (gangwaylaw9_MemExact.j9 k x6 x0z x1z x2z x3z bt614.2.2.1 bt614.2.2.2 x6z x7z) else (none)) else (none)))
def gangwaylaw9_MemExact.j5 : Nat → Int → Int → List Int → Bool → Int → Int → Int → List (S48) → List Int → Int → List Int → Int → Int → Int → Int → Int → Int → List Int → Option (Bool)
 | 0, _, _, _, _, _, _, _, _, _, _, _, _, _, _, _, _, _, _ => none
 | k + 1, x6, x15, x16, x208, x0z, x1z, x2z, x3z, x4z, x5z, x6z, x7z, x8z, x9z, x10z, x11z, x12z, x13z => if x208 = true then (if 0 ≤ x9z then (if x9z ≤ (wrap64 (x9z + x11z)) then (if (wrap64 (x9z + x11z)) ≤ (x6z.length : Int) then ((mem_Memory_Read.f x4z x5z x9z x11z).bind fun bt635 => ((gangwaylaw9_num.f bt635.2.1).bind fun t643 => (if t643 = 0 then ((gangwayref0_EqBytes.f k bt635.1 ((x6z.take ((wrap64 (x9z + x11z)) : Int).toNat).drop (x9z : Int).toNat)).bind fun t644 => (if t644 = true then ((gangwaylaw0_Bytes.f k bt635.1).bind fun _ => (gangwaylaw9_MemExact.j9 k x6 x0z x1z x2z x3z bt635.2.2.1 bt635.2.2.2 x6z x7z)) else (none))) else (none)))) else (none)) else (none)) else (none)) else (if x11z > 5000 then ((gangwayref9_Mem_Has.f x6z x7z x9z x11z).bind fun bt630 => (if bt630.1 = true then (gangwaylaw9_MemExact.l0 k (wrap64 (x6 + 1)) x0z x1z x2z x3z x4z x5z bt630.2.1 bt630.2.2) else ((mem_Memory_Read.f x4z x5z x9z x11z).bind fun bt645 => ((gangwaylaw9_num.f bt645.2.1).bind fun t653 => (if t653 = x15 then ((gangwayref0_EqBytes.f k bt645.1 x16).bind fun t654 => (if t654 = true then ((gangwaylaw0_Bytes.f k bt645.1).bind fun _ => (gangwaylaw9_MemExact.j9 k x6 x0z x1z x2z x3z bt645.2.2.1 bt645.2.2.2 bt630.2.1 bt630.2.2)) else (none))) else (none)))))) else ((mem_Memory_Read.f x4z x5z x9z x11z).bind fun bt655 => ((gangwaylaw9_num.f bt655.2.1).bind fun t663 => (if t663 = x15 then ((gangwayref0_EqBytes.f k bt655.1 x16).bind fun t664 => (if t664 = true then ((gangwaylaw0_Bytes.f k bt655.1).bind fun _ => (gangwaylaw9_MemExact.j9 k x6 x0z x1z x2z x3z bt655.2.2.1 bt655.2.2.2 x6z x7z)) else (none))) else (none)))))
def gangwaylaw9_MemExact.j7 : Nat → Int → Int → Int → Int → Int → List (S48) → List Int → Int → List Int → Int → Int → Int → Int → Int → Int → List Int → Option (Bool)
 | 0, _, _, _, _, _, _, _, _, _, _, _, _, _, _, _, _ => none
 | k + 1, x6, x19, x0z, x1z, x2z, x3z, x4z, x5z, x6z, x7z, x8z, x9z, x10z, x11z, x12z, x13z => (gangwayref0_CopyBytes.f k x13z).bind fun t672 => ((mem_Memory_Write.f x4z x5z x9z t672).bind fun bt675 => ((gangwaylaw0_Bytes.f k t672).bind fun _ => ((gangwaylaw9_num.f bt675.1).bind fun t680 => (if t680 = x19 then (gangwaylaw9_MemExact.j9 k x6 x0z x1z x2z x3z bt675.2.1 bt675.2.2 x6z x7z) else (none)))))
def gangwaylaw9_MemExact.l1 : Nat → Int → Int → Int → Int → Int → Int → List (S48) → List Int → Int → List Int → Int → Int → Int → Int → Int → Int → List Int → Option (Bool)
 | 0, _, _, _, _, _, _, _, _, _, _, _, _, _, _, _, _, _ => none
 | k + 1, x6, x19, x20, x0z, x1z, x2z, x3z, x4z, x5z, x6z, x7z, x8z, x9z, x10z, x11z, x12z, x13z => if x20 < (x13z.length : Int) then (if 0 ≤ x20 then (if 0 ≤ (wrap64 (x9z + x20)) then (if (wrap64 (x9z + x20)) < (x6z.length : Int) then (gangwaylaw9_MemExact.l1 k x6 x19 (wrap64 (x20 + 1)) x0z x1z x2z x3z x4z x5z (x6z.set ((wrap64 (x9z + x20)) : Int).toNat (rd x13z x20)) x7z x8z x9z x10z x11z x12z x13z) else (none)) else (none)) else (none)) else (gangwaylaw9_MemExact.j7 k x6 x19 x0z x1z x2z x3z x4z x5z x6z x7z x8z x9z x10z x11z x12z x13z)
def gangwaylaw9_MemExact.j8 : Nat → Int → Int → Int → Int → Int → List (S48) → List Int → Int → List Int → Int → Int → Int → Int → Int → Int → List Int → Option (Bool)
 | 0, _, _, _, _, _, _, _, _, _, _, _, _, _, _, _, _ => none
 | k + 1, x6, x23, x0z, x1z, x2z, x3z, x4z, x5z, x6z, x7z, x8z, x9z, x10z, x11z, x12z, x13z => (mem_Memory_Store.f x4z x5z x9z x10z x11z x12z).bind fun bt696 => ((gangwaylaw9_num.f bt696.1).bind fun t701 => (if t701 = x23 then (gangwaylaw9_MemExact.j9 k x6 x0z x1z x2z x3z bt696.2.1 bt696.2.2 x6z x7z) else (none)))
end
def gangwaylaw9_MemExact.f (k : Nat) (a0_0 : Int) (a0_1 : Int) (a0_2 : Int) (l0_3 : List (S48)) : Option (Bool) := (gangwaylaw9_heavy.f k a0_0 a0_1 a0_2 l0_3).bind fun t470 => (if t470 = true then (some true) else ((mem_New.f k a0_0 a0_1 a0_2).bind fun bt471 => (if bt471.1 = true then ((gangwayref9_MayMem.f a0_0 a0_1 a0_2).bind fun t478 => (if t478 = true then ((gangwayref9_NewMem.f a0_0 a0_1 a0_2).bind fun bt480 => (if bt480.1 = true then ((gangwaylaw9_num.f bt471.2.2.2).bind fun t486 => (if t486 = 0 then (gangwaylaw9_MemExact.l0 k 0 a0_0 a0_1 a0_2 l0_3 bt471.2.1 bt471.2.2.1 bt480.2.1 bt480.2.2) else (none))) else (none))) else (none))) else ((gangwayref9_MayMem.f a0_0 a0_1 a0_2).bind fun t724 => (if t724 = true then ((gangwayref9_NewMem.f a0_0 a0_1 a0_2).bind fun bt727 => (if bt727.1 = true then (none) else ((gangwaylaw9_num.f bt471.2.2.2).bind fun t734 => (if t734 = 51 then ((gangwaylaw9_wakes.f k).bind fun t735 => (some t735)) else (none))))) else ((gangwaylaw9_num.f bt471.2.2.2).bind fun t725 => (if t725 = 100 then ((gangwaylaw9_wakes.f k).bind fun t726 => (some t726)) else (none))))))))
theorem gangwaylaw9_MemExact.mono_l : ∀ k, (∀ y0 y1 y2 y3 y4 y5 y6 y7 y8, LeO (gangwaylaw9_MemExact.l0 k y0 y1 y2 y3 y4 y5 y6 y7 y8) (gangwaylaw9_MemExact.l0 (k + 1) y0 y1 y2 y3 y4 y5 y6 y7 y8)) ∧ (∀ y0 y1 y2 y3 y4 y5 y6 y7 y8 y9, LeO (gangwaylaw9_MemExact.j1 k y0 y1 y2 y3 y4 y5 y6 y7 y8 y9) (gangwaylaw9_MemExact.j1 (k + 1) y0 y1 y2 y3 y4 y5 y6 y7 y8 y9)) ∧ (∀ y0 y1 y2 y3 y4 y5 y6 y7 y8 y9 y10 y11 y12 y13 y14 y15, LeO (gangwaylaw9_MemExact.j2 k y0 y1 y2 y3 y4 y5 y6 y7 y8 y9 y10 y11 y12 y13 y14 y15) (gangwaylaw9_MemExact.j2 (k + 1) y0 y1 y2 y3 y4 y5 y6 y7 y8 y9 y10 y11 y12 y13 y14 y15)) ∧ (∀ y0 y1 y2 y3 y4 y5 y6 y7 y8, LeO (gangwaylaw9_MemExact.j9 k y0 y1 y2 y3 y4 y5 y6 y7 y8) (gangwaylaw9_MemExact.j9 (k + 1) y0 y1 y2 y3 y4 y5 y6 y7 y8)) ∧ (∀ y0 y1 y2 y3 y4 y5 y6 y7 y8 y9 y10 y11 y12 y13 y14 y15 y16 y17, LeO (gangwaylaw9_MemExact.j3 k y0 y1 y2 y3 y4 y5 y6 y7 y8 y9 y10 y11 y12 y13 y14 y15 y16 y17) (gangwaylaw9_MemExact.j3 (k + 1) y0 y1 y2 y3 y4 y5 y6 y7 y8 y9 y10 y11 y12 y13 y14 y15 y16 y17)) ∧ (∀ y0 y1 y2 y3 y4 y5 y6 y7 y8 y9 y10 y11 y12 y13 y14 y15 y16, LeO (gangwaylaw9_MemExact.j4 k y0 y1 y2 y3 y4 y5 y6 y7 y8 y9 y10 y11 y12 y13 y14 y15 y16) (gangwaylaw9_MemExact.j4 (k + 1) y0 y1 y2 y3 y4 y5 y6 y7 y8 y9 y10 y11 y12 y13 y14 y15 y16)) ∧ (∀ y0 y1 y2 y3 y4 y5 y6 y7 y8 y9 y10 y11 y12 y13 y14 y15 y16 y17, LeO (gangwaylaw9_MemExact.j5 k y0 y1 y2 y3 y4 y5 y6 y7 y8 y9 y10 y11 y12 y13 y14 y15 y16 y17) (gangwaylaw9_MemExact.j5 (k + 1) y0 y1 y2 y3 y4 y5 y6 y7 y8 y9 y10 y11 y12 y13 y14 y15 y16 y17)) ∧ (∀ y0 y1 y2 y3 y4 y5 y6 y7 y8 y9 y10 y11 y12 y13 y14 y15, LeO (gangwaylaw9_MemExact.j7 k y0 y1 y2 y3 y4 y5 y6 y7 y8 y9 y10 y11 y12 y13 y14 y15) (gangwaylaw9_MemExact.j7 (k + 1) y0 y1 y2 y3 y4 y5 y6 y7 y8 y9 y10 y11 y12 y13 y14 y15)) ∧ (∀ y0 y1 y2 y3 y4 y5 y6 y7 y8 y9 y10 y11 y12 y13 y14 y15 y16, LeO (gangwaylaw9_MemExact.l1 k y0 y1 y2 y3 y4 y5 y6 y7 y8 y9 y10 y11 y12 y13 y14 y15 y16) (gangwaylaw9_MemExact.l1 (k + 1) y0 y1 y2 y3 y4 y5 y6 y7 y8 y9 y10 y11 y12 y13 y14 y15 y16)) ∧ (∀ y0 y1 y2 y3 y4 y5 y6 y7 y8 y9 y10 y11 y12 y13 y14 y15, LeO (gangwaylaw9_MemExact.j8 k y0 y1 y2 y3 y4 y5 y6 y7 y8 y9 y10 y11 y12 y13 y14 y15) (gangwaylaw9_MemExact.j8 (k + 1) y0 y1 y2 y3 y4 y5 y6 y7 y8 y9 y10 y11 y12 y13 y14 y15))
 | 0 => ⟨fun _ _ _ _ _ _ _ _ _ r h => by simp [gangwaylaw9_MemExact.l0] at h, fun _ _ _ _ _ _ _ _ _ _ r h => by simp [gangwaylaw9_MemExact.j1] at h, fun _ _ _ _ _ _ _ _ _ _ _ _ _ _ _ _ r h => by simp [gangwaylaw9_MemExact.j2] at h, fun _ _ _ _ _ _ _ _ _ r h => by simp [gangwaylaw9_MemExact.j9] at h, fun _ _ _ _ _ _ _ _ _ _ _ _ _ _ _ _ _ _ r h => by simp [gangwaylaw9_MemExact.j3] at h, fun _ _ _ _ _ _ _ _ _ _ _ _ _ _ _ _ _ r h => by simp [gangwaylaw9_MemExact.j4] at h, fun _ _ _ _ _ _ _ _ _ _ _ _ _ _ _ _ _ _ r h => by simp [gangwaylaw9_MemExact.j5] at h, fun _ _ _ _ _ _ _ _ _ _ _ _ _ _ _ _ r h => by simp [gangwaylaw9_MemExact.j7] at h, fun _ _ _ _ _ _ _ _ _ _ _ _ _ _ _ _ _ r h => by simp [gangwaylaw9_MemExact.l1] at h, fun _ _ _ _ _ _ _ _ _ _ _ _ _ _ _ _ r h => by simp [gangwaylaw9_MemExact.j8] at h⟩
 | k + 1 => by
  obtain ⟨ih0, ih1, ih2, ih3, ih4, ih5, ih6, ih7, ih8, ih9⟩ := gangwaylaw9_MemExact.mono_l k
  refine ⟨?_, ?_, ?_, ?_, ?_, ?_, ?_, ?_, ?_, ?_⟩
  ·intro y0 y1 y2 y3 y4 y5 y6 y7 y8
   unfold gangwaylaw9_MemExact.l0
   repeat' first
   | (with_reducible apply ih0)
   | (with_reducible apply ih1)
   | (with_reducible apply ih2)
   | (with_reducible apply ih3)
   | (with_reducible apply ih4)
   | (with_reducible apply ih5)
   | (with_reducible apply ih6)
   | (with_reducible apply ih7)
   | (with_reducible apply ih8)
   | (with_reducible apply ih9)
   | (with_reducible exact gangwaylaw0_Bytes.mono _ _)
   | (with_reducible exact gangwaylaw9_heavy.mono _ _ _ _ _)
   | (with_reducible exact gangwaylaw9_wakes.mono _)
   | (with_reducible exact gangwayref0_CopyBytes.mono _ _)
   | (with_reducible exact gangwayref0_EqBytes.mono _ _ _)
   | (with_reducible exact gangwayref9_Mem_Load.mono _ _ _ _ _)
   | (with_reducible exact gangwayref9_Mem_Store.mono _ _ _ _ _ _)
   | (with_reducible exact mem_Memory_Load.mono _ _ _ _ _ _)
   | (with_reducible exact mem_New.mono _ _ _ _)
   | (with_reducible exact LeO.refl _)
   | (with_reducible exact LeO.none _)
   | (with_reducible refine LeO.ite ?_ ?_)
   | (with_reducible refine LeO.bind ?_ (fun _ => ?_))
   | apply ih0
   | apply ih1
   | apply ih2
   | apply ih3
   | apply ih4
   | apply ih5
   | apply ih6
   | apply ih7
   | apply ih8
   | apply ih9
   | exact gangwaylaw0_Bytes.mono _ _
   | exact gangwaylaw9_heavy.mono _ _ _ _ _
   | exact gangwaylaw9_wakes.mono _
   | exact gangwayref0_CopyBytes.mono _ _
   | exact gangwayref0_EqBytes.mono _ _ _
   | exact gangwayref9_Mem_Load.mono _ _ _ _ _
   | exact gangwayref9_Mem_Store.mono _ _ _ _ _ _
   | exact mem_Memory_Load.mono _ _ _ _ _ _
   | exact mem_New.mono _ _ _ _
   | exact LeO.none _
   | refine LeO.ite ?_ ?_
   | refine LeO.bind ?_ (fun _ => ?_)
  ·intro y0 y1 y2 y3 y4 y5 y6 y7 y8 y9
   unfold gangwaylaw9_MemExact.j1
   repeat' first
   | (with_reducible apply ih0)
   | (with_reducible apply ih1)
   | (with_reducible apply ih2)
   | (with_reducible apply ih3)
   | (with_reducible apply ih4)
   | (with_reducible apply ih5)
   | (with_reducible apply ih6)
   | (with_reducible apply ih7)
   | (with_reducible apply ih8)
   | (with_reducible apply ih9)
   | (with_reducible exact gangwaylaw0_Bytes.mono _ _)
   | (with_reducible exact gangwaylaw9_heavy.mono _ _ _ _ _)
   | (with_reducible exact gangwaylaw9_wakes.mono _)
   | (with_reducible exact gangwayref0_CopyBytes.mono _ _)
   | (with_reducible exact gangwayref0_EqBytes.mono _ _ _)
   | (with_reducible exact gangwayref9_Mem_Load.mono _ _ _ _ _)
   | (with_reducible exact gangwayref9_Mem_Store.mono _ _ _ _ _ _)
   | (with_reducible exact mem_Memory_Load.mono _ _ _ _ _ _)
   | (with_reducible exact mem_New.mono _ _ _ _)
   | (with_reducible exact LeO.refl _)
   | (with_reducible exact LeO.none _)
   | (with_reducible refine LeO.ite ?_ ?_)
   | (with_reducible refine LeO.bind ?_ (fun _ => ?_))
   | apply ih0
   | apply ih1
   | apply ih2
   | apply ih3
   | apply ih4
   | apply ih5
   | apply ih6
   | apply ih7
   | apply ih8
   | apply ih9
   | exact gangwaylaw0_Bytes.mono _ _
   | exact gangwaylaw9_heavy.mono _ _ _ _ _
   | exact gangwaylaw9_wakes.mono _
   | exact gangwayref0_CopyBytes.mono _ _
   | exact gangwayref0_EqBytes.mono _ _ _
   | exact gangwayref9_Mem_Load.mono _ _ _ _ _
   | exact gangwayref9_Mem_Store.mono _ _ _ _ _ _
   | exact mem_Memory_Load.mono _ _ _ _ _ _
   | exact mem_New.mono _ _ _ _
   | exact LeO.none _
   | refine LeO.ite ?_ ?_
   | refine LeO.bind ?_ (fun _ => ?_)
  ·intro y0 y1 y2 y3 y4 y5 y6 y7 y8 y9 y10 y11 y12 y13 y14 y15
   unfold gangwaylaw9_MemExact.j2
   repeat' first
   | (with_reducible apply ih0)
   | (with_reducible apply ih1)
   | (with_reducible apply ih2)
   | (with_reducible apply ih3)
   | (with_reducible apply ih4)
   | (with_reducible apply ih5)
   | (with_reducible apply ih6)
   | (with_reducible apply ih7)
   | (with_reducible apply ih8)
   | (with_reducible apply ih9)
   | (with_reducible exact gangwaylaw0_Bytes.mono _ _)
   | (with_reducible exact gangwaylaw9_heavy.mono _ _ _ _ _)
   | (with_reducible exact gangwaylaw9_wakes.mono _)
   | (with_reducible exact gangwayref0_CopyBytes.mono _ _)
   | (with_reducible exact gangwayref0_EqBytes.mono _ _ _)
   | (with_reducible exact gangwayref9_Mem_Load.mono _ _ _ _ _)
   | (with_reducible exact gangwayref9_Mem_Store.mono _ _ _ _ _ _)
   | (with_reducible exact mem_Memory_Load.mono _ _ _ _ _ _)
   | (with_reducible exact mem_New.mono _ _ _ _)
   | (with_reducible exact LeO.refl _)
   | (with_reducible exact LeO.none _)
   | (with_reducible refine LeO.ite ?_ ?_)
   | (with_reducible refine LeO.bind ?_ (fun _ => ?_))
   | apply ih0
   | apply ih1
   | apply ih2
   | apply ih3
   | apply ih4
   | apply ih5
   | apply ih6
   | apply ih7
   | apply ih8
   | apply ih9
   | exact gangwaylaw0_Bytes.mono _ _
   | exact gangwaylaw9_heavy.mono _ _ _ _ _
   | exact gangwaylaw9_wakes.mono _
   | exact gangwayref0_CopyBytes.mono _ _
   | exact gangwayref0_EqBytes.mono _ _ _
   | exact gangwayref9_Mem_Load.mono _ _ _ _ _
   | exact gangwayref9_Mem_Store.mono _ _ _ _ _ _
   | exact mem_Memory_Load.mono _ _ _ _ _ _
   | exact mem_New.mono _ _ _ _
   | exact LeO.none _
   | refine LeO.ite ?_ ?_
   | refine LeO.bind ?_ (fun _ => ?_)
  ·intro y0 y1 y2 y3 y4 y5 y6 y7 y8
   unfold gangwaylaw9_MemExact.j9
   repeat' first
   | (with_reducible apply ih0)
   | (with_reducible apply ih1)
   | (with_reducible apply ih2)
   | (with_reducible apply ih3)
   | (with_reducible apply ih4)
   | (with_reducible apply ih5)
   | (with_reducible apply ih6)
   | (with_reducible apply ih7)
   | (with_reducible apply ih8)
   | (with_reducible apply ih9)
   | (with_reducible exact gangwaylaw0_Bytes.mono _ _)
   | (with_reducible exact gangwaylaw9_heavy.mono _ _ _ _ _)
   | (with_reducible exact gangwaylaw9_wakes.mono _)
   | (with_reducible exact gangwayref0_CopyBytes.mono _ _)
   | (with_reducible exact gangwayref0_EqBytes.mono _ _ _)
   | (with_reducible exact gangwayref9_Mem_Load.mono _ _ _ _ _)
   | (with_reducible exact gangwayref9_Mem_Store.mono _ _ _ _ _ _)
   | (with_reducible exact mem_Memory_Load.mono _ _ _ _ _ _)
   | (with_reducible exact mem_New.mono _ _ _ _)
   | (with_reducible exact LeO.refl _)
   | (with_reducible exact LeO.none _)
   | (with_reducible refine LeO.ite ?_ ?_)
   | (with_reducible refine LeO.bind ?_ (fun _ => ?_))
   | apply ih0
   | apply ih1
   | apply ih2
   | apply ih3
   | apply ih4
   | apply ih5
   | apply ih6
   | apply ih7
   | apply ih8
   | apply ih9
   | exact gangwaylaw0_Bytes.mono _ _
   | exact gangwaylaw9_heavy.mono _ _ _ _ _
   | exact gangwaylaw9_wakes.mono _
   | exact gangwayref0_CopyBytes.mono _ _
   | exact gangwayref0_EqBytes.mono _ _ _
   | exact gangwayref9_Mem_Load.mono _ _ _ _ _
   | exact gangwayref9_Mem_Store.mono _ _ _ _ _ _
   | exact mem_Memory_Load.mono _ _ _ _ _ _
   | exact mem_New.mono _ _ _ _
   | exact LeO.none _
   | refine LeO.ite ?_ ?_
   | refine LeO.bind ?_ (fun _ => ?_)
  ·intro y0 y1 y2 y3 y4 y5 y6 y7 y8 y9 y10 y11 y12 y13 y14 y15 y16 y17
   unfold gangwaylaw9_MemExact.j3
   repeat' first
   | (with_reducible apply ih0)
   | (with_reducible apply ih1)
   | (with_reducible apply ih2)
   | (with_reducible apply ih3)
   | (with_reducible apply ih4)
   | (with_reducible apply ih5)
   | (with_reducible apply ih6)
   | (with_reducible apply ih7)
   | (with_reducible apply ih8)
   | (with_reducible apply ih9)
   | (with_reducible exact gangwaylaw0_Bytes.mono _ _)
   | (with_reducible exact gangwaylaw9_heavy.mono _ _ _ _ _)
   | (with_reducible exact gangwaylaw9_wakes.mono _)
   | (with_reducible exact gangwayref0_CopyBytes.mono _ _)
   | (with_reducible exact gangwayref0_EqBytes.mono _ _ _)
   | (with_reducible exact gangwayref9_Mem_Load.mono _ _ _ _ _)
   | (with_reducible exact gangwayref9_Mem_Store.mono _ _ _ _ _ _)
   | (with_reducible exact mem_Memory_Load.mono _ _ _ _ _ _)
   | (with_reducible exact mem_New.mono _ _ _ _)
   | (with_reducible exact LeO.refl _)
   | (with_reducible exact LeO.none _)
   | (with_reducible refine LeO.ite ?_ ?_)
   | (with_reducible refine LeO.bind ?_ (fun _ => ?_))
   | apply ih0
   | apply ih1
   | apply ih2
   | apply ih3
   | apply ih4
   | apply ih5
   | apply ih6
   | apply ih7
   | apply ih8
   | apply ih9
   | exact gangwaylaw0_Bytes.mono _ _
   | exact gangwaylaw9_heavy.mono _ _ _ _ _
   | exact gangwaylaw9_wakes.mono _
   | exact gangwayref0_CopyBytes.mono _ _
   | exact gangwayref0_EqBytes.mono _ _ _
   | exact gangwayref9_Mem_Load.mono _ _ _ _ _
   | exact gangwayref9_Mem_Store.mono _ _ _ _ _ _
   | exact mem_Memory_Load.mono _ _ _ _ _ _
   | exact mem_New.mono _ _ _ _
   | exact LeO.none _
   | refine LeO.ite ?_ ?_
   | refine LeO.bind ?_ (fun _ => ?_)
  ·intro y0 y1 y2 y3 y4 y5 y6 y7 y8 y9 y10 y11 y12 y13 y14 y15 y16
   unfold gangwaylaw9_MemExact.j4
   repeat' first
   | (with_reducible apply ih0)
   | (with_reducible apply ih1)
   | (with_reducible apply ih2)
   | (with_reducible apply ih3)
   | (with_reducible apply ih4)
   | (with_reducible apply ih5)
   | (with_reducible apply ih6)
   | (with_reducible apply ih7)
   | (with_reducible apply ih8)
   | (with_reducible apply ih9)
   | (with_reducible exact gangwaylaw0_Bytes.mono _ _)
   | (with_reducible exact gangwaylaw9_heavy.mono _ _ _ _ _)
   | (with_reducible exact gangwaylaw9_wakes.mono _)
   | (with_reducible exact gangwayref0_CopyBytes.mono _ _)
   | (with_reducible exact gangwayref0_EqBytes.mono _ _ _)
   | (with_reducible exact gangwayref9_Mem_Load.mono _ _ _ _ _)
   | (with_reducible exact gangwayref9_Mem_Store.mono _ _ _ _ _ _)
   | (with_reducible exact mem_Memory_Load.mono _ _ _ _ _ _)
   | (with_reducible exact mem_New.mono _ _ _ _)
   | (with_reducible exact LeO.refl _)
   | (with_reducible exact LeO.none _)
   | (with_reducible refine LeO.ite ?_ ?_)
   | (with_reducible refine LeO.bind ?_ (fun _ => ?_))
   | apply ih0
   | apply ih1
   | apply ih2
   | apply ih3
   | apply ih4
   | apply ih5
   | apply ih6
   | apply ih7
   | apply ih8
   | apply ih9
   | exact gangwaylaw0_Bytes.mono _ _
   | exact gangwaylaw9_heavy.mono _ _ _ _ _
   | exact gangwaylaw9_wakes.mono _
   | exact gangwayref0_CopyBytes.mono _ _
   | exact gangwayref0_EqBytes.mono _ _ _
   | exact gangwayref9_Mem_Load.mono _ _ _ _ _
   | exact gangwayref9_Mem_Store.mono _ _ _ _ _ _
   | exact mem_Memory_Load.mono _ _ _ _ _ _
   | exact mem_New.mono _ _ _ _
   | exact LeO.none _
   | refine LeO.ite ?_ ?_
   | refine LeO.bind ?_ (fun _ => ?_)
  ·intro y0 y1 y2 y3 y4 y5 y6 y7 y8 y9 y10 y11 y12 y13 y14 y15 y16 y17
   unfold gangwaylaw9_MemExact.j5
   repeat' first
   | (with_reducible apply ih0)
   | (with_reducible apply ih1)
   | (with_reducible apply ih2)
   | (with_reducible apply ih3)
   | (with_reducible apply ih4)
   | (with_reducible apply ih5)
   | (with_reducible apply ih6)
   | (with_reducible apply ih7)
   | (with_reducible apply ih8)
   | (with_reducible apply ih9)
   | (with_reducible exact gangwaylaw0_Bytes.mono _ _)
   | (with_reducible exact gangwaylaw9_heavy.mono _ _ _ _ _)
   | (with_reducible exact gangwaylaw9_wakes.mono _)
   | (with_reducible exact gangwayref0_CopyBytes.mono _ _)
   | (with_reducible exact gangwayref0_EqBytes.mono _ _ _)
   | (with_reducible exact gangwayref9_Mem_Load.mono _ _ _ _ _)
   | (with_reducible exact gangwayref9_Mem_Store.mono _ _ _ _ _ _)
   | (with_reducible exact mem_Memory_Load.mono _ _ _ _ _ _)
   | (with_reducible exact mem_New.mono _ _ _ _)
   | (with_reducible exact LeO.refl _)
   | (with_reducible exact LeO.none _)
   | (with_reducible refine LeO.ite ?_ ?_)
   | (with_reducible refine LeO.bind ?_ (fun _ => ?_))
   | apply ih0
   | apply ih1
   | apply ih2
   | apply ih3
   | apply ih4
   | apply ih5
   | apply ih6
   | apply ih7
   | apply ih8
   | apply ih9
   | exact gangwaylaw0_Bytes.mono _ _
   | exact gangwaylaw9_heavy.mono _ _ _ _ _
   | exact gangwaylaw9_wakes.mono _
   | exact gangwayref0_CopyBytes.mono _ _
   | exact gangwayref0_EqBytes.mono _ _ _
   | exact gangwayref9_Mem_Load.mono _ _ _ _ _
   | exact gangwayref9_Mem_Store.mono _ _ _ _ _ _
   | exact mem_Memory_Load.mono _ _ _ _ _ _
   | exact mem_New.mono _ _ _ _
   | exact LeO.none _
   | refine LeO.ite ?_ ?_
   | refine LeO.bind ?_ (fun _ => ?_)
  ·intro y0 y1 y2 y3 y4 y5 y6 y7 y8 y9 y10 y11 y12 y13 y14 y15
   unfold gangwaylaw9_MemExact.j7
   repeat' first
   | (with_reducible apply ih0)
   | (with_reducible apply ih1)
   | (with_reducible apply ih2)
   | (with_reducible apply ih3)
   | (with_reducible apply ih4)
   | (with_reducible apply ih5)
   | (with_reducible apply ih6)
   | (with_reducible apply ih7)
   | (with_reducible apply ih8)
   | (with_reducible apply ih9)
   | (with_reducible exact gangwaylaw0_Bytes.mono _ _)
   | (with_reducible exact gangwaylaw9_heavy.mono _ _ _ _ _)
   | (with_reducible exact gangwaylaw9_wakes.mono _)
   | (with_reducible exact gangwayref0_CopyBytes.mono _ _)
   | (with_reducible exact gangwayref0_EqBytes.mono _ _ _)
   | (with_reducible exact gangwayref9_Mem_Load.mono _ _ _ _ _)
   | (with_reducible exact gangwayref9_Mem_Store.mono _ _ _ _ _ _)
   | (with_reducible exact mem_Memory_Load.mono _ _ _ _ _ _)
   | (with_reducible exact mem_New.mono _ _ _ _)
   | (with_reducible exact LeO.refl _)
   | (with_reducible exact LeO.none _)
   | (with_reducible refine LeO.ite ?_ ?_)
   | (with_reducible refine LeO.bind ?_ (fun _ => ?_))
   | apply ih0
   | apply ih1
   | apply ih2
   | apply ih3
   | apply ih4
   | apply ih5
   | apply ih6
   | apply ih7
   | apply ih8
   | apply ih9
   | exact gangwaylaw0_Bytes.mono _ _
   | exact gangwaylaw9_heavy.mono _ _ _ _ _
   | exact gangwaylaw9_wakes.mono _
   | exact gangwayref0_CopyBytes.mono _ _
   | exact gangwayref0_EqBytes.mono _ _ _
   | exact gangwayref9_Mem_Load.mono _ _ _ _ _
   | exact gangwayref9_Mem_Store.mono _ _ _ _ _ _
   | exact mem_Memory_Load.mono _ _ _ _ _ _
   | exact mem_New.mono _ _ _ _
   | exact LeO.none _
   | refine LeO.ite ?_ ?_
   | refine LeO.bind ?_ (fun _ => ?_)
  ·intro y0 y1 y2 y3 y4 y5 y6 y7 y8 y9 y10 y11 y12 y13 y14 y15 y16
   unfold gangwaylaw9_MemExact.l1
   repeat' first
   | (with_reducible apply ih0)
   | (with_reducible apply ih1)
   | (with_reducible apply ih2)
   | (with_reducible apply ih3)
   | (with_reducible apply ih4)
   | (with_reducible apply ih5)
   | (with_reducible apply ih6)
   | (with_reducible apply ih7)
   | (with_reducible apply ih8)
   | (with_reducible apply ih9)
   | (with_reducible exact gangwaylaw0_Bytes.mono _ _)
   | (with_reducible exact gangwaylaw9_heavy.mono _ _ _ _ _)
   | (with_reducible exact gangwaylaw9_wakes.mono _)
   | (with_reducible exact gangwayref0_CopyBytes.mono _ _)
   | (with_reducible exact gangwayref0_EqBytes.mono _ _ _)
   | (with_reducible exact gangwayref9_Mem_Load.mono _ _ _ _ _)
   | (with_reducible exact gangwayref9_Mem_Store.mono _ _ _ _ _ _)
   | (with_reducible exact mem_Memory_Load.mono _ _ _ _ _ _)
   | (with_reducible exact mem_New.mono _ _ _ _)
   | (with_reducible exact LeO.refl _)
   | (with_reducible exact LeO.none _)
   | (with_reducible refine LeO.ite ?_ ?_)
   | (with_reducible refine LeO.bind ?_ (fun _ => ?_))
   | apply ih0
   | apply ih1
   | apply ih2
   | apply ih3
   | apply ih4
   | apply ih5
   | apply ih6
   | apply ih7
   | apply ih8
   | apply ih9
   | exact gangwaylaw0_Bytes.mono _ _
   | exact gangwaylaw9_heavy.mono _ _ _ _ _
   | exact gangwaylaw9_wakes.mono _
   | exact gangwayref0_CopyBytes.mono _ _
   | exact gangwayref0_EqBytes.mono _ _ _
   | exact gangwayref9_Mem_Load.mono _ _ _ _ _
   | exact gangwayref9_Mem_Store.mono _ _ _ _ _ _
   | exact mem_Memory_Load.mono _ _ _ _ _ _
   | exact mem_New.mono _ _ _ _
   | exact LeO.none _
   | refine LeO.ite ?_ ?_
   | refine LeO.bind ?_ (fun _ => ?_)
  ·intro y0 y1 y2 y3 y4 y5 y6 y7 y8 y9 y10 y11 y12 y13 y14 y15
   unfold gangwaylaw9_MemExact.j8
   repeat' first
   | (with_reducible apply ih0)
   | (with_reducible apply ih1)
   | (with_reducible apply ih2)
   | (with_reducible apply ih3)
   | (with_reducible apply ih4)
   | (with_reducible apply ih5)
   | (with_reducible apply ih6)
   | (with_reducible apply ih7)
   | (with_reducible apply ih8)
   | (with_reducible apply ih9)
   | (with_reducible exact gangwaylaw0_Bytes.mono _ _)
   | (with_reducible exact gangwaylaw9_heavy.mono _ _ _ _ _)
   | (with_reducible exact gangwaylaw9_wakes.mono _)
   | (with_reducible exact gangwayref0_CopyBytes.mono _ _)
   | (with_reducible exact gangwayref0_EqBytes.mono _ _ _)
   | (with_reducible exact gangwayref9_Mem_Load.mono _ _ _ _ _)
   | (with_reducible exact gangwayref9_Mem_Store.mono _ _ _ _ _ _)
   | (with_reducible exact mem_Memory_Load.mono _ _ _ _ _ _)
   | (with_reducible exact mem_New.mono _ _ _ _)
   | (with_reducible exact LeO.refl _)
   | (with_reducible exact LeO.none _)
   | (with_reducible refine LeO.ite ?_ ?_)
   | (with_reducible refine LeO.bind ?_ (fun _ => ?_))
   | apply ih0
   | apply ih1
   | apply ih2
   | apply ih3
   | apply ih4
   | apply ih5
   | apply ih6
   | apply ih7
   | apply ih8
   | apply ih9
   | exact gangwaylaw0_Bytes.mono _ _
   | exact gangwaylaw9_heavy.mono _ _ _ _ _
   | exact gangwaylaw9_wakes.mono _
   | exact gangwayref0_CopyBytes.mono _ _
   | exact gangwayref0_EqBytes.mono _ _ _
   | exact gangwayref9_Mem_Load.mono _ _ _ _ _
   | exact gangwayref9_Mem_Store.mono _ _ _ _ _ _
   | exact mem_Memory_Load.mono _ _ _ _ _ _
   | exact mem_New.mono _ _ _ _
   | exact LeO.none _
   | refine LeO.ite ?_ ?_
   | refine LeO.bind ?_ (fun _ => ?_)
theorem gangwaylaw9_MemExact.mono : ∀ a0 a1 a2 a3 k, LeO (gangwaylaw9_MemExact.f k a0 a1 a2 a3) (gangwaylaw9_MemExact.f (k + 1) a0 a1 a2 a3) := by
 intro a0 a1 a2 a3 k
 obtain ⟨ih0, ih1, ih2, ih3, ih4, ih5, ih6, ih7, ih8, ih9⟩ := gangwaylaw9_MemExact.mono_l k
 unfold gangwaylaw9_MemExact.f
 repeat' first
   | (with_reducible apply ih0)
   | (with_reducible apply ih1)
   | (with_reducible apply ih2)
   | (with_reducible apply ih3)
   | (with_reducible apply ih4)
   | (with_reducible apply ih5)
   | (with_reducible apply ih6)
   | (with_reducible apply ih7)
   | (with_reducible apply ih8)
   | (with_reducible apply ih9)
   | (with_reducible exact gangwaylaw0_Bytes.mono _ _)
   | (with_reducible exact gangwaylaw9_heavy.mono _ _ _ _ _)
   | (with_reducible exact gangwaylaw9_wakes.mono _)
   | (with_reducible exact gangwayref0_CopyBytes.mono _ _)
   | (with_reducible exact gangwayref0_EqBytes.mono _ _ _)
   | (with_reducible exact gangwayref9_Mem_Load.mono _ _ _ _ _)
   | (with_reducible exact gangwayref9_Mem_Store.mono _ _ _ _ _ _)
   | (with_reducible exact mem_Memory_Load.mono _ _ _ _ _ _)
   | (with_reducible exact mem_New.mono _ _ _ _)
   | (with_reducible exact LeO.refl _)
   | (with_reducible exact LeO.none _)
   | (with_reducible refine LeO.ite ?_ ?_)
   | (with_reducible refine LeO.bind ?_ (fun _ => ?_))
   | apply ih0
   | apply ih1
   | apply ih2
   | apply ih3
   | apply ih4
   | apply ih5
   | apply ih6
   | apply ih7
   | apply ih8
   | apply ih9
   | exact gangwaylaw0_Bytes.mono _ _
   | exact gangwaylaw9_heavy.mono _ _ _ _ _
   | exact gangwaylaw9_wakes.mono _
   | exact gangwayref0_CopyBytes.mono _ _
   | exact gangwayref0_EqBytes.mono _ _ _
   | exact gangwayref9_Mem_Load.mono _ _ _ _ _
   | exact gangwayref9_Mem_Store.mono _ _ _ _ _ _
   | exact mem_Memory_Load.mono _ _ _ _ _ _
   | exact mem_New.mono _ _ _ _
   | exact LeO.none _
   | refine LeO.ite ?_ ?_
   | refine LeO.bind ?_ (fun _ => ?_)
def gangwaylaw9_MemExact.T42 : Bool × List (List Nat × List Nat) := (true, [([], []), ([0], [0]), ([1], [1]), ([2], [2]), ([], []), ([4], [4]), ([], []), ([6], [6]), ([], []), ([8], [8]), ([7, 9], [7, 9]), ([3, 5, 10], [3, 5, 10]), ([11, 0, 1, 2, 3, 4, 5, 6, 7, 8, 9, 10, 11], [11])])
def gangwaylaw9_MemExact.B42 : List Nat := [0, 1, 3, 7, 0, 16, 0, 64, 0, 256, 960, 2047, 4095]
theorem gangwaylaw9_MemExact.tab42 : rtab .any (opsOf Try.f5 42) = gangwaylaw9_MemExact.T42 := by kernel_rfl
theorem gangwaylaw9_MemExact.bits42 : waitsOk gangwaylaw9_MemExact.T42.2 gangwaylaw9_MemExact.B42 = true := by kernel_rfl
def gangwaylaw9_MemExact.T55 : Bool × List (List Nat × List Nat) := (true, [([], []), ([0], [0]), ([1], [1]), ([2], [2]), ([], []), ([4], [4]), ([], []), ([5, 6], [5, 6]), ([], []), ([8], [8]), ([], []), ([9, 10], [9, 10]), ([11], [11]), ([3, 7, 0, 1, 2, 3, 4, 5, 6, 7, 8, 9, 10, 11, 12], [3, 7]), ([13, 12, 0, 1, 2, 3, 4, 5, 6, 7, 8, 9, 10, 11, 12], [12, 13])])
def gangwaylaw9_MemExact.B55 : List Nat := [0, 1, 3, 7, 0, 16, 0, 112, 0, 256, 0, 1792, 3840, 8191, 16383]
theorem gangwaylaw9_MemExact.tab55 : rtab .any (opsOf Try.f5 55) = gangwaylaw9_MemExact.T55 := by kernel_rfl
theorem gangwaylaw9_MemExact.bits55 : waitsOk gangwaylaw9_MemExact.T55.2 gangwaylaw9_MemExact.B55 = true := by kernel_rfl
def gangwaylaw9_MemExact.T62 : Bool × List (List Nat × List Nat) := (true, [([], []), ([], []), ([1], [1]), ([0, 2], [0, 2]), ([], []), ([], []), ([5], [5]), ([4, 6, 3], [4, 6]), ([3, 7], [3, 7])])
def gangwaylaw9_MemExact.B62 : List Nat := [0, 0, 2, 7, 0, 0, 32, 127, 255]
theorem gangwaylaw9_MemExact.tab62 : rtab .any (opsOf Try.f5 62) = gangwaylaw9_MemExact.T62 := by kernel_rfl
theorem gangwaylaw9_MemExact.bits62 : waitsOk gangwaylaw9_MemExact.T62.2 gangwaylaw9_MemExact.B62 = true := by kernel_rfl
theorem gangwaylaw9_MemExact.aa_0 {p : Prop} (h : p := by (try simp only [List.map_toArray, List.map_cons, List.map_nil]); first | done | rfl | (simp only [List.length_drop, List.length_take]; rfl)) : p := h
theorem gangwaylaw9_MemExact.aa_1 {p : Prop} (h : p := by (with_reducible repeat (first | refine blk_drewN ?_ _ | refine blk_drew ?_ | refine blk_alloc ?_ _)); exact BK469.out) : p := h
theorem gangwaylaw9_MemExact.aa_2 {p : Prop} (h : p := by repeat (first | (with_reducible first | exact HI476.out | apply IsS61.alloc | apply IsS61.drewN | apply IsS61.drew | apply IsS61.set_0 | apply IsS61.set_1 | refine IsS61.far ?_ NB476_469.out _ | refine IsS61.far ?_ NB476_606.out _) | exact HI476.out)) : p := h
theorem gangwaylaw9_MemExact.aa_3 {p : Prop} (h : p := by repeat (first | (with_reducible first | exact HB.out | apply below_alloc | apply pw_below_drewN | apply below_drew1 | refine below_set ?_ GE469.out) | exact HB.out)) : p := h
theorem gangwaylaw9_MemExact.aa_4 {p : Prop} (h : p := by repeat (first | (with_reducible first | exact HI485.out | apply IsS54.alloc | apply IsS54.drewN | apply IsS54.drew | apply IsS54.set_0 | apply IsS54.set_1 | refine IsS54.far ?_ NB485_469.out _ | refine IsS54.far ?_ NB485_606.out _) | exact HI485.out)) : p := h
theorem gangwaylaw9_MemExact.aa_5 {p : Prop} (h : p := by (with_reducible repeat (first | refine blk_drewN ?_ _ | refine blk_drew ?_ | refine blk_alloc ?_ _)); exact BK606.out) : p := h
theorem gangwaylaw9_MemExact.aa_6 {p : Prop} (h : p := by first | rfl | (simp; done) | (simp [*]; done)) : p := h
theorem gangwaylaw9_MemExact.aa_7 {p : Prop} (h : p := by (with_reducible repeat (first | apply Kd.R_alloc | apply Kd.R_drewN | apply Kd.R_drew)); exact HO_6z.out) : p := h
theorem gangwaylaw9_MemExact.aa_8 {p : Prop} (h : p := by repeat (first | (with_reducible first | exact HB.out | apply below_alloc | apply pw_below_drewN | apply below_drew1) | exact HB.out)) : p := h
theorem gangwaylaw9_MemExact.aa_9 {p : Prop} (h : p := by (with_reducible repeat (first | apply Kd.R_alloc | apply Kd.R_drewN | apply Kd.R_drew)); exact HO_4z.out) : p := h
theorem gangwaylaw9_MemExact.aa_10 {p : Prop} (h : p := by (with_reducible repeat (first | apply Kd.R_alloc | apply Kd.R_drewN | apply Kd.R_drew)); exact HO474.out) : p := h
theorem gangwaylaw9_MemExact.aa_11 {p : Prop} (h : p := by repeat (first | (with_reducible first | exact HB.out | apply below_alloc | apply pw_below_drewN | apply below_drew1 | refine below_set ?_ (IsS61.ge HI476.out) | refine below_set ?_ (IsS54.ge HI485.out) | refine below_set ?_ GE469.out) | exact HB.out)) : p := h
theorem gangwaylaw9_MemExact.aa_12 {p : Prop} (h : p := by (with_reducible repeat (first | apply Kd.R_alloc | apply Kd.R_drewN | apply Kd.R_drew)); exact HO_16.out) : p := h
theorem gangwaylaw9_MemExact.aa_13 {p : Prop} (h : p := by repeat (first | (with_reducible first | exact HI476.out | apply IsS61.alloc | apply IsS61.drewN | apply IsS61.drew | apply IsS61.set_0 | apply IsS61.set_1 | refine IsS61.far ?_ NB476_469.out _) | exact HI476.out)) : p := h
theorem gangwaylaw9_MemExact.aa_14 {p : Prop} (h : p := by repeat (first | (with_reducible first | exact HB.out | apply below_alloc | apply pw_below_drewN | apply below_drew1 | refine below_set ?_ (IsS61.ge HI476.out) | refine below_set ?_ GE469.out) | exact HB.out)) : p := h
theorem gangwaylaw9_MemExact.aa_15 {p : Prop} (h : p := by repeat (first | (with_reducible first | exact HI485.out | apply IsS54.alloc | apply IsS54.drewN | apply IsS54.drew | apply IsS54.set_0 | apply IsS54.set_1 | refine IsS54.far ?_ NB485_469.out _) | exact HI485.out)) : p := h
theorem gangwaylaw9_MemExact.aa_16 {p : Prop} (h : p := by first | (with_reducible assumption) | assumption) : p := h
theorem gangwaylaw9_MemExact.aa_17 {p : Prop} (h : p := by repeat (first | (with_reducible first | exact HB.out | apply below_alloc | apply pw_below_drewN | apply below_drew1 | refine below_set ?_ (IsS61.ge HI476.out) | refine below_set ?_ (IsS54.ge HI485.out) | refine below_set ?_ GE469.out | refine below_set ?_ GE606.out) | exact HB.out)) : p := h
theorem gangwaylaw9_MemExact.aa_18 {p : Prop} (h : p := by (with_reducible repeat (first | apply Kd.R_alloc | apply Kd.R_drewN | apply Kd.R_drew)); exact HO612.out) : p := h
theorem gangwaylaw9_MemExact.aa_19 {p : Prop} (h : p := by (with_reducible repeat (first | apply Kd.R_alloc | apply Kd.R_drewN | apply Kd.R_drew)); exact HO668.out) : p := h
theorem gangwaylaw9_MemExact.aa_20 {p : Prop} (h : p := by (with_reducible repeat (first | apply Kd.R_alloc | apply Kd.R_drewN | apply Kd.R_drew)); exact HO694.out) : p := h
theorem gangwaylaw9_MemExact.aa_21 {p : Prop} (h : p := by repeat (first | exact (Kd.C_below HR0_3.out HB.out) | (with_reducible refine Kd.C_alloc ?_ _) | (with_reducible refine Kd.C_drewN ?_ _) | (with_reducible refine Kd.C_drew ?_))) : p := h
theorem gangwaylaw9_MemExact.aa_22 {p : Prop} (h : p := by repeat (first | exact (Kd.R_reads' HO_16.out).2.2 | (with_reducible refine Kd.C_alloc ?_ _) | (with_reducible refine Kd.C_drewN ?_ _) | (with_reducible refine Kd.C_drew ?_))) : p := h
theorem gangwaylaw9_MemExact.am_ {p : Prop} (h : p) : Aside0 p := Aside0.mk h
theorem gangwaylaw9_MemExact.bm_ {α β : Type _} {o : Option α} {f : α → Option β} {b : β} (h : o.bind f = some b) : ∃ a, o = some a ∧ f a = some b := Option.bind_eq_some_iff.mp h
set_option maxHeartbeats 100000000 in
set_option maxRecDepth 100000 in
theorem gangwaylaw9_MemExact.calls (k : Nat) (a0_0 : Int) (a0_1 : Int) (a0_2 : Int) (A0_3 : Option Addr) (c0_3 : Nat) (l0_3 : List (S48)) (r : Bool) (w : World) (hr0_3 : Kd.C k48 w A0_3 l0_3.length l0_3) (hc0_3 : l0_3.length ≤ c0_3) (h : gangwaylaw9_MemExact.f k a0_0 a0_1 a0_2 l0_3 = some r) :
  Calls Try.prog 5 #[.agg #[.int .i64 a0_0, .int .i64 a0_1, .int .i64 a0_2, .slice A0_3 l0_3.length c0_3]] w fun e w' => e = .returned (.bool r) ∧ Below w.heap.size w w' := by
 have hu26 := Try.underlying26
 have hu23 := Try.underlying23
 have hu48 := Try.underlying48
 have HR0_3 := am_ hr0_3
 have HC0_3 := am_ hc0_3
 clear hr0_3 hc0_3
 have HB := am_ (Below.refl w.heap.size w)
 have H : ((gangwaylaw9_heavy.f k a0_0 a0_1 a0_2 l0_3).bind fun t470 => (if t470 = true then (some true) else ((mem_New.f k a0_0 a0_1 a0_2).bind fun bt471 => (if bt471.1 = true then ((gangwayref9_MayMem.f a0_0 a0_1 a0_2).bind fun t478 => (if t478 = true then ((gangwayref9_NewMem.f a0_0 a0_1 a0_2).bind fun bt480 => (if bt480.1 = true then ((gangwaylaw9_num.f bt471.2.2.2).bind fun t486 => (if t486 = 0 then (gangwaylaw9_MemExact.l0 k 0 a0_0 a0_1 a0_2 l0_3 bt471.2.1 bt471.2.2.1 bt480.2.1 bt480.2.2) else (none))) else (none))) else (none))) else ((gangwayref9_MayMem.f a0_0 a0_1 a0_2).bind fun t724 => (if t724 = true then ((gangwayref9_NewMem.f a0_0 a0_1 a0_2).bind fun bt727 => (if bt727.1 = true then (none) else ((gangwaylaw9_num.f bt471.2.2.2).bind fun t734 => (if t734 = 51 then ((gangwaylaw9_wakes.f k).bind fun t735 => (some t735)) else (none))))) else ((gangwaylaw9_num.f bt471.2.2.2).bind fun t725 => (if t725 = 100 then ((gangwaylaw9_wakes.f k).bind fun t726 => (some t726)) else (none))))))))) = some r := h
 clear h
 replace H := bm_ H
 obtain ⟨t470, A20, H⟩ := H
 replace H : (if t470 = true then (some true) else ((mem_New.f k a0_0 a0_1 a0_2).bind fun bt471 => (if bt471.1 = true then ((gangwayref9_MayMem.f a0_0 a0_1 a0_2).bind fun t478 => (if t478 = true then ((gangwayref9_NewMem.f a0_0 a0_1 a0_2).bind fun bt480 => (if bt480.1 = true then ((gangwaylaw9_num.f bt471.2.2.2).bind fun t486 => (if t486 = 0 then (gangwaylaw9_MemExact.l0 k 0 a0_0 a0_1 a0_2 l0_3 bt471.2.1 bt471.2.2.1 bt480.2.1 bt480.2.2) else (none))) else (none))) else (none))) else ((gangwayref9_MayMem.f a0_0 a0_1 a0_2).bind fun t724 => (if t724 = true then ((gangwayref9_NewMem.f a0_0 a0_1 a0_2).bind fun bt727 => (if bt727.1 = true then (none) else ((gangwaylaw9_num.f bt471.2.2.2).bind fun t734 => (if t734 = 51 then ((gangwaylaw9_wakes.f k).bind fun t735 => (some t735)) else (none))))) else ((gangwaylaw9_num.f bt471.2.2.2).bind fun t725 => (if t725 = 100 then ((gangwaylaw9_wakes.f k).bind fun t726 => (some t726)) else (none)))))))) = some r := H
 have A2 := am_ A20
 clear A20
 by_cases c3 : t470 = true
 ·subst c3
  have H1 : (some true) = some r := by rw [if_pos rfl] at H; exact H
  clear H
  have H := H1
  clear H1
  obtain rfl := Option.some.inj H
  go_enter Try.func5, Try.ntmps5
  go_wp2_with (first | ((with_reducible refine gate_dst (N := 1) rfl ?_); refine box_event ?hg (N := 1) ?hd (cs := #[.int .i64 a0_0, .int .i64 a0_1, .int .i64 a0_2, .slice A0_3 l0_3.length c0_3]) (t := 26) ?hr ?_; (case hd => rfl); (case hg => rfl); (case hr => first | (go_simp; done) | (go_simp; rfl)); intro gb469 hg w4 hbox hb; have n0_ := am_ (below_step aa_8 hb); have n1_ := am_ (hbox); have n2_ := am_ ((by rw [hg]; exact (below_size aa_8) : w.heap.size ≤ gb469)); have n3_ := am_ ((by rw [hg]; exact (below_size aa_8) : w.heap.size ≤ gb469)); clear HB; have HB := n0_; have BK469 := n1_; have GW469 := n2_; have GE469 := n3_; clear n0_ n1_ n2_ n3_; clear hb hbox hg) | ((with_reducible refine gate_dst (N := 26) rfl ?_); refine Go.Proofs.YtjmajhalgdeicaaO.load_whole ?hg (N := 26) ?hd 26 (x := ?xo26_) ?ho (g := gb469) ?hx (cs := #[.int .i64 a0_0, .int .i64 a0_1, .int .i64 a0_2, .slice A0_3 l0_3.length c0_3]) BK469.out Try.underlying26 (by kernel_rfl) ?_; (case hd => rfl); (case hg => rfl); (case ho => rfl); (case hx => rfl)) | ((with_reducible refine gate_callee (f := 16) rfl ?_); refine goesL_ (some 27) rfl rfl Try.func16 (by kernel_rfl) rfl #[.agg #[.int .i64 a0_0, .int .i64 a0_1, .int .i64 a0_2, .slice A0_3 l0_3.length c0_3]] rfl aa_0 ?_; (with_reducible refine (gangwaylaw9_heavy.calls k a0_0 a0_1 a0_2 _ _ l0_3 true _ ?side1 ?side2 A2.out).mono ?_); (case side1 => exact aa_21); (case side2 => exact HC0_3.out); rintro e w5 ⟨rfl, hb⟩; refine ⟨_, rfl, ?_⟩; have n0_ := am_ (bbelow BK469 aa_1 hb); have n1_ := am_ (below_step aa_3 hb); clear BK469; clear HB; have BK469 := n0_; have HB := n1_; clear n0_ n1_; (try clear hb); (try clear hb2); (try clear hk); (try clear hi)))
  go_ret
  exact ⟨by first | rfl | (simp [errW_none, errW_some] <;> rfl) | (simp [*, errW_none, errW_some] <;> rfl), by repeat (first | (with_reducible first | exact HB.out | apply below_alloc | apply pw_below_drewN | apply below_drew1 | refine below_set ?_ GE469.out) | exact HB.out)⟩
 as_aux_lemma =>
 replace c3 := Bool.eq_false_iff.mpr c3
 subst c3
 have H1 : ((mem_New.f k a0_0 a0_1 a0_2).bind fun bt471 => (if bt471.1 = true then ((gangwayref9_MayMem.f a0_0 a0_1 a0_2).bind fun t478 => (if t478 = true then ((gangwayref9_NewMem.f a0_0 a0_1 a0_2).bind fun bt480 => (if bt480.1 = true then ((gangwaylaw9_num.f bt471.2.2.2).bind fun t486 => (if t486 = 0 then (gangwaylaw9_MemExact.l0 k 0 a0_0 a0_1 a0_2 l0_3 bt471.2.1 bt471.2.2.1 bt480.2.1 bt480.2.2) else (none))) else (none))) else (none))) else ((gangwayref9_MayMem.f a0_0 a0_1 a0_2).bind fun t724 => (if t724 = true then ((gangwayref9_NewMem.f a0_0 a0_1 a0_2).bind fun bt727 => (if bt727.1 = true then (none) else ((gangwaylaw9_num.f bt471.2.2.2).bind fun t734 => (if t734 = 51 then ((gangwaylaw9_wakes.f k).bind fun t735 => (some t735)) else (none))))) else ((gangwaylaw9_num.f bt471.2.2.2).bind fun t725 => (if t725 = 100 then ((gangwaylaw9_wakes.f k).bind fun t726 => (some t726)) else (none))))))) = some r := by rw [if_neg (show ¬ (false = true) by decide)] at H; exact H
 clear H
 have H := H1
 clear H1
 replace H := bm_ H
 obtain ⟨⟨t471, t472, t475, t477⟩, A60, H⟩ := H
 replace H : (if t471 = true then ((gangwayref9_MayMem.f a0_0 a0_1 a0_2).bind fun t478 => (if t478 = true then ((gangwayref9_NewMem.f a0_0 a0_1 a0_2).bind fun bt480 => (if bt480.1 = true then ((gangwaylaw9_num.f t477).bind fun t486 => (if t486 = 0 then (gangwaylaw9_MemExact.l0 k 0 a0_0 a0_1 a0_2 l0_3 t472 t475 bt480.2.1 bt480.2.2) else (none))) else (none))) else (none))) else ((gangwayref9_MayMem.f a0_0 a0_1 a0_2).bind fun t724 => (if t724 = true then ((gangwayref9_NewMem.f a0_0 a0_1 a0_2).bind fun bt727 => (if bt727.1 = true then (none) else ((gangwaylaw9_num.f t477).bind fun t734 => (if t734 = 51 then ((gangwaylaw9_wakes.f k).bind fun t735 => (some t735)) else (none))))) else ((gangwaylaw9_num.f t477).bind fun t725 => (if t725 = 100 then ((gangwaylaw9_wakes.f k).bind fun t726 => (some t726)) else (none)))))) = some r := H
 have A6 := am_ A60
 clear A60
 by_cases c7 : t471 = true
 rotate_left
 ·as_aux_lemma =>
  replace c7 := Bool.eq_false_iff.mpr c7
  subst c7
  have H1 : ((gangwayref9_MayMem.f a0_0 a0_1 a0_2).bind fun t724 => (if t724 = true then ((gangwayref9_NewMem.f a0_0 a0_1 a0_2).bind fun bt727 => (if bt727.1 = true then (none) else ((gangwaylaw9_num.f t477).bind fun t734 => (if t734 = 51 then ((gangwaylaw9_wakes.f k).bind fun t735 => (some t735)) else (none))))) else ((gangwaylaw9_num.f t477).bind fun t725 => (if t725 = 100 then ((gangwaylaw9_wakes.f k).bind fun t726 => (some t726)) else (none))))) = some r := by rw [if_neg (show ¬ (false = true) by decide)] at H; exact H
  clear H
  have H := H1
  clear H1
  replace H := bm_ H
  obtain ⟨t724, A3120, H⟩ := H
  replace H : (if t724 = true then ((gangwayref9_NewMem.f a0_0 a0_1 a0_2).bind fun bt727 => (if bt727.1 = true then (none) else ((gangwaylaw9_num.f t477).bind fun t734 => (if t734 = 51 then ((gangwaylaw9_wakes.f k).bind fun t735 => (some t735)) else (none))))) else ((gangwaylaw9_num.f t477).bind fun t725 => (if t725 = 100 then ((gangwaylaw9_wakes.f k).bind fun t726 => (some t726)) else (none)))) = some r := H
  have A312 := am_ A3120
  clear A3120
  by_cases c313 : t724 = true
  rotate_left
  ·replace c313 := Bool.eq_false_iff.mpr c313
   subst c313
   have H1 : ((gangwaylaw9_num.f t477).bind fun t725 => (if t725 = 100 then ((gangwaylaw9_wakes.f k).bind fun t726 => (some t726)) else (none))) = some r := by rw [if_neg (show ¬ (false = true) by decide)] at H; exact H
   clear H
   have H := H1
   clear H1
   replace H := bm_ H
   obtain ⟨t725, A3280, H⟩ := H
   replace H : (if t725 = 100 then ((gangwaylaw9_wakes.f k).bind fun t726 => (some t726)) else (none)) = some r := H
   have A328 := am_ A3280
   clear A3280
   by_cases c329 : t725 = 100
   rotate_left
   ·rw [if_neg c329] at H
    exact absurd H (by simp)
   rw [if_pos c329] at H
   have c329b0 : (t725 == 100) = true := beq_iff_eq.mpr c329
   have c329b1 : (t725 != 100) = false := bne_eq_false_iff_eq.mpr c329
   clear c329
   replace H := bm_ H
   obtain ⟨t726, A3300, H⟩ := H
   replace H : (some t726) = some r := H
   have A330 := am_ A3300
   clear A3300
   obtain rfl := Option.some.inj H
   go_enter Try.func5, Try.ntmps5
   go_wp2_with (first | ((with_reducible refine gate_dst (N := 1) rfl ?_); refine box_event ?hg (N := 1) ?hd (cs := #[.int .i64 a0_0, .int .i64 a0_1, .int .i64 a0_2, .slice A0_3 l0_3.length c0_3]) (t := 26) ?hr ?_; (case hd => rfl); (case hg => rfl); (case hr => first | (go_simp; done) | (go_simp; rfl)); intro gb469 hg w331 hbox hb; have n0_ := am_ (below_step aa_8 hb); have n1_ := am_ (hbox); have n2_ := am_ ((by rw [hg]; exact (below_size aa_8) : w.heap.size ≤ gb469)); have n3_ := am_ ((by rw [hg]; exact (below_size aa_8) : w.heap.size ≤ gb469)); clear HB; have HB := n0_; have BK469 := n1_; have GW469 := n2_; have GE469 := n3_; clear n0_ n1_ n2_ n3_; clear hb hbox hg) | ((with_reducible refine gate_dst (N := 26) rfl ?_); refine Go.Proofs.YtjmajhalgdeicaaO.load_whole ?hg (N := 26) ?hd 26 (x := ?xo26_) ?ho (g := gb469) ?hx (cs := #[.int .i64 a0_0, .int .i64 a0_1, .int .i64 a0_2, .slice A0_3 l0_3.length c0_3]) BK469.out Try.underlying26 (by kernel_rfl) ?_; (case hd => rfl); (case hg => rfl); (case ho => rfl); (case hx => rfl)) | ((with_reducible refine gate_callee (f := 16) rfl ?_); refine goesL_ (some 27) rfl rfl Try.func16 (by kernel_rfl) rfl #[.agg #[.int .i64 a0_0, .int .i64 a0_1, .int .i64 a0_2, .slice A0_3 l0_3.length c0_3]] rfl aa_0 ?_; (with_reducible refine (gangwaylaw9_heavy.calls k a0_0 a0_1 a0_2 _ _ l0_3 false _ ?side1 ?side2 A2.out).mono ?_); (case side1 => exact aa_21); (case side2 => exact HC0_3.out); rintro e w332 ⟨rfl, hb⟩; refine ⟨_, rfl, ?_⟩; have n0_ := am_ (bbelow BK469 aa_1 hb); have n1_ := am_ (below_step aa_3 hb); clear BK469; clear HB; have BK469 := n0_; have HB := n1_; clear n0_ n1_; (try clear hb); (try clear hb2); (try clear hk); (try clear hi); have hcz333_0 : w332.cell? ⟨gb469, 0, none⟩ = some (.int .i64 a0_0) := (bc BK469 0); have hcz333_1 : w332.cell? ⟨gb469, 1, none⟩ = some (.int .i64 a0_1) := (bc BK469 1); have hcz333_2 : w332.cell? ⟨gb469, 2, none⟩ = some (.int .i64 a0_2) := (bc BK469 2); have hcz333_3 : w332.cell? ⟨gb469, 3, none⟩ = some (.slice A0_3 l0_3.length c0_3) := (bc BK469 3)) | ((with_reducible refine gate_callee (f := 7) rfl ?_); refine goesL_ (some 33) rfl rfl Try.func7 (by kernel_rfl) rfl #[.agg #[.int .i64 a0_0, .int .i64 a0_1], .int .i64 a0_2] rfl aa_0 ?_; (with_reducible refine (mem_New.calls k a0_0 a0_1 a0_2 false t472 t475 t477 _ A6.out).mono ?_); rintro e w334 ⟨v473, pz476, rfl, ho0, hz476, hb⟩; refine ⟨_, rfl, ?_⟩; have n0_ := am_ (Kd.R_lower ho0 (below_size aa_3)); have n1_ := am_ (bbelow BK469 aa_1 hb); have n2_ := am_ ((show (false = true → ∃ g_ : Nat, pz476 = .pointer (some ⟨g_, 0, none⟩) ∧ IsS61 w w334 g_ v473 t475 ∧ gb469 ≠ g_) ∧ (false = false → pz476 = .pointer none) from ⟨fun h_ => (hz476.1 h_).elim fun g_ hg_ => ⟨g_, hg_.1, hg_.2.lower ((below_size aa_3)), Nat.ne_of_lt (Nat.lt_of_lt_of_le (blk_lt (g := gb469) (o := .cells #[.int .i64 a0_0, .int .i64 a0_1, .int .i64 a0_2, .slice A0_3 l0_3.length c0_3] 26 (0, 0)) aa_1) hg_.2.ge)⟩, hz476.2⟩)); have n3_ := am_ (below_step aa_3 hb); clear BK469; clear HB; have HO474 := n0_; have BK469 := n1_; have HZ476 := n2_; have HB := n3_; clear n0_ n1_ n2_ n3_; (try clear hb); (try clear hb2); (try clear hk); (try clear hi); (try clear ho0); have e_ := HZ476.out.2 rfl; subst e_; clear HZ476; have hcz335_0 : w334.cell? ⟨gb469, 0, none⟩ = some (.int .i64 a0_0) := (bc BK469 0); have hcz335_1 : w334.cell? ⟨gb469, 1, none⟩ = some (.int .i64 a0_1) := (bc BK469 1); have hcz335_2 : w334.cell? ⟨gb469, 2, none⟩ = some (.int .i64 a0_2) := (bc BK469 2); have hcz335_3 : w334.cell? ⟨gb469, 3, none⟩ = some (.slice A0_3 l0_3.length c0_3) := (bc BK469 3)) | ((with_reducible refine gate_callee (f := 17) rfl ?_); refine goesL_ (some 40) rfl rfl Try.func17 (by kernel_rfl) rfl #[.agg #[.int .i64 a0_0, .int .i64 a0_1], .int .i64 a0_2] rfl aa_0 ?_; (with_reducible refine (gangwayref9_MayMem.calls a0_0 a0_1 a0_2 false _ A312.out).mono ?_); rintro e w336 ⟨rfl, hb⟩; refine ⟨_, rfl, ?_⟩; have n0_ := am_ (Kd.R_below aa_10 hb); have n1_ := am_ (bbelow BK469 aa_1 hb); have n2_ := am_ (below_step aa_3 hb); clear HO474; clear BK469; clear HB; have HO474 := n0_; have BK469 := n1_; have HB := n2_; clear n0_ n1_ n2_; (try clear hb); (try clear hb2); (try clear hk); (try clear hi)) | ((with_reducible refine gate_callee (f := 8) rfl ?_); refine goesL_ (some 43) rfl rfl Try.func8 (by kernel_rfl) rfl #[.int .i64 t477] rfl aa_0 ?_; (with_reducible refine (gangwaylaw9_num.calls t477 t725 _ A328.out).mono ?_); rintro e w' ⟨rfl, ⟨nd, rfl⟩⟩; refine ⟨_, rfl, ?_⟩) | (go_at_call 13; (with_reducible refine (gangwaylaw9_wakes.calls k  t726 _ A330.out).mono ?_); rintro e w337 ⟨rfl, hb⟩; have n0_ := am_ (Kd.R_below aa_10 hb); have n1_ := am_ (bbelow BK469 aa_1 hb); have n2_ := am_ (below_step aa_3 hb); clear HO474; clear BK469; clear HB; have HO474 := n0_; have BK469 := n1_; have HB := n2_; clear n0_ n1_ n2_; (try clear hb); (try clear hb2); (try clear hk); (try clear hi)))
   go_ret
   exact ⟨by first | rfl | (simp [errW_none, errW_some] <;> rfl) | (simp [*, errW_none, errW_some] <;> rfl), by repeat (first | (with_reducible first | exact HB.out | apply below_alloc | apply pw_below_drewN | apply below_drew1 | refine below_set ?_ GE469.out) | exact HB.out)⟩
  as_aux_lemma =>
  subst c313
  have H1 : ((gangwayref9_NewMem.f a0_0 a0_1 a0_2).bind fun bt727 => (if bt727.1 = true then (none) else ((gangwaylaw9_num.f t477).bind fun t734 => (if t734 = 51 then ((gangwaylaw9_wakes.f k).bind fun t735 => (some t735)) else (none))))) = some r := by rw [if_pos rfl] at H; exact H
  clear H
  have H := H1
  clear H1
  replace H := bm_ H
  obtain ⟨⟨t727, t728, t731⟩, A3140, H⟩ := H
  replace H : (if t727 = true then (none) else ((gangwaylaw9_num.f t477).bind fun t734 => (if t734 = 51 then ((gangwaylaw9_wakes.f k).bind fun t735 => (some t735)) else (none)))) = some r := H
  have A314 := am_ A3140
  clear A3140
  by_cases c315 : t727 = true
  ·subst c315
   have H1 : (none) = some r := by rw [if_pos rfl] at H; exact H
   clear H
   have H := H1
   clear H1
   exact absurd H (by simp)
  replace c315 := Bool.eq_false_iff.mpr c315
  subst c315
  have H1 : ((gangwaylaw9_num.f t477).bind fun t734 => (if t734 = 51 then ((gangwaylaw9_wakes.f k).bind fun t735 => (some t735)) else (none))) = some r := by rw [if_neg (show ¬ (false = true) by decide)] at H; exact H
  clear H
  have H := H1
  clear H1
  replace H := bm_ H
  obtain ⟨t734, A3160, H⟩ := H
  replace H : (if t734 = 51 then ((gangwaylaw9_wakes.f k).bind fun t735 => (some t735)) else (none)) = some r := H
  have A316 := am_ A3160
  clear A3160
  by_cases c317 : t734 = 51
  rotate_left
  ·rw [if_neg c317] at H
   exact absurd H (by simp)
  rw [if_pos c317] at H
  have c317b0 : (t734 == 51) = true := beq_iff_eq.mpr c317
  have c317b1 : (t734 != 51) = false := bne_eq_false_iff_eq.mpr c317
  clear c317
  replace H := bm_ H
  obtain ⟨t735, A3180, H⟩ := H
  replace H : (some t735) = some r := H
  have A318 := am_ A3180
  clear A3180
  obtain rfl := Option.some.inj H
  go_enter Try.func5, Try.ntmps5
  go_wp2_with (first | ((with_reducible refine gate_dst (N := 1) rfl ?_); refine box_event ?hg (N := 1) ?hd (cs := #[.int .i64 a0_0, .int .i64 a0_1, .int .i64 a0_2, .slice A0_3 l0_3.length c0_3]) (t := 26) ?hr ?_; (case hd => rfl); (case hg => rfl); (case hr => first | (go_simp; done) | (go_simp; rfl)); intro gb469 hg w319 hbox hb; have n0_ := am_ (below_step aa_8 hb); have n1_ := am_ (hbox); have n2_ := am_ ((by rw [hg]; exact (below_size aa_8) : w.heap.size ≤ gb469)); have n3_ := am_ ((by rw [hg]; exact (below_size aa_8) : w.heap.size ≤ gb469)); clear HB; have HB := n0_; have BK469 := n1_; have GW469 := n2_; have GE469 := n3_; clear n0_ n1_ n2_ n3_; clear hb hbox hg) | ((with_reducible refine gate_dst (N := 26) rfl ?_); refine Go.Proofs.YtjmajhalgdeicaaO.load_whole ?hg (N := 26) ?hd 26 (x := ?xo26_) ?ho (g := gb469) ?hx (cs := #[.int .i64 a0_0, .int .i64 a0_1, .int .i64 a0_2, .slice A0_3 l0_3.length c0_3]) BK469.out Try.underlying26 (by kernel_rfl) ?_; (case hd => rfl); (case hg => rfl); (case ho => rfl); (case hx => rfl)) | ((with_reducible refine gate_callee (f := 16) rfl ?_); refine goesL_ (some 27) rfl rfl Try.func16 (by kernel_rfl) rfl #[.agg #[.int .i64 a0_0, .int .i64 a0_1, .int .i64 a0_2, .slice A0_3 l0_3.length c0_3]] rfl aa_0 ?_; (with_reducible refine (gangwaylaw9_heavy.calls k a0_0 a0_1 a0_2 _ _ l0_3 false _ ?side1 ?side2 A2.out).mono ?_); (case side1 => exact aa_21); (case side2 => exact HC0_3.out); rintro e w320 ⟨rfl, hb⟩; refine ⟨_, rfl, ?_⟩; have n0_ := am_ (bbelow BK469 aa_1 hb); have n1_ := am_ (below_step aa_3 hb); clear BK469; clear HB; have BK469 := n0_; have HB := n1_; clear n0_ n1_; (try clear hb); (try clear hb2); (try clear hk); (try clear hi); have hcz321_0 : w320.cell? ⟨gb469, 0, none⟩ = some (.int .i64 a0_0) := (bc BK469 0); have hcz321_1 : w320.cell? ⟨gb469, 1, none⟩ = some (.int .i64 a0_1) := (bc BK469 1); have hcz321_2 : w320.cell? ⟨gb469, 2, none⟩ = some (.int .i64 a0_2) := (bc BK469 2); have hcz321_3 : w320.cell? ⟨gb469, 3, none⟩ = some (.slice A0_3 l0_3.length c0_3) := (bc BK469 3)) | ((with_reducible refine gate_callee (f := 7) rfl ?_); refine goesL_ (some 33) rfl rfl Try.func7 (by kernel_rfl) rfl #[.agg #[.int .i64 a0_0, .int .i64 a0_1], .int .i64 a0_2] rfl aa_0 ?_; (with_reducible refine (mem_New.calls k a0_0 a0_1 a0_2 false t472 t475 t477 _ A6.out).mono ?_); rintro e w322 ⟨v473, pz476, rfl, ho0, hz476, hb⟩; refine ⟨_, rfl, ?_⟩; have n0_ := am_ (Kd.R_lower ho0 (below_size aa_3)); have n1_ := am_ (bbelow BK469 aa_1 hb); have n2_ := am_ ((show (false = true → ∃ g_ : Nat, pz476 = .pointer (some ⟨g_, 0, none⟩) ∧ IsS61 w w322 g_ v473 t475 ∧ gb469 ≠ g_) ∧ (false = false → pz476 = .pointer none) from ⟨fun h_ => (hz476.1 h_).elim fun g_ hg_ => ⟨g_, hg_.1, hg_.2.lower ((below_size aa_3)), Nat.ne_of_lt (Nat.lt_of_lt_of_le (blk_lt (g := gb469) (o := .cells #[.int .i64 a0_0, .int .i64 a0_1, .int .i64 a0_2, .slice A0_3 l0_3.length c0_3] 26 (0, 0)) aa_1) hg_.2.ge)⟩, hz476.2⟩)); have n3_ := am_ (below_step aa_3 hb); clear BK469; clear HB; have HO474 := n0_; have BK469 := n1_; have HZ476 := n2_; have HB := n3_; clear n0_ n1_ n2_ n3_; (try clear hb); (try clear hb2); (try clear hk); (try clear hi); (try clear ho0); have e_ := HZ476.out.2 rfl; subst e_; clear HZ476; have hcz323_0 : w322.cell? ⟨gb469, 0, none⟩ = some (.int .i64 a0_0) := (bc BK469 0); have hcz323_1 : w322.cell? ⟨gb469, 1, none⟩ = some (.int .i64 a0_1) := (bc BK469 1); have hcz323_2 : w322.cell? ⟨gb469, 2, none⟩ = some (.int .i64 a0_2) := (bc BK469 2); have hcz323_3 : w322.cell? ⟨gb469, 3, none⟩ = some (.slice A0_3 l0_3.length c0_3) := (bc BK469 3)) | ((with_reducible refine gate_callee (f := 17) rfl ?_); refine goesL_ (some 40) rfl rfl Try.func17 (by kernel_rfl) rfl #[.agg #[.int .i64 a0_0, .int .i64 a0_1], .int .i64 a0_2] rfl aa_0 ?_; (with_reducible refine (gangwayref9_MayMem.calls a0_0 a0_1 a0_2 true _ A312.out).mono ?_); rintro e w324 ⟨rfl, hb⟩; refine ⟨_, rfl, ?_⟩; have n0_ := am_ (Kd.R_below aa_10 hb); have n1_ := am_ (bbelow BK469 aa_1 hb); have n2_ := am_ (below_step aa_3 hb); clear HO474; clear BK469; clear HB; have HO474 := n0_; have BK469 := n1_; have HB := n2_; clear n0_ n1_ n2_; (try clear hb); (try clear hb2); (try clear hk); (try clear hi); have hcz325_0 : w324.cell? ⟨gb469, 0, none⟩ = some (.int .i64 a0_0) := (bc BK469 0); have hcz325_1 : w324.cell? ⟨gb469, 1, none⟩ = some (.int .i64 a0_1) := (bc BK469 1); have hcz325_2 : w324.cell? ⟨gb469, 2, none⟩ = some (.int .i64 a0_2) := (bc BK469 2); have hcz325_3 : w324.cell? ⟨gb469, 3, none⟩ = some (.slice A0_3 l0_3.length c0_3) := (bc BK469 3)) | ((with_reducible refine gate_callee (f := 18) rfl ?_); refine goesL_ (some 56) rfl rfl Try.func18 (by kernel_rfl) rfl #[.agg #[.int .i64 a0_0, .int .i64 a0_1], .int .i64 a0_2] rfl aa_0 ?_; (with_reducible refine (gangwayref9_NewMem.calls a0_0 a0_1 a0_2 false t728 t731 _ A314.out).mono ?_); rintro e w326 ⟨v729, pz732, rfl, ho0, hz732, hb⟩; refine ⟨_, rfl, ?_⟩; have n0_ := am_ (Kd.R_elder' aa_10 (Kd.R_base ho0) hb); have n1_ := am_ (Kd.R_lower (Kd.R_new' ho0 (Kd.R_lt aa_10)) (below_size aa_3)); have n2_ := am_ (bbelow BK469 aa_1 hb); have n3_ := am_ ((show (false = true → ∃ g_ : Nat, pz732 = .pointer (some ⟨g_, 0, none⟩) ∧ IsS54 w w326 g_ v729 t731 ∧ gb469 ≠ g_) ∧ (false = false → pz732 = .pointer none) from ⟨fun h_ => (hz732.1 h_).elim fun g_ hg_ => ⟨g_, hg_.1, hg_.2.lower ((below_size aa_3)), Nat.ne_of_lt (Nat.lt_of_lt_of_le (blk_lt (g := gb469) (o := .cells #[.int .i64 a0_0, .int .i64 a0_1, .int .i64 a0_2, .slice A0_3 l0_3.length c0_3] 26 (0, 0)) aa_1) hg_.2.ge)⟩, hz732.2⟩)); have n4_ := am_ (below_step aa_3 hb); clear HO474; clear BK469; clear HB; have HO474 := n0_; have HO730 := n1_; have BK469 := n2_; have HZ732 := n3_; have HB := n4_; clear n0_ n1_ n2_ n3_ n4_; (try clear hb); (try clear hb2); (try clear hk); (try clear hi); (try clear ho0); have e_ := HZ732.out.2 rfl; subst e_; clear HZ732) | ((with_reducible refine gate_callee (f := 8) rfl ?_); refine goesL_ (some 60) rfl rfl Try.func8 (by kernel_rfl) rfl #[.int .i64 t477] rfl aa_0 ?_; (with_reducible refine (gangwaylaw9_num.calls t477 t734 _ A316.out).mono ?_); rintro e w' ⟨rfl, ⟨nd, rfl⟩⟩; refine ⟨_, rfl, ?_⟩) | (go_at_call 13; (with_reducible refine (gangwaylaw9_wakes.calls k  t735 _ A318.out).mono ?_); rintro e w327 ⟨rfl, hb⟩; have n0_ := am_ (Kd.R_below aa_10 hb); have n1_ := am_ (Kd.R_below (by (with_reducible repeat (first | apply Kd.R_alloc | apply Kd.R_drewN | apply Kd.R_drew)); exact HO730.out) hb); have n2_ := am_ (bbelow BK469 aa_1 hb); have n3_ := am_ (below_step aa_3 hb); clear HO474; clear HO730; clear BK469; clear HB; have HO474 := n0_; have HO730 := n1_; have BK469 := n2_; have HB := n3_; clear n0_ n1_ n2_ n3_; (try clear hb); (try clear hb2); (try clear hk); (try clear hi)))
  go_ret
  exact ⟨by first | rfl | (simp [errW_none, errW_some] <;> rfl) | (simp [*, errW_none, errW_some] <;> rfl), by repeat (first | (with_reducible first | exact HB.out | apply below_alloc | apply pw_below_drewN | apply below_drew1 | refine below_set ?_ GE469.out) | exact HB.out)⟩
 as_aux_lemma =>
 subst c7
 have H1 : ((gangwayref9_MayMem.f a0_0 a0_1 a0_2).bind fun t478 => (if t478 = true then ((gangwayref9_NewMem.f a0_0 a0_1 a0_2).bind fun bt480 => (if bt480.1 = true then ((gangwaylaw9_num.f t477).bind fun t486 => (if t486 = 0 then (gangwaylaw9_MemExact.l0 k 0 a0_0 a0_1 a0_2 l0_3 t472 t475 bt480.2.1 bt480.2.2) else (none))) else (none))) else (none))) = some r := by rw [if_pos rfl] at H; exact H
 clear H
 have H := H1
 clear H1
 replace H := bm_ H
 obtain ⟨t478, A80, H⟩ := H
 replace H : (if t478 = true then ((gangwayref9_NewMem.f a0_0 a0_1 a0_2).bind fun bt480 => (if bt480.1 = true then ((gangwaylaw9_num.f t477).bind fun t486 => (if t486 = 0 then (gangwaylaw9_MemExact.l0 k 0 a0_0 a0_1 a0_2 l0_3 t472 t475 bt480.2.1 bt480.2.2) else (none))) else (none))) else (none)) = some r := H
 have A8 := am_ A80
 clear A80
 by_cases c9 : t478 = true
 rotate_left
 ·replace c9 := Bool.eq_false_iff.mpr c9
  subst c9
  have H1 : (none) = some r := by rw [if_neg (show ¬ (false = true) by decide)] at H; exact H
  clear H
  have H := H1
  clear H1
  exact absurd H (by simp)
 as_aux_lemma =>
 subst c9
 have H1 : ((gangwayref9_NewMem.f a0_0 a0_1 a0_2).bind fun bt480 => (if bt480.1 = true then ((gangwaylaw9_num.f t477).bind fun t486 => (if t486 = 0 then (gangwaylaw9_MemExact.l0 k 0 a0_0 a0_1 a0_2 l0_3 t472 t475 bt480.2.1 bt480.2.2) else (none))) else (none))) = some r := by rw [if_pos rfl] at H; exact H
 clear H
 have H := H1
 clear H1
 replace H := bm_ H
 obtain ⟨⟨t480, t481, t484⟩, A100, H⟩ := H
 replace H : (if t480 = true then ((gangwaylaw9_num.f t477).bind fun t486 => (if t486 = 0 then (gangwaylaw9_MemExact.l0 k 0 a0_0 a0_1 a0_2 l0_3 t472 t475 t481 t484) else (none))) else (none)) = some r := H
 have A10 := am_ A100
 clear A100
 by_cases c11 : t480 = true
 rotate_left
 ·replace c11 := Bool.eq_false_iff.mpr c11
  subst c11
  have H1 : (none) = some r := by rw [if_neg (show ¬ (false = true) by decide)] at H; exact H
  clear H
  have H := H1
  clear H1
  exact absurd H (by simp)
 as_aux_lemma =>
 subst c11
 have H1 : ((gangwaylaw9_num.f t477).bind fun t486 => (if t486 = 0 then (gangwaylaw9_MemExact.l0 k 0 a0_0 a0_1 a0_2 l0_3 t472 t475 t481 t484) else (none))) = some r := by rw [if_pos rfl] at H; exact H
 clear H
 have H := H1
 clear H1
 replace H := bm_ H
 obtain ⟨t486, A120, H⟩ := H
 replace H : (if t486 = 0 then (gangwaylaw9_MemExact.l0 k 0 a0_0 a0_1 a0_2 l0_3 t472 t475 t481 t484) else (none)) = some r := H
 have A12 := am_ A120
 clear A120
 by_cases c13 : t486 = 0
 rotate_left
 ·rw [if_neg c13] at H
  exact absurd H (by simp)
 as_aux_lemma =>
 rw [if_pos c13] at H
 have c13b0 : (t486 == 0) = true := beq_iff_eq.mpr c13
 have c13b1 : (t486 != 0) = false := bne_eq_false_iff_eq.mpr c13
 clear c13
 have H' := am_ H
 clear H
 go_enter Try.func5, Try.ntmps5
 go_wp2_with (first | ((with_reducible refine gate_dst (N := 1) rfl ?_); refine box_event ?hg (N := 1) ?hd (cs := #[.int .i64 a0_0, .int .i64 a0_1, .int .i64 a0_2, .slice A0_3 l0_3.length c0_3]) (t := 26) ?hr ?_; (case hd => rfl); (case hg => rfl); (case hr => first | (go_simp; done) | (go_simp; rfl)); intro gb469 hg w14 hbox hb; have n0_ := am_ (below_step aa_8 hb); have n1_ := am_ (hbox); have n2_ := am_ ((by rw [hg]; exact (below_size aa_8) : w.heap.size ≤ gb469)); have n3_ := am_ ((by rw [hg]; exact (below_size aa_8) : w.heap.size ≤ gb469)); clear HB; have HB := n0_; have BK469 := n1_; have GW469 := n2_; have GE469 := n3_; clear n0_ n1_ n2_ n3_; clear hb hbox hg) | ((with_reducible refine gate_dst (N := 26) rfl ?_); refine Go.Proofs.YtjmajhalgdeicaaO.load_whole ?hg (N := 26) ?hd 26 (x := ?xo26_) ?ho (g := gb469) ?hx (cs := #[.int .i64 a0_0, .int .i64 a0_1, .int .i64 a0_2, .slice A0_3 l0_3.length c0_3]) BK469.out Try.underlying26 (by kernel_rfl) ?_; (case hd => rfl); (case hg => rfl); (case ho => rfl); (case hx => rfl)) | ((with_reducible refine gate_callee (f := 16) rfl ?_); refine goesL_ (some 27) rfl rfl Try.func16 (by kernel_rfl) rfl #[.agg #[.int .i64 a0_0, .int .i64 a0_1, .int .i64 a0_2, .slice A0_3 l0_3.length c0_3]] rfl aa_0 ?_; (with_reducible refine (gangwaylaw9_heavy.calls k a0_0 a0_1 a0_2 _ _ l0_3 false _ ?side1 ?side2 A2.out).mono ?_); (case side1 => exact aa_21); (case side2 => exact HC0_3.out); rintro e w15 ⟨rfl, hb⟩; refine ⟨_, rfl, ?_⟩; have n0_ := am_ (bbelow BK469 aa_1 hb); have n1_ := am_ (below_step aa_3 hb); clear BK469; clear HB; have BK469 := n0_; have HB := n1_; clear n0_ n1_; (try clear hb); (try clear hb2); (try clear hk); (try clear hi); have hcz16_0 : w15.cell? ⟨gb469, 0, none⟩ = some (.int .i64 a0_0) := (bc BK469 0); have hcz16_1 : w15.cell? ⟨gb469, 1, none⟩ = some (.int .i64 a0_1) := (bc BK469 1); have hcz16_2 : w15.cell? ⟨gb469, 2, none⟩ = some (.int .i64 a0_2) := (bc BK469 2); have hcz16_3 : w15.cell? ⟨gb469, 3, none⟩ = some (.slice A0_3 l0_3.length c0_3) := (bc BK469 3)) | ((with_reducible refine gate_callee (f := 7) rfl ?_); refine goesL_ (some 33) rfl rfl Try.func7 (by kernel_rfl) rfl #[.agg #[.int .i64 a0_0, .int .i64 a0_1], .int .i64 a0_2] rfl aa_0 ?_; (with_reducible refine (mem_New.calls k a0_0 a0_1 a0_2 true t472 t475 t477 _ A6.out).mono ?_); rintro e w17 ⟨v473, pz476, rfl, ho0, hz476, hb⟩; refine ⟨_, rfl, ?_⟩; have n0_ := am_ (Kd.R_lower ho0 (below_size aa_3)); have n1_ := am_ (bbelow BK469 aa_1 hb); have n2_ := am_ ((show (true = true → ∃ g_ : Nat, pz476 = .pointer (some ⟨g_, 0, none⟩) ∧ IsS61 w w17 g_ v473 t475 ∧ gb469 ≠ g_) ∧ (true = false → pz476 = .pointer none) from ⟨fun h_ => (hz476.1 h_).elim fun g_ hg_ => ⟨g_, hg_.1, hg_.2.lower ((below_size aa_3)), Nat.ne_of_lt (Nat.lt_of_lt_of_le (blk_lt (g := gb469) (o := .cells #[.int .i64 a0_0, .int .i64 a0_1, .int .i64 a0_2, .slice A0_3 l0_3.length c0_3] 26 (0, 0)) aa_1) hg_.2.ge)⟩, hz476.2⟩)); have n3_ := am_ (below_step aa_3 hb); clear BK469; clear HB; have HO474 := n0_; have BK469 := n1_; have HZ476 := n2_; have HB := n3_; clear n0_ n1_ n2_ n3_; (try clear hb); (try clear hb2); (try clear hk); (try clear hi); (try clear ho0); obtain ⟨g476, e_, hi_, hn0_⟩ := HZ476.out.1 rfl; subst e_; have HI476 := am_ hi_; clear hi_ HZ476; have NB469_476 := am_ hn0_; have NB476_469 := am_ (Ne.symm hn0_); clear hn0_; have hnb18 := NB469_476.out; have hnc18 := NB476_469.out; have hcz19_0 : w17.cell? ⟨gb469, 0, none⟩ = some (.int .i64 a0_0) := (bc BK469 0); have hcz19_1 : w17.cell? ⟨gb469, 1, none⟩ = some (.int .i64 a0_1) := (bc BK469 1); have hcz19_2 : w17.cell? ⟨gb469, 2, none⟩ = some (.int .i64 a0_2) := (bc BK469 2); have hcz19_3 : w17.cell? ⟨gb469, 3, none⟩ = some (.slice A0_3 l0_3.length c0_3) := (bc BK469 3)) | ((with_reducible refine gate_callee (f := 17) rfl ?_); refine goesL_ (some 40) rfl rfl Try.func17 (by kernel_rfl) rfl #[.agg #[.int .i64 a0_0, .int .i64 a0_1], .int .i64 a0_2] rfl aa_0 ?_; (with_reducible refine (gangwayref9_MayMem.calls a0_0 a0_1 a0_2 true _ A8.out).mono ?_); rintro e w20 ⟨rfl, hb⟩; refine ⟨_, rfl, ?_⟩; have n0_ := am_ (Kd.R_below aa_10 hb); have n1_ := am_ (bbelow BK469 aa_1 hb); have n2_ := am_ (IsS61.below aa_13 hb); have n3_ := am_ (below_step aa_14 hb); clear HO474; clear BK469; clear HI476; clear HB; have HO474 := n0_; have BK469 := n1_; have HI476 := n2_; have HB := n3_; clear n0_ n1_ n2_ n3_; (try clear hb); (try clear hb2); (try clear hk); (try clear hi); have hcz21_0 : w20.cell? ⟨gb469, 0, none⟩ = some (.int .i64 a0_0) := (bc BK469 0); have hcz21_1 : w20.cell? ⟨gb469, 1, none⟩ = some (.int .i64 a0_1) := (bc BK469 1); have hcz21_2 : w20.cell? ⟨gb469, 2, none⟩ = some (.int .i64 a0_2) := (bc BK469 2); have hcz21_3 : w20.cell? ⟨gb469, 3, none⟩ = some (.slice A0_3 l0_3.length c0_3) := (bc BK469 3)) | ((with_reducible refine gate_callee (f := 18) rfl ?_); refine goesL_ (some 56) rfl rfl Try.func18 (by kernel_rfl) rfl #[.agg #[.int .i64 a0_0, .int .i64 a0_1], .int .i64 a0_2] rfl aa_0 ?_; (with_reducible refine (gangwayref9_NewMem.calls a0_0 a0_1 a0_2 true t481 t484 _ A10.out).mono ?_); rintro e w22 ⟨v482, pz485, rfl, ho0, hz485, hb⟩; refine ⟨_, rfl, ?_⟩; have n0_ := am_ (Kd.R_elder' aa_10 (Kd.R_base ho0) hb); have n1_ := am_ (Kd.R_lower (Kd.R_new' ho0 (Kd.R_lt aa_10)) (below_size aa_14)); have n2_ := am_ (bbelow BK469 aa_1 hb); have n3_ := am_ (IsS61.below aa_13 hb); have n4_ := am_ ((show (true = true → ∃ g_ : Nat, pz485 = .pointer (some ⟨g_, 0, none⟩) ∧ IsS54 w w22 g_ v482 t484 ∧ g476 ≠ g_ ∧ gb469 ≠ g_) ∧ (true = false → pz485 = .pointer none) from ⟨fun h_ => (hz485.1 h_).elim fun g_ hg_ => ⟨g_, hg_.1, hg_.2.lower ((below_size aa_14)), Nat.ne_of_lt (Nat.lt_of_lt_of_le (IsS61.lt (show IsS61 w _ g476 v473 t475 from by repeat (first | (with_reducible first | exact HI476.out | apply IsS61.alloc | apply IsS61.drewN | apply IsS61.drew | apply IsS61.set_0 | apply IsS61.set_1 | refine IsS61.far ?_ NB476_469.out _) | exact HI476.out))) hg_.2.ge), Nat.ne_of_lt (Nat.lt_of_lt_of_le (blk_lt (g := gb469) (o := .cells #[.int .i64 a0_0, .int .i64 a0_1, .int .i64 a0_2, .slice A0_3 l0_3.length c0_3] 26 (0, 0)) aa_1) hg_.2.ge)⟩, hz485.2⟩)); have n5_ := am_ (below_step aa_14 hb); clear HO474; clear BK469; clear HI476; clear HB; have HO474 := n0_; have HO483 := n1_; have BK469 := n2_; have HI476 := n3_; have HZ485 := n4_; have HB := n5_; clear n0_ n1_ n2_ n3_ n4_ n5_; (try clear hb); (try clear hb2); (try clear hk); (try clear hi); (try clear ho0); obtain ⟨g485, e_, hi_, hn0_, hn1_⟩ := HZ485.out.1 rfl; subst e_; have HI485 := am_ hi_; clear hi_ HZ485; have NB476_485 := am_ hn0_; have NB485_476 := am_ (Ne.symm hn0_); clear hn0_; have NB469_485 := am_ hn1_; have NB485_469 := am_ (Ne.symm hn1_); clear hn1_) | ((with_reducible refine gate_callee (f := 8) rfl ?_); refine goesL_ (some 70) rfl rfl Try.func8 (by kernel_rfl) rfl #[.int .i64 t477] rfl aa_0 ?_; (with_reducible refine (gangwaylaw9_num.calls t477 t486 _ A12.out).mono ?_); rintro e w' ⟨rfl, ⟨nd, rfl⟩⟩; refine ⟨_, rfl, ?_⟩))
 go_loopg [6] k (fun kq v6 w' => ∃ (x6_1 : Int) (x4z_1 : List Int) (x5z_1 : Int) (x6z_1 : List Int) (x7z_1 : Int) (u4z : Value) (u6z : Value), v6 = .int .i64 x6_1 ∧ Aside0 (gangwaylaw9_MemExact.l0 kq x6_1 a0_0 a0_1 a0_2 l0_3 x4z_1 x5z_1 x6z_1 x7z_1 = some r) ∧ Aside0 (kq ≤ k) ∧ Aside0 (Kd.R (Kd.int .u8) 5 w' w.heap.size (fun k_ => some k_ ≠ (u6z : Value).ownBlock) u4z x4z_1) ∧ Aside0 (Kd.R (Kd.int .u8) 5 w' w.heap.size (fun k_ => some k_ ≠ (u4z : Value).ownBlock) u6z x6z_1) ∧ Aside0 (w'.heap[gb469]? = some (.cells #[.int .i64 a0_0, .int .i64 a0_1, .int .i64 a0_2, (.slice A0_3 l0_3.length c0_3)] 26 (0, 0))) ∧ Aside0 (IsS61 w w' g476 u4z x5z_1) ∧ Aside0 (IsS54 w w' g485 u6z x7z_1) ∧ Aside0 (Below w.heap.size w w'))
 case atStart => exact ⟨(0), (t472), (t475), (t481), (t484), (v473), (v482), aa_6, H', ⟨Nat.le_refl _⟩, ⟨by (with_reducible repeat (first | apply Kd.R_alloc | apply Kd.R_drewN | apply Kd.R_drew)); exact Kd.R_mono HO474.out (fun _ hk => hk.2)⟩, ⟨by (with_reducible repeat (first | apply Kd.R_alloc | apply Kd.R_drewN | apply Kd.R_drew)); exact Kd.R_mono HO483.out (fun _ hk => hk.2)⟩, ⟨aa_1⟩, ⟨aa_13⟩, ⟨aa_15⟩, ⟨aa_11⟩⟩
 case round =>
 as_aux_lemma =>
 clear H'
 try clear c3
 try clear c7
 try clear c9
 try clear c11
 try clear c13b0
 try clear c13b1
 try clear hcz16_0
 try clear hcz16_1
 try clear hcz16_2
 try clear hcz16_3
 try clear hcz19_0
 try clear hcz19_1
 try clear hcz19_2
 try clear hcz19_3
 try clear hcz21_0
 try clear hcz21_1
 try clear hcz21_2
 try clear hcz21_3
 obtain ⟨x6_1, x4z_1, x5z_1, x6z_1, x7z_1, u4z, u6z, rfl, HA, HK1, HO_4z, HO_6z, BK469, HI476, HI485, HB⟩ := hrel
 cases gk with
 | zero => exact absurd HA.out (by simp [gangwaylaw9_MemExact.l0])
 | succ k1 =>
 have H := HA.out
 clear HA
 simp only [gangwaylaw9_MemExact.l0] at H
 have HC23 := am_ H
 clear H
 go_upto_region 12 with (fail)
 go_cut [84] (fun v84 wc => ∃ (kq : Nat) (x84_22 : Bool), v84 = .bool x84_22 ∧ Aside0 (j1 kq x6_1 x84_22 a0_0 a0_1 a0_2 l0_3 x4z_1 x5z_1 x6z_1 x7z_1 = some r) ∧ Aside0 (kq ≤ k1) ∧ Aside0 (Kd.R (Kd.int .u8) 5 wc w.heap.size (fun k_ => some k_ ≠ (u6z : Value).ownBlock) u4z x4z_1) ∧ Aside0 (Kd.R (Kd.int .u8) 5 wc w.heap.size (fun k_ => some k_ ≠ (u4z : Value).ownBlock) u6z x6z_1) ∧ Aside0 (wc.heap[gb469]? = some (.cells #[.int .i64 a0_0, .int .i64 a0_1, .int .i64 a0_2, (.slice A0_3 l0_3.length c0_3)] 26 (0, 0))) ∧ Aside0 (IsS61 w wc g476 u4z x5z_1) ∧ Aside0 (IsS54 w wc g485 u6z x7z_1) ∧ Aside0 (Below w.heap.size w wc))
 case first =>
  as_aux_lemma =>
  have H := HC23.out
  clear HC23
  by_cases c24 : x6_1 < (l0_3.length : Int)
  ·rw [if_pos c24] at H
   have c24b0 : decide (x6_1 < (l0_3.length : Int)) = true := decide_eq_true c24
   clear c24
   (first | rw [c24b0] | (simp only [i64_w, i32_w]; rw [c24b0]) | skip)
   have H' := am_ H
   clear H
   have hnb25 := NB469_476.out
   have hnc25 := NB476_469.out
   have hnb26 := NB469_485.out
   have hnc26 := NB485_469.out
   have hcz27_0 : wr.cell? ⟨gb469, 0, none⟩ = some (.int .i64 a0_0) := bc BK469 0
   have hcz27_1 : wr.cell? ⟨gb469, 1, none⟩ = some (.int .i64 a0_1) := bc BK469 1
   have hcz27_2 : wr.cell? ⟨gb469, 2, none⟩ = some (.int .i64 a0_2) := bc BK469 2
   have hcz27_3 : wr.cell? ⟨gb469, 3, none⟩ = some (.slice A0_3 l0_3.length c0_3) := bc BK469 3
   go_wp2
   go_meet
   case rel => exact ⟨_, (decide (x6_1 < 30)), aa_6, H', ⟨by have := HK1.out; first | omega | exact Nat.le_refl _⟩, ⟨aa_9⟩, ⟨aa_7⟩, ⟨aa_1⟩, ⟨aa_13⟩, ⟨aa_15⟩, ⟨aa_11⟩⟩
  rw [if_neg c24] at H
  have c24b0 : decide (x6_1 < (l0_3.length : Int)) = false := decide_eq_false c24
  clear c24
  (first | rw [c24b0] | (simp only [i64_w, i32_w]; rw [c24b0]) | skip)
  have H' := am_ H
  clear H
  have hnb28 := NB469_476.out
  have hnc28 := NB476_469.out
  have hnb29 := NB469_485.out
  have hnc29 := NB485_469.out
  have hcz30_0 : wr.cell? ⟨gb469, 0, none⟩ = some (.int .i64 a0_0) := bc BK469 0
  have hcz30_1 : wr.cell? ⟨gb469, 1, none⟩ = some (.int .i64 a0_1) := bc BK469 1
  have hcz30_2 : wr.cell? ⟨gb469, 2, none⟩ = some (.int .i64 a0_2) := bc BK469 2
  have hcz30_3 : wr.cell? ⟨gb469, 3, none⟩ = some (.slice A0_3 l0_3.length c0_3) := bc BK469 3
  go_wp2
  go_meet
  case rel => exact ⟨_, (false), aa_6, H', ⟨by have := HK1.out; first | omega | exact Nat.le_refl _⟩, ⟨aa_9⟩, ⟨aa_7⟩, ⟨aa_1⟩, ⟨aa_13⟩, ⟨aa_15⟩, ⟨aa_11⟩⟩
 case rest =>
 as_aux_lemma =>
 clear HC23
 obtain ⟨kq, x84_22, rfl, HA, HJ22, HO_4z, HO_6z, BK469, HI476, HI485, HB⟩ := hcut
 cases kq with
 | zero => exact absurd HA.out (by simp [j1])
 | succ kj22 =>
 have H := HA.out
 clear HA
 simp only [j1] at H
 by_cases c31 : x84_22 = true
 rotate_left
 ·as_aux_lemma =>
  replace c31 := Bool.eq_false_iff.mpr c31
  subst c31
  have H1 : ((mem_Memory_Read.f x4z_1 x5z_1 0 (x6z_1.length : Int)).bind fun bt712 => ((gangwaylaw9_num.f bt712.2.1).bind fun t720 => (if t720 = 0 then ((gangwayref0_EqBytes.f kj22 bt712.1 x6z_1).bind fun t721 => (if t721 = true then ((gangwaylaw9_wakes.f kj22).bind fun t722 => (some t722)) else (none))) else (none)))) = some r := by rw [if_neg (show ¬ (false = true) by decide)] at H; exact H
  clear H
  have H := H1
  clear H1
  replace H := bm_ H
  obtain ⟨⟨t712, t715, t716, t719⟩, A3000, H⟩ := H
  replace H : ((gangwaylaw9_num.f t715).bind fun t720 => (if t720 = 0 then ((gangwayref0_EqBytes.f kj22 t712 x6z_1).bind fun t721 => (if t721 = true then ((gangwaylaw9_wakes.f kj22).bind fun t722 => (some t722)) else (none))) else (none))) = some r := H
  have A300 := am_ A3000
  clear A3000
  replace H := bm_ H
  obtain ⟨t720, A3010, H⟩ := H
  replace H : (if t720 = 0 then ((gangwayref0_EqBytes.f kj22 t712 x6z_1).bind fun t721 => (if t721 = true then ((gangwaylaw9_wakes.f kj22).bind fun t722 => (some t722)) else (none))) else (none)) = some r := H
  have A301 := am_ A3010
  clear A3010
  by_cases c302 : t720 = 0
  rotate_left
  ·rw [if_neg c302] at H
   exact absurd H (by simp)
  as_aux_lemma =>
  rw [if_pos c302] at H
  have c302b0 : (t720 == 0) = true := beq_iff_eq.mpr c302
  have c302b1 : (t720 != 0) = false := bne_eq_false_iff_eq.mpr c302
  clear c302
  replace H := bm_ H
  obtain ⟨t721, A3030, H⟩ := H
  replace H : (if t721 = true then ((gangwaylaw9_wakes.f kj22).bind fun t722 => (some t722)) else (none)) = some r := H
  have A303 := am_ A3030
  clear A3030
  by_cases c304 : t721 = true
  rotate_left
  ·replace c304 := Bool.eq_false_iff.mpr c304
   subst c304
   have H1 : (none) = some r := by rw [if_neg (show ¬ (false = true) by decide)] at H; exact H
   clear H
   have H := H1
   clear H1
   exact absurd H (by simp)
  subst c304
  have H1 : ((gangwaylaw9_wakes.f kj22).bind fun t722 => (some t722)) = some r := by rw [if_pos rfl] at H; exact H
  clear H
  have H := H1
  clear H1
  replace H := bm_ H
  obtain ⟨t722, A3050, H⟩ := H
  replace H : (some t722) = some r := H
  have A305 := am_ A3050
  clear A3050
  obtain rfl := Option.some.inj H
  obtain ⟨HGz306, hgz306⟩ := HI485.out
  have hcz306_0 := cellS54_0 HGz306
  have hcz306_1 := cellS54_1 HGz306
  have hfz306_0 := blk_frozen HGz306 0
  have hfz306_1 := blk_frozen HGz306 1
  clear HGz306 hgz306
  obtain ⟨Ao307, co307, eo307⟩ := Kd.R_slice HO_6z.out
  subst eo307
  go_wp2_with (first | ((with_reducible refine gate_callee (f := 14) rfl ?_); refine goesL_ (some 320) rfl rfl Try.func14 (by kernel_rfl) rfl #[.pointer (some ⟨g476, 0, none⟩), .int .i64 0, .int .i64 (x6z_1.length : Int)] rfl aa_0 ?_; (with_reducible refine (mem_Memory_Read.calls g476 (fun k_ => some k_ = (u4z : Value).ownBlock) u4z x4z_1 x5z_1 0 (x6z_1.length : Int) t712 t715 t716 t719 w _ ?side1 ?side2 ?side3 A300.out).mono ?_); (case side1 => exact aa_13); (case side2 => exact aa_11); (case side3 => exact Kd.R_tight rfl HO_4z.out); rintro e w308 ⟨v713, v717, rfl, ho0, ho1, hi, hb, hkp⟩; refine ⟨_, rfl, ?_⟩; have n0_ := am_ (Kd.R_mono (ok' := fun k_ => some k_ ≠ (v713 : Value).ownBlock ∧ some k_ ≠ (v717 : Value).ownBlock) (Kd.R_keptB ((IsS61.apart HI476.out HO_6z.out (by decide))) hkp (fun k_ hk_ hs_ => Or.elim hs_ (fun hs_ => (hk_.1) hs_) (fun e_ => (hk_.2) e_))) (fun k_ hk_ => ⟨fun e_ => Or.elim (ho0.1 k_ e_.symm).1 (fun hs_ => hk_.2.1 (.inl hs_)) (fun hn_ => Nat.not_le.2 hk_.2.2 hn_), fun e_ => Or.elim (ho1.1 k_ e_.symm).1 (fun hs_ => hk_.2.1 (.inl hs_)) (fun hn_ => Nat.not_le.2 hk_.2.2 hn_)⟩)); have n1_ := am_ (bkept BK469 aa_1 hkp (fun hs_ => Or.elim hs_ (fun hs_ => (fun e_ => (Kd.R_ne HO_4z.out BK469.out (by decide)) e_) hs_) (fun e_ => NB469_476.out e_))); have n2_ := am_ (hi); have n3_ := am_ (IsS54.kept aa_15 hkp (fun hs_ => Or.elim hs_ (fun hs_ => (fun e_ => (IsS54.own_ne HI485.out HO_4z.out (by decide)) e_) hs_) (fun e_ => NB485_476.out e_))); have n4_ := am_ (Kd.R_mono (ok' := fun k_ => some k_ ≠ (v717 : Value).ownBlock ∧ some k_ ≠ (.slice Ao307 x6z_1.length co307 : Value).ownBlock) ho0 (fun k_ hk_ => ⟨hk_.2, Or.elim hk_.1 (fun hs_ => fun e_ => ((((IsS61.apart HI476.out HO_6z.out (by decide))).1 k_ e_.symm).1) hs_) (fun hn_ => (Kd.fresh' (Kd.R_lt aa_7) k_ hn_))⟩)); have n5_ := am_ (Kd.R_mono (ok' := fun k_ => some k_ ≠ (v713 : Value).ownBlock ∧ some k_ ≠ (.slice Ao307 x6z_1.length co307 : Value).ownBlock) ho1 (fun k_ hk_ => ⟨hk_.2, Or.elim hk_.1 (fun hs_ => fun e_ => ((((IsS61.apart HI476.out HO_6z.out (by decide))).1 k_ e_.symm).1) hs_) (fun hn_ => (Kd.fresh' (Kd.R_lt aa_7) k_ hn_))⟩)); have n6_ := am_ (hb); clear HO_6z; clear BK469; clear HI476; clear HI485; clear HB; clear HO_4z; have HO_6z := n0_; have BK469 := n1_; have HI476 := n2_; have HI485 := n3_; have HO714 := n4_; have HO718 := n5_; have HB := n6_; clear n0_ n1_ n2_ n3_ n4_ n5_ n6_; (try clear hb); (try clear hkp); (try clear ho0); (try clear ho1)) | ((with_reducible refine gate_callee (f := 8) rfl ?_); refine goesL_ (some 324) rfl rfl Try.func8 (by kernel_rfl) rfl #[.int .i64 t715] rfl aa_0 ?_; (with_reducible refine (gangwaylaw9_num.calls t715 t720 _ A301.out).mono ?_); rintro e w' ⟨rfl, ⟨nd, rfl⟩⟩; refine ⟨_, rfl, ?_⟩; obtain ⟨HGz309, hgz309⟩ := HI485.out; have hcz309_0 := cellS54_0 HGz309; have hcz309_1 := cellS54_1 HGz309; have hfz309_0 := blk_frozen HGz309 0; have hfz309_1 := blk_frozen HGz309 1; clear HGz309 hgz309; obtain ⟨Ao310, co310, eo310⟩ := Kd.R_slice HO714.out; subst eo310) | (go_at_call 22; (with_reducible refine (gangwayref0_EqBytes.calls kj22 _ _ t712 _ _ x6z_1 true _ ?side1 ?side2 ?side3 ?side4 A303.out).mono ?_); (case side1 => repeat (first | exact (Kd.R_reads' HO714.out).2.2 | (with_reducible refine Kd.C_alloc ?_ _) | (with_reducible refine Kd.C_drewN ?_ _) | (with_reducible refine Kd.C_drew ?_))); (case side2 => exact (Kd.R_reads' HO714.out).2.1); (case side3 => repeat (first | exact (Kd.R_reads' HO_6z.out).2.2 | (with_reducible refine Kd.C_alloc ?_ _) | (with_reducible refine Kd.C_drewN ?_ _) | (with_reducible refine Kd.C_drew ?_))); (case side4 => exact (Kd.R_reads' HO_6z.out).2.1); rintro e w' ⟨rfl, ⟨nd, rfl⟩⟩) | (go_at_call 13; (with_reducible refine (gangwaylaw9_wakes.calls kj22  t722 _ A305.out).mono ?_); rintro e w311 ⟨rfl, hb⟩; have n0_ := am_ (Kd.R_below aa_7 hb); have n1_ := am_ (Kd.R_below (by (with_reducible repeat (first | apply Kd.R_alloc | apply Kd.R_drewN | apply Kd.R_drew)); exact HO714.out) hb); have n2_ := am_ (Kd.R_below (by (with_reducible repeat (first | apply Kd.R_alloc | apply Kd.R_drewN | apply Kd.R_drew)); exact HO718.out) hb); have n3_ := am_ (bbelow BK469 aa_1 hb); have n4_ := am_ (IsS61.below aa_13 hb); have n5_ := am_ (IsS54.below aa_15 hb); have n6_ := am_ (below_step aa_11 hb); clear HO_6z; clear HO714; clear HO718; clear BK469; clear HI476; clear HI485; clear HB; have HO_6z := n0_; have HO714 := n1_; have HO718 := n2_; have BK469 := n3_; have HI476 := n4_; have HI485 := n5_; have HB := n6_; clear n0_ n1_ n2_ n3_ n4_ n5_ n6_; (try clear hb); (try clear hb2); (try clear hk); (try clear hi)))
  go_ret
  exact ⟨by first | rfl | (simp [errW_none, errW_some] <;> rfl) | (simp [*, errW_none, errW_some] <;> rfl), by repeat (first | (with_reducible first | exact HB.out | apply below_alloc | apply pw_below_drewN | apply below_drew1 | refine below_set ?_ (IsS61.ge HI476.out) | refine below_set ?_ (IsS54.ge HI485.out) | refine below_set ?_ GE469.out) | exact HB.out)⟩
 as_aux_lemma =>
 subst c31
 have H1 : (if 0 ≤ x6_1 then (if x6_1 < (l0_3.length : Int) then (if ((rd_T48 l0_3 x6_1).f3) = 1 then (if ((rd_T48 l0_3 x6_1).f1) ≥ 0 then (if ((rd_T48 l0_3 x6_1).f1) < 4294967296 then (if ((rd_T48 l0_3 x6_1).f2) ≥ 0 then (j2 kj22 x6_1 (decide (((rd_T48 l0_3 x6_1).f2) < 4294967296)) a0_0 a0_1 a0_2 l0_3 x4z_1 x5z_1 x6z_1 x7z_1 ((rd_T48 l0_3 x6_1).f0) ((rd_T48 l0_3 x6_1).f1) ((rd_T48 l0_3 x6_1).f2) ((rd_T48 l0_3 x6_1).f3) ((rd_T48 l0_3 x6_1).f4) ((rd_T48 l0_3 x6_1).f5)) else (j2 kj22 x6_1 false a0_0 a0_1 a0_2 l0_3 x4z_1 x5z_1 x6z_1 x7z_1 ((rd_T48 l0_3 x6_1).f0) ((rd_T48 l0_3 x6_1).f1) ((rd_T48 l0_3 x6_1).f2) ((rd_T48 l0_3 x6_1).f3) ((rd_T48 l0_3 x6_1).f4) ((rd_T48 l0_3 x6_1).f5))) else (j2 kj22 x6_1 false a0_0 a0_1 a0_2 l0_3 x4z_1 x5z_1 x6z_1 x7z_1 ((rd_T48 l0_3 x6_1).f0) ((rd_T48 l0_3 x6_1).f1) ((rd_T48 l0_3 x6_1).f2) ((rd_T48 l0_3 x6_1).f3) ((rd_T48 l0_3 x6_1).f4) ((rd_T48 l0_3 x6_1).f5))) else (j2 kj22 x6_1 false a0_0 a0_1 a0_2 l0_3 x4z_1 x5z_1 x6z_1 x7z_1 ((rd_T48 l0_3 x6_1).f0) ((rd_T48 l0_3 x6_1).f1) ((rd_T48 l0_3 x6_1).f2) ((rd_T48 l0_3 x6_1).f3) ((rd_T48 l0_3 x6_1).f4) ((rd_T48 l0_3 x6_1).f5))) else (if ((rd_T48 l0_3 x6_1).f3) = 2 then (if ((rd_T48 l0_3 x6_1).f1) ≥ 0 then (if ((rd_T48 l0_3 x6_1).f1) < 4294967296 then (if ((rd_T48 l0_3 x6_1).f2) ≥ 0 then (j2 kj22 x6_1 (decide (((rd_T48 l0_3 x6_1).f2) < 4294967296)) a0_0 a0_1 a0_2 l0_3 x4z_1 x5z_1 x6z_1 x7z_1 ((rd_T48 l0_3 x6_1).f0) ((rd_T48 l0_3 x6_1).f1) ((rd_T48 l0_3 x6_1).f2) ((rd_T48 l0_3 x6_1).f3) ((rd_T48 l0_3 x6_1).f4) ((rd_T48 l0_3 x6_1).f5)) else (j2 kj22 x6_1 false a0_0 a0_1 a0_2 l0_3 x4z_1 x5z_1 x6z_1 x7z_1 ((rd_T48 l0_3 x6_1).f0) ((rd_T48 l0_3 x6_1).f1) ((rd_T48 l0_3 x6_1).f2) ((rd_T48 l0_3 x6_1).f3) ((rd_T48 l0_3 x6_1).f4) ((rd_T48 l0_3 x6_1).f5))) else (j2 kj22 x6_1 false a0_0 a0_1 a0_2 l0_3 x4z_1 x5z_1 x6z_1 x7z_1 ((rd_T48 l0_3 x6_1).f0) ((rd_T48 l0_3 x6_1).f1) ((rd_T48 l0_3 x6_1).f2) ((rd_T48 l0_3 x6_1).f3) ((rd_T48 l0_3 x6_1).f4) ((rd_T48 l0_3 x6_1).f5))) else (j2 kj22 x6_1 false a0_0 a0_1 a0_2 l0_3 x4z_1 x5z_1 x6z_1 x7z_1 ((rd_T48 l0_3 x6_1).f0) ((rd_T48 l0_3 x6_1).f1) ((rd_T48 l0_3 x6_1).f2) ((rd_T48 l0_3 x6_1).f3) ((rd_T48 l0_3 x6_1).f4) ((rd_T48 l0_3 x6_1).f5))) else (if ((rd_T48 l0_3 x6_1).f3) = 4 then (if ((rd_T48 l0_3 x6_1).f1) ≥ 0 then (if ((rd_T48 l0_3 x6_1).f1) < 4294967296 then (if ((rd_T48 l0_3 x6_1).f2) ≥ 0 then (j2 kj22 x6_1 (decide (((rd_T48 l0_3 x6_1).f2) < 4294967296)) a0_0 a0_1 a0_2 l0_3 x4z_1 x5z_1 x6z_1 x7z_1 ((rd_T48 l0_3 x6_1).f0) ((rd_T48 l0_3 x6_1).f1) ((rd_T48 l0_3 x6_1).f2) ((rd_T48 l0_3 x6_1).f3) ((rd_T48 l0_3 x6_1).f4) ((rd_T48 l0_3 x6_1).f5)) else (j2 kj22 x6_1 false a0_0 a0_1 a0_2 l0_3 x4z_1 x5z_1 x6z_1 x7z_1 ((rd_T48 l0_3 x6_1).f0) ((rd_T48 l0_3 x6_1).f1) ((rd_T48 l0_3 x6_1).f2) ((rd_T48 l0_3 x6_1).f3) ((rd_T48 l0_3 x6_1).f4) ((rd_T48 l0_3 x6_1).f5))) else (j2 kj22 x6_1 false a0_0 a0_1 a0_2 l0_3 x4z_1 x5z_1 x6z_1 x7z_1 ((rd_T48 l0_3 x6_1).f0) ((rd_T48 l0_3 x6_1).f1) ((rd_T48 l0_3 x6_1).f2) ((rd_T48 l0_3 x6_1).f3) ((rd_T48 l0_3 x6_1).f4) ((rd_T48 l0_3 x6_1).f5))) else (j2 kj22 x6_1 false a0_0 a0_1 a0_2 l0_3 x4z_1 x5z_1 x6z_1 x7z_1 ((rd_T48 l0_3 x6_1).f0) ((rd_T48 l0_3 x6_1).f1) ((rd_T48 l0_3 x6_1).f2) ((rd_T48 l0_3 x6_1).f3) ((rd_T48 l0_3 x6_1).f4) ((rd_T48 l0_3 x6_1).f5))) else (if ((rd_T48 l0_3 x6_1).f3) = 8 then (if ((rd_T48 l0_3 x6_1).f1) ≥ 0 then (if ((rd_T48 l0_3 x6_1).f1) < 4294967296 then (if ((rd_T48 l0_3 x6_1).f2) ≥ 0 then (j2 kj22 x6_1 (decide (((rd_T48 l0_3 x6_1).f2) < 4294967296)) a0_0 a0_1 a0_2 l0_3 x4z_1 x5z_1 x6z_1 x7z_1 ((rd_T48 l0_3 x6_1).f0) ((rd_T48 l0_3 x6_1).f1) ((rd_T48 l0_3 x6_1).f2) ((rd_T48 l0_3 x6_1).f3) ((rd_T48 l0_3 x6_1).f4) ((rd_T48 l0_3 x6_1).f5)) else (j2 kj22 x6_1 false a0_0 a0_1 a0_2 l0_3 x4z_1 x5z_1 x6z_1 x7z_1 ((rd_T48 l0_3 x6_1).f0) ((rd_T48 l0_3 x6_1).f1) ((rd_T48 l0_3 x6_1).f2) ((rd_T48 l0_3 x6_1).f3) ((rd_T48 l0_3 x6_1).f4) ((rd_T48 l0_3 x6_1).f5))) else (j2 kj22 x6_1 false a0_0 a0_1 a0_2 l0_3 x4z_1 x5z_1 x6z_1 x7z_1 ((rd_T48 l0_3 x6_1).f0) ((rd_T48 l0_3 x6_1).f1) ((rd_T48 l0_3 x6_1).f2) ((rd_T48 l0_3 x6_1).f3) ((rd_T48 l0_3 x6_1).f4) ((rd_T48 l0_3 x6_1).f5))) else (j2 kj22 x6_1 false a0_0 a0_1 a0_2 l0_3 x4z_1 x5z_1 x6z_1 x7z_1 ((rd_T48 l0_3 x6_1).f0) ((rd_T48 l0_3 x6_1).f1) ((rd_T48 l0_3 x6_1).f2) ((rd_T48 l0_3 x6_1).f3) ((rd_T48 l0_3 x6_1).f4) ((rd_T48 l0_3 x6_1).f5))) else (j2 kj22 x6_1 false a0_0 a0_1 a0_2 l0_3 x4z_1 x5z_1 x6z_1 x7z_1 ((rd_T48 l0_3 x6_1).f0) ((rd_T48 l0_3 x6_1).f1) ((rd_T48 l0_3 x6_1).f2) ((rd_T48 l0_3 x6_1).f3) ((rd_T48 l0_3 x6_1).f4) ((rd_T48 l0_3 x6_1).f5)))))) else (none)) else (none)) = some r := by rw [if_pos rfl] at H; exact H
 clear H
 have H := H1
 clear H1
 by_cases c32 : 0 ≤ x6_1
 rotate_left
 ·rw [if_neg c32] at H
  exact absurd H (by simp)
 as_aux_lemma =>
 rw [if_pos c32] at H
 have c32b0 : decide (0 ≤ x6_1) = true := decide_eq_true c32
 clear c32
 by_cases c33 : x6_1 < (l0_3.length : Int)
 rotate_left
 ·rw [if_neg c33] at H
  exact absurd H (by simp)
 as_aux_lemma =>
 rw [if_pos c33] at H
 have c33b0 : decide (x6_1 < (l0_3.length : Int)) = true := decide_eq_true c33
 clear c33
 have HC34 := am_ H
 clear H
 have hnb35 := NB469_476.out
 have hnc35 := NB476_469.out
 have hnb36 := NB469_485.out
 have hnc36 := NB485_469.out
 have hcz37_0 : wc.cell? ⟨gb469, 0, none⟩ = some (.int .i64 a0_0) := bc BK469 0
 have hcz37_1 : wc.cell? ⟨gb469, 1, none⟩ = some (.int .i64 a0_1) := bc BK469 1
 have hcz37_2 : wc.cell? ⟨gb469, 2, none⟩ = some (.int .i64 a0_2) := bc BK469 2
 have hcz37_3 : wc.cell? ⟨gb469, 3, none⟩ = some (.slice A0_3 l0_3.length c0_3) := bc BK469 3
 have p605 : 0 ≤ (x6_1 : Int) := of_decide_eq_true aa_16
 have q605 : x6_1 < (l0_3.length : Int) := of_decide_eq_true aa_16
 obtain ⟨ad605, A605_5, c605_5, e605, hx605_0, hx605_1, hx605_2, hx605_3, hx605_4, hx605_5, hl605_5, hi605_5⟩ := at_T48 HR0_3.out x6_1 p605 q605
 cases e605
 replace hx605_0 := up HB hx605_0
 replace hx605_1 := up HB hx605_1
 replace hx605_2 := up HB hx605_2
 replace hx605_3 := up HB hx605_3
 replace hx605_4 := up HB hx605_4
 replace hx605_5 := up HB hx605_5
 have HR605_5 := am_ hi605_5
 have HC605_5 := am_ hl605_5
 clear hi605_5 hl605_5
 replace p605 := eq_true p605
 replace q605 := eq_true q605
 go_upto_region 15 with (first | ((with_reducible refine gate_dst (N := 91) rfl ?_); refine Go.Proofs.YtjmajhalgdeicaaO.load_cells ?hg (N := 91) ?hd 48 (x := ?xo91_) ?ho (ad := ?ad91_) ?hx [.int .i64 ((rd_T48 l0_3 x6_1).f0), .int .i64 ((rd_T48 l0_3 x6_1).f1), .int .i64 ((rd_T48 l0_3 x6_1).f2), .int .i64 ((rd_T48 l0_3 x6_1).f3), .int .u64 ((rd_T48 l0_3 x6_1).f4), .slice A605_5 ((rd_T48 l0_3 x6_1).f5).length c605_5] Try.underlying48 (by kernel_rfl) ?hc ?_; (case hd => rfl); (case hg => rfl); (case ho => rfl); (case hx => rfl); (case hc => exact ⟨hx605_0, hx605_1, hx605_2, hx605_3, hx605_4, hx605_5, trivial⟩)) | ((with_reducible refine gate_dst (N := 7) rfl ?_); refine box_event ?hg (N := 7) ?hd (cs := #[.int .i64 0, .int .i64 0, .int .i64 0, .int .i64 0, .int .u64 0, .slice none 0 0]) (t := 48) ?hr ?_; (case hd => rfl); (case hg => rfl); (case hr => first | (go_simp; done) | (go_simp; rfl)); intro gb606 hg w38 hbox hb; have n0_ := am_ (Kd.R_below aa_9 hb); have n1_ := am_ (Kd.R_below aa_7 hb); have n2_ := am_ (bbelow BK469 aa_1 hb); have n3_ := am_ (IsS61.below aa_13 hb); have n4_ := am_ (IsS54.below aa_15 hb); have n5_ := am_ (below_step aa_11 hb); have n6_ := am_ (hbox); have n7_ := am_ ((by rw [hg]; exact (below_size aa_11) : w.heap.size ≤ gb606)); have n8_ := am_ ((by rw [hg]; exact (below_size aa_11) : w.heap.size ≤ gb606)); have n9_ := am_ ((by rw [hg]; exact Nat.ne_of_lt (blk_lt (g := gb469) (o := .cells #[.int .i64 a0_0, .int .i64 a0_1, .int .i64 a0_2, .slice (some ad605) l0_3.length c0_3] 26 (0, 0)) aa_1) : gb469 ≠ gb606)); have n10_ := am_ ((by rw [hg]; exact Nat.ne_of_gt (blk_lt (g := gb469) (o := .cells #[.int .i64 a0_0, .int .i64 a0_1, .int .i64 a0_2, .slice (some ad605) l0_3.length c0_3] 26 (0, 0)) aa_1) : gb606 ≠ gb469)); have n11_ := am_ ((by rw [hg]; exact Nat.ne_of_lt (IsS61.lt (show IsS61 w _ g476 u4z x5z_1 from by repeat (first | (with_reducible first | exact HI476.out | apply IsS61.alloc | apply IsS61.drewN | apply IsS61.drew | apply IsS61.set_0 | apply IsS61.set_1 | refine IsS61.far ?_ NB476_469.out _) | exact HI476.out))) : g476 ≠ gb606)); have n12_ := am_ ((by rw [hg]; exact Nat.ne_of_gt (IsS61.lt (show IsS61 w _ g476 u4z x5z_1 from by repeat (first | (with_reducible first | exact HI476.out | apply IsS61.alloc | apply IsS61.drewN | apply IsS61.drew | apply IsS61.set_0 | apply IsS61.set_1 | refine IsS61.far ?_ NB476_469.out _) | exact HI476.out))) : gb606 ≠ g476)); have n13_ := am_ ((by rw [hg]; exact Nat.ne_of_lt (IsS54.lt (show IsS54 w _ g485 u6z x7z_1 from by repeat (first | (with_reducible first | exact HI485.out | apply IsS54.alloc | apply IsS54.drewN | apply IsS54.drew | apply IsS54.set_0 | apply IsS54.set_1 | refine IsS54.far ?_ NB485_469.out _) | exact HI485.out))) : g485 ≠ gb606)); have n14_ := am_ ((by rw [hg]; exact Nat.ne_of_gt (IsS54.lt (show IsS54 w _ g485 u6z x7z_1 from by repeat (first | (with_reducible first | exact HI485.out | apply IsS54.alloc | apply IsS54.drewN | apply IsS54.drew | apply IsS54.set_0 | apply IsS54.set_1 | refine IsS54.far ?_ NB485_469.out _) | exact HI485.out))) : gb606 ≠ g485)); clear HO_4z; clear HO_6z; clear BK469; clear HI476; clear HI485; clear HB; have HO_4z := n0_; have HO_6z := n1_; have BK469 := n2_; have HI476 := n3_; have HI485 := n4_; have HB := n5_; have BK606 := n6_; have GW606 := n7_; have GE606 := n8_; have NB469_606 := n9_; have NB606_469 := n10_; have NB476_606 := n11_; have NB606_476 := n12_; have NB485_606 := n13_; have NB606_485 := n14_; clear n0_ n1_ n2_ n3_ n4_ n5_ n6_ n7_ n8_ n9_ n10_ n11_ n12_ n13_ n14_; clear hb hbox hg) | ((with_reducible refine gate_store (t := 48) (p := 7) rfl ?_); refine Go.Proofs.YtjmajhalgdeicaaO.store_whole ?hg ?hn (ty := 48) (x := ?xs_w39) (y := ?ys_w39) ?ho (g := gb606) ?hx [.int .i64 ((rd_T48 l0_3 x6_1).f0), .int .i64 ((rd_T48 l0_3 x6_1).f1), .int .i64 ((rd_T48 l0_3 x6_1).f2), .int .i64 ((rd_T48 l0_3 x6_1).f3), .int .u64 ((rd_T48 l0_3 x6_1).f4), .slice A605_5 ((rd_T48 l0_3 x6_1).f5).length c605_5] ?hy BK606.out (by kernel_rfl) rfl rfl ?_; (case ho => rfl); (case hg => rfl); (case hn => rfl); (case hx => rfl); (case hy => rfl); intro w39 hb_ hO_ hB_; have n0_ := am_ (hb_); have n1_ := am_ ((hO_ _ NB469_606.out).trans BK469.out); have n2_ := am_ (Kd.R_mono (Kd.R_move (Kd.R_bound (Kd.R_types HO_4z.out BK606.out (by decide))) (fun k_ hk_ => hO_ k_ hk_.1.2)) (fun _ hk_ => hk_.1.1)); have n3_ := am_ (Kd.R_mono (Kd.R_move (Kd.R_bound (Kd.R_types HO_6z.out BK606.out (by decide))) (fun k_ hk_ => hO_ k_ hk_.1.2)) (fun _ hk_ => hk_.1.1)); have n4_ := am_ ((show IsS61 w _ g476 u4z x5z_1 from ⟨(hO_ _ NB476_606.out).trans HI476.out.1, HI476.out.2⟩)); have n5_ := am_ ((show IsS54 w _ g485 u6z x7z_1 from ⟨(hO_ _ NB485_606.out).trans HI485.out.1, HI485.out.2⟩)); have n6_ := am_ (hB_ _ _ HB.out GE606.out); clear BK606; clear BK469; clear HO_4z; clear HO_6z; clear HI476; clear HI485; clear HB; have BK606 := n0_; have BK469 := n1_; have HO_4z := n2_; have HO_6z := n3_; have HI476 := n4_; have HI485 := n5_; have HB := n6_; clear n0_ n1_ n2_ n3_ n4_ n5_ n6_; clear hb_ hO_ hB_))
 (try simp only [Act.put, e1, e2, e3])
 go_cut [8] (fun v8 wc => ∃ (kq : Nat) (x8_33 : Bool), v8 = .bool x8_33 ∧ Aside0 (j2 kq x6_1 x8_33 a0_0 a0_1 a0_2 l0_3 x4z_1 x5z_1 x6z_1 x7z_1 ((rd_T48 l0_3 x6_1).f0) ((rd_T48 l0_3 x6_1).f1) ((rd_T48 l0_3 x6_1).f2) ((rd_T48 l0_3 x6_1).f3) ((rd_T48 l0_3 x6_1).f4) ((rd_T48 l0_3 x6_1).f5) = some r) ∧ Aside0 (kq ≤ kj22) ∧ Aside0 (Kd.R (Kd.int .u8) 5 wc w.heap.size (fun k_ => some k_ ≠ (u6z : Value).ownBlock) u4z x4z_1) ∧ Aside0 (Kd.R (Kd.int .u8) 5 wc w.heap.size (fun k_ => some k_ ≠ (u4z : Value).ownBlock) u6z x6z_1) ∧ Aside0 (wc.heap[gb469]? = some (.cells #[.int .i64 a0_0, .int .i64 a0_1, .int .i64 a0_2, (.slice (some ad605) l0_3.length c0_3)] 26 (0, 0))) ∧ Aside0 (wc.heap[gb606]? = some (.cells #[.int .i64 ((rd_T48 l0_3 x6_1).f0), .int .i64 ((rd_T48 l0_3 x6_1).f1), .int .i64 ((rd_T48 l0_3 x6_1).f2), .int .i64 ((rd_T48 l0_3 x6_1).f3), .int .u64 ((rd_T48 l0_3 x6_1).f4), (.slice A605_5 ((rd_T48 l0_3 x6_1).f5).length c605_5)] 48 (0, 0))) ∧ Aside0 (IsS61 w wc g476 u4z x5z_1) ∧ Aside0 (IsS54 w wc g485 u6z x7z_1) ∧ Aside0 (Below w.heap.size w wc))
 case first =>
  as_aux_lemma =>
  have H := HC34.out
  clear HC34
  by_cases c40 : ((rd_T48 l0_3 x6_1).f3) = 1
  ·as_aux_lemma =>
   rw [if_pos c40] at H
   have c40b0 : (((rd_T48 l0_3 x6_1).f3) == 1) = true := beq_iff_eq.mpr c40
   have c40b1 : (((rd_T48 l0_3 x6_1).f3) != 1) = false := bne_eq_false_iff_eq.mpr c40
   clear c40
   (first | rw [c40b0] | (simp only [i64_w, i32_w]; rw [c40b0]) | skip)
   by_cases c41 : ((rd_T48 l0_3 x6_1).f1) ≥ 0
   rotate_left
   ·rw [if_neg c41] at H
    have c41b0 : decide (0 ≤ ((rd_T48 l0_3 x6_1).f1)) = false := decide_eq_false c41
    clear c41
    have H' := am_ H
    clear H
    have hnb56 := NB606_469.out
    have hnc56 := NB469_606.out
    have hnb57 := NB606_476.out
    have hnc57 := NB476_606.out
    have hnb58 := NB606_485.out
    have hnc58 := NB485_606.out
    have hcz59_0 : w39.cell? ⟨gb606, 0, none⟩ = some (.int .i64 ((rd_T48 l0_3 x6_1).f0)) := bc BK606 0
    have hcz59_1 : w39.cell? ⟨gb606, 1, none⟩ = some (.int .i64 ((rd_T48 l0_3 x6_1).f1)) := bc BK606 1
    have hcz59_2 : w39.cell? ⟨gb606, 2, none⟩ = some (.int .i64 ((rd_T48 l0_3 x6_1).f2)) := bc BK606 2
    have hcz59_3 : w39.cell? ⟨gb606, 3, none⟩ = some (.int .i64 ((rd_T48 l0_3 x6_1).f3)) := bc BK606 3
    have hcz59_4 : w39.cell? ⟨gb606, 4, none⟩ = some (.int .u64 ((rd_T48 l0_3 x6_1).f4)) := bc BK606 4
    have hcz59_5 : w39.cell? ⟨gb606, 5, none⟩ = some (.slice A605_5 ((rd_T48 l0_3 x6_1).f5).length c605_5) := bc BK606 5
    go_wp2
    go_meet
    case rel => exact ⟨_, (false), aa_6, H', ⟨by have := HK1.out; have := HJ22.out; first | omega | exact Nat.le_refl _⟩, ⟨aa_9⟩, ⟨aa_7⟩, ⟨aa_1⟩, ⟨aa_5⟩, ⟨aa_2⟩, ⟨aa_4⟩, ⟨aa_17⟩⟩
   as_aux_lemma =>
   rw [if_pos c41] at H
   have c41b0 : decide (0 ≤ ((rd_T48 l0_3 x6_1).f1)) = true := decide_eq_true c41
   clear c41
   by_cases c42 : ((rd_T48 l0_3 x6_1).f1) < 4294967296
   rotate_left
   ·rw [if_neg c42] at H
    have c42b0 : decide (((rd_T48 l0_3 x6_1).f1) < 4294967296) = false := decide_eq_false c42
    clear c42
    have H' := am_ H
    clear H
    have hnb52 := NB606_469.out
    have hnc52 := NB469_606.out
    have hnb53 := NB606_476.out
    have hnc53 := NB476_606.out
    have hnb54 := NB606_485.out
    have hnc54 := NB485_606.out
    have hcz55_0 : w39.cell? ⟨gb606, 0, none⟩ = some (.int .i64 ((rd_T48 l0_3 x6_1).f0)) := bc BK606 0
    have hcz55_1 : w39.cell? ⟨gb606, 1, none⟩ = some (.int .i64 ((rd_T48 l0_3 x6_1).f1)) := bc BK606 1
    have hcz55_2 : w39.cell? ⟨gb606, 2, none⟩ = some (.int .i64 ((rd_T48 l0_3 x6_1).f2)) := bc BK606 2
    have hcz55_3 : w39.cell? ⟨gb606, 3, none⟩ = some (.int .i64 ((rd_T48 l0_3 x6_1).f3)) := bc BK606 3
    have hcz55_4 : w39.cell? ⟨gb606, 4, none⟩ = some (.int .u64 ((rd_T48 l0_3 x6_1).f4)) := bc BK606 4
    have hcz55_5 : w39.cell? ⟨gb606, 5, none⟩ = some (.slice A605_5 ((rd_T48 l0_3 x6_1).f5).length c605_5) := bc BK606 5
    go_wp2
    go_meet
    case rel => exact ⟨_, (false), aa_6, H', ⟨by have := HK1.out; have := HJ22.out; first | omega | exact Nat.le_refl _⟩, ⟨aa_9⟩, ⟨aa_7⟩, ⟨aa_1⟩, ⟨aa_5⟩, ⟨aa_2⟩, ⟨aa_4⟩, ⟨aa_17⟩⟩
   as_aux_lemma =>
   rw [if_pos c42] at H
   have c42b0 : decide (((rd_T48 l0_3 x6_1).f1) < 4294967296) = true := decide_eq_true c42
   clear c42
   by_cases c43 : ((rd_T48 l0_3 x6_1).f2) ≥ 0
   ·rw [if_pos c43] at H
    have c43b0 : decide (0 ≤ ((rd_T48 l0_3 x6_1).f2)) = true := decide_eq_true c43
    clear c43
    have H' := am_ H
    clear H
    have hnb44 := NB606_469.out
    have hnc44 := NB469_606.out
    have hnb45 := NB606_476.out
    have hnc45 := NB476_606.out
    have hnb46 := NB606_485.out
    have hnc46 := NB485_606.out
    have hcz47_0 : w39.cell? ⟨gb606, 0, none⟩ = some (.int .i64 ((rd_T48 l0_3 x6_1).f0)) := bc BK606 0
    have hcz47_1 : w39.cell? ⟨gb606, 1, none⟩ = some (.int .i64 ((rd_T48 l0_3 x6_1).f1)) := bc BK606 1
    have hcz47_2 : w39.cell? ⟨gb606, 2, none⟩ = some (.int .i64 ((rd_T48 l0_3 x6_1).f2)) := bc BK606 2
    have hcz47_3 : w39.cell? ⟨gb606, 3, none⟩ = some (.int .i64 ((rd_T48 l0_3 x6_1).f3)) := bc BK606 3
    have hcz47_4 : w39.cell? ⟨gb606, 4, none⟩ = some (.int .u64 ((rd_T48 l0_3 x6_1).f4)) := bc BK606 4
    have hcz47_5 : w39.cell? ⟨gb606, 5, none⟩ = some (.slice A605_5 ((rd_T48 l0_3 x6_1).f5).length c605_5) := bc BK606 5
    go_wp2
    go_meet
    case rel => exact ⟨_, (decide (((rd_T48 l0_3 x6_1).f2) < 4294967296)), aa_6, H', ⟨by have := HK1.out; have := HJ22.out; first | omega | exact Nat.le_refl _⟩, ⟨aa_9⟩, ⟨aa_7⟩, ⟨aa_1⟩, ⟨aa_5⟩, ⟨aa_2⟩, ⟨aa_4⟩, ⟨aa_17⟩⟩
   rw [if_neg c43] at H
   have c43b0 : decide (0 ≤ ((rd_T48 l0_3 x6_1).f2)) = false := decide_eq_false c43
   clear c43
   have H' := am_ H
   clear H
   have hnb48 := NB606_469.out
   have hnc48 := NB469_606.out
   have hnb49 := NB606_476.out
   have hnc49 := NB476_606.out
   have hnb50 := NB606_485.out
   have hnc50 := NB485_606.out
   have hcz51_0 : w39.cell? ⟨gb606, 0, none⟩ = some (.int .i64 ((rd_T48 l0_3 x6_1).f0)) := bc BK606 0
   have hcz51_1 : w39.cell? ⟨gb606, 1, none⟩ = some (.int .i64 ((rd_T48 l0_3 x6_1).f1)) := bc BK606 1
   have hcz51_2 : w39.cell? ⟨gb606, 2, none⟩ = some (.int .i64 ((rd_T48 l0_3 x6_1).f2)) := bc BK606 2
   have hcz51_3 : w39.cell? ⟨gb606, 3, none⟩ = some (.int .i64 ((rd_T48 l0_3 x6_1).f3)) := bc BK606 3
   have hcz51_4 : w39.cell? ⟨gb606, 4, none⟩ = some (.int .u64 ((rd_T48 l0_3 x6_1).f4)) := bc BK606 4
   have hcz51_5 : w39.cell? ⟨gb606, 5, none⟩ = some (.slice A605_5 ((rd_T48 l0_3 x6_1).f5).length c605_5) := bc BK606 5
   go_wp2
   go_meet
   case rel => exact ⟨_, (false), aa_6, H', ⟨by have := HK1.out; have := HJ22.out; first | omega | exact Nat.le_refl _⟩, ⟨aa_9⟩, ⟨aa_7⟩, ⟨aa_1⟩, ⟨aa_5⟩, ⟨aa_2⟩, ⟨aa_4⟩, ⟨aa_17⟩⟩
  as_aux_lemma =>
  rw [if_neg c40] at H
  have c40b0 : (((rd_T48 l0_3 x6_1).f3) == 1) = false := beq_eq_false_iff_ne.mpr c40
  have c40b1 : (((rd_T48 l0_3 x6_1).f3) != 1) = true := bne_iff_ne.mpr c40
  (first | rw [c40b0] | (simp only [i64_w, i32_w]; rw [c40b0]) | skip)
  by_cases c60 : ((rd_T48 l0_3 x6_1).f3) = 2
  ·as_aux_lemma =>
   rw [if_pos c60] at H
   have c60b0 : (((rd_T48 l0_3 x6_1).f3) == 2) = true := beq_iff_eq.mpr c60
   have c60b1 : (((rd_T48 l0_3 x6_1).f3) != 2) = false := bne_eq_false_iff_eq.mpr c60
   clear c60
   by_cases c61 : ((rd_T48 l0_3 x6_1).f1) ≥ 0
   rotate_left
   ·rw [if_neg c61] at H
    have c61b0 : decide (0 ≤ ((rd_T48 l0_3 x6_1).f1)) = false := decide_eq_false c61
    clear c61
    have H' := am_ H
    clear H
    have hnb76 := NB606_469.out
    have hnc76 := NB469_606.out
    have hnb77 := NB606_476.out
    have hnc77 := NB476_606.out
    have hnb78 := NB606_485.out
    have hnc78 := NB485_606.out
    have hcz79_0 : w39.cell? ⟨gb606, 0, none⟩ = some (.int .i64 ((rd_T48 l0_3 x6_1).f0)) := bc BK606 0
    have hcz79_1 : w39.cell? ⟨gb606, 1, none⟩ = some (.int .i64 ((rd_T48 l0_3 x6_1).f1)) := bc BK606 1
    have hcz79_2 : w39.cell? ⟨gb606, 2, none⟩ = some (.int .i64 ((rd_T48 l0_3 x6_1).f2)) := bc BK606 2
    have hcz79_3 : w39.cell? ⟨gb606, 3, none⟩ = some (.int .i64 ((rd_T48 l0_3 x6_1).f3)) := bc BK606 3
    have hcz79_4 : w39.cell? ⟨gb606, 4, none⟩ = some (.int .u64 ((rd_T48 l0_3 x6_1).f4)) := bc BK606 4
    have hcz79_5 : w39.cell? ⟨gb606, 5, none⟩ = some (.slice A605_5 ((rd_T48 l0_3 x6_1).f5).length c605_5) := bc BK606 5
    go_wp2
    go_meet
    case rel => exact ⟨_, (false), aa_6, H', ⟨by have := HK1.out; have := HJ22.out; first | omega | exact Nat.le_refl _⟩, ⟨aa_9⟩, ⟨aa_7⟩, ⟨aa_1⟩, ⟨aa_5⟩, ⟨aa_2⟩, ⟨aa_4⟩, ⟨aa_17⟩⟩
   as_aux_lemma =>
   rw [if_pos c61] at H
   have c61b0 : decide (0 ≤ ((rd_T48 l0_3 x6_1).f1)) = true := decide_eq_true c61
   clear c61
   by_cases c62 : ((rd_T48 l0_3 x6_1).f1) < 4294967296
   rotate_left
   ·rw [if_neg c62] at H
    have c62b0 : decide (((rd_T48 l0_3 x6_1).f1) < 4294967296) = false := decide_eq_false c62
    clear c62
    have H' := am_ H
    clear H
    have hnb72 := NB606_469.out
    have hnc72 := NB469_606.out
    have hnb73 := NB606_476.out
    have hnc73 := NB476_606.out
    have hnb74 := NB606_485.out
    have hnc74 := NB485_606.out
    have hcz75_0 : w39.cell? ⟨gb606, 0, none⟩ = some (.int .i64 ((rd_T48 l0_3 x6_1).f0)) := bc BK606 0
    have hcz75_1 : w39.cell? ⟨gb606, 1, none⟩ = some (.int .i64 ((rd_T48 l0_3 x6_1).f1)) := bc BK606 1
    have hcz75_2 : w39.cell? ⟨gb606, 2, none⟩ = some (.int .i64 ((rd_T48 l0_3 x6_1).f2)) := bc BK606 2
    have hcz75_3 : w39.cell? ⟨gb606, 3, none⟩ = some (.int .i64 ((rd_T48 l0_3 x6_1).f3)) := bc BK606 3
    have hcz75_4 : w39.cell? ⟨gb606, 4, none⟩ = some (.int .u64 ((rd_T48 l0_3 x6_1).f4)) := bc BK606 4
    have hcz75_5 : w39.cell? ⟨gb606, 5, none⟩ = some (.slice A605_5 ((rd_T48 l0_3 x6_1).f5).length c605_5) := bc BK606 5
    go_wp2
    go_meet
    case rel => exact ⟨_, (false), aa_6, H', ⟨by have := HK1.out; have := HJ22.out; first | omega | exact Nat.le_refl _⟩, ⟨aa_9⟩, ⟨aa_7⟩, ⟨aa_1⟩, ⟨aa_5⟩, ⟨aa_2⟩, ⟨aa_4⟩, ⟨aa_17⟩⟩
   as_aux_lemma =>
   rw [if_pos c62] at H
   have c62b0 : decide (((rd_T48 l0_3 x6_1).f1) < 4294967296) = true := decide_eq_true c62
   clear c62
   by_cases c63 : ((rd_T48 l0_3 x6_1).f2) ≥ 0
   ·rw [if_pos c63] at H
    have c63b0 : decide (0 ≤ ((rd_T48 l0_3 x6_1).f2)) = true := decide_eq_true c63
    clear c63
    have H' := am_ H
    clear H
    have hnb64 := NB606_469.out
    have hnc64 := NB469_606.out
    have hnb65 := NB606_476.out
    have hnc65 := NB476_606.out
    have hnb66 := NB606_485.out
    have hnc66 := NB485_606.out
    have hcz67_0 : w39.cell? ⟨gb606, 0, none⟩ = some (.int .i64 ((rd_T48 l0_3 x6_1).f0)) := bc BK606 0
    have hcz67_1 : w39.cell? ⟨gb606, 1, none⟩ = some (.int .i64 ((rd_T48 l0_3 x6_1).f1)) := bc BK606 1
    have hcz67_2 : w39.cell? ⟨gb606, 2, none⟩ = some (.int .i64 ((rd_T48 l0_3 x6_1).f2)) := bc BK606 2
    have hcz67_3 : w39.cell? ⟨gb606, 3, none⟩ = some (.int .i64 ((rd_T48 l0_3 x6_1).f3)) := bc BK606 3
    have hcz67_4 : w39.cell? ⟨gb606, 4, none⟩ = some (.int .u64 ((rd_T48 l0_3 x6_1).f4)) := bc BK606 4
    have hcz67_5 : w39.cell? ⟨gb606, 5, none⟩ = some (.slice A605_5 ((rd_T48 l0_3 x6_1).f5).length c605_5) := bc BK606 5
    go_wp2
    go_meet
    case rel => exact ⟨_, (decide (((rd_T48 l0_3 x6_1).f2) < 4294967296)), aa_6, H', ⟨by have := HK1.out; have := HJ22.out; first | omega | exact Nat.le_refl _⟩, ⟨aa_9⟩, ⟨aa_7⟩, ⟨aa_1⟩, ⟨aa_5⟩, ⟨aa_2⟩, ⟨aa_4⟩, ⟨aa_17⟩⟩
   rw [if_neg c63] at H
   have c63b0 : decide (0 ≤ ((rd_T48 l0_3 x6_1).f2)) = false := decide_eq_false c63
   clear c63
   have H' := am_ H
   clear H
   have hnb68 := NB606_469.out
   have hnc68 := NB469_606.out
   have hnb69 := NB606_476.out
   have hnc69 := NB476_606.out
   have hnb70 := NB606_485.out
   have hnc70 := NB485_606.out
   have hcz71_0 : w39.cell? ⟨gb606, 0, none⟩ = some (.int .i64 ((rd_T48 l0_3 x6_1).f0)) := bc BK606 0
   have hcz71_1 : w39.cell? ⟨gb606, 1, none⟩ = some (.int .i64 ((rd_T48 l0_3 x6_1).f1)) := bc BK606 1
   have hcz71_2 : w39.cell? ⟨gb606, 2, none⟩ = some (.int .i64 ((rd_T48 l0_3 x6_1).f2)) := bc BK606 2
   have hcz71_3 : w39.cell? ⟨gb606, 3, none⟩ = some (.int .i64 ((rd_T48 l0_3 x6_1).f3)) := bc BK606 3
   have hcz71_4 : w39.cell? ⟨gb606, 4, none⟩ = some (.int .u64 ((rd_T48 l0_3 x6_1).f4)) := bc BK606 4
   have hcz71_5 : w39.cell? ⟨gb606, 5, none⟩ = some (.slice A605_5 ((rd_T48 l0_3 x6_1).f5).length c605_5) := bc BK606 5
   go_wp2
   go_meet
   case rel => exact ⟨_, (false), aa_6, H', ⟨by have := HK1.out; have := HJ22.out; first | omega | exact Nat.le_refl _⟩, ⟨aa_9⟩, ⟨aa_7⟩, ⟨aa_1⟩, ⟨aa_5⟩, ⟨aa_2⟩, ⟨aa_4⟩, ⟨aa_17⟩⟩
  as_aux_lemma =>
  rw [if_neg c60] at H
  have c60b0 : (((rd_T48 l0_3 x6_1).f3) == 2) = false := beq_eq_false_iff_ne.mpr c60
  have c60b1 : (((rd_T48 l0_3 x6_1).f3) != 2) = true := bne_iff_ne.mpr c60
  by_cases c80 : ((rd_T48 l0_3 x6_1).f3) = 4
  ·as_aux_lemma =>
   rw [if_pos c80] at H
   have c80b0 : (((rd_T48 l0_3 x6_1).f3) == 4) = true := beq_iff_eq.mpr c80
   have c80b1 : (((rd_T48 l0_3 x6_1).f3) != 4) = false := bne_eq_false_iff_eq.mpr c80
   clear c80
   by_cases c81 : ((rd_T48 l0_3 x6_1).f1) ≥ 0
   rotate_left
   ·rw [if_neg c81] at H
    have c81b0 : decide (0 ≤ ((rd_T48 l0_3 x6_1).f1)) = false := decide_eq_false c81
    clear c81
    have H' := am_ H
    clear H
    have hnb96 := NB606_469.out
    have hnc96 := NB469_606.out
    have hnb97 := NB606_476.out
    have hnc97 := NB476_606.out
    have hnb98 := NB606_485.out
    have hnc98 := NB485_606.out
    have hcz99_0 : w39.cell? ⟨gb606, 0, none⟩ = some (.int .i64 ((rd_T48 l0_3 x6_1).f0)) := bc BK606 0
    have hcz99_1 : w39.cell? ⟨gb606, 1, none⟩ = some (.int .i64 ((rd_T48 l0_3 x6_1).f1)) := bc BK606 1
    have hcz99_2 : w39.cell? ⟨gb606, 2, none⟩ = some (.int .i64 ((rd_T48 l0_3 x6_1).f2)) := bc BK606 2
    have hcz99_3 : w39.cell? ⟨gb606, 3, none⟩ = some (.int .i64 ((rd_T48 l0_3 x6_1).f3)) := bc BK606 3
    have hcz99_4 : w39.cell? ⟨gb606, 4, none⟩ = some (.int .u64 ((rd_T48 l0_3 x6_1).f4)) := bc BK606 4
    have hcz99_5 : w39.cell? ⟨gb606, 5, none⟩ = some (.slice A605_5 ((rd_T48 l0_3 x6_1).f5).length c605_5) := bc BK606 5
    go_wp2
    go_meet
    case rel => exact ⟨_, (false), aa_6, H', ⟨by have := HK1.out; have := HJ22.out; first | omega | exact Nat.le_refl _⟩, ⟨aa_9⟩, ⟨aa_7⟩, ⟨aa_1⟩, ⟨aa_5⟩, ⟨aa_2⟩, ⟨aa_4⟩, ⟨aa_17⟩⟩
   as_aux_lemma =>
   rw [if_pos c81] at H
   have c81b0 : decide (0 ≤ ((rd_T48 l0_3 x6_1).f1)) = true := decide_eq_true c81
   clear c81
   by_cases c82 : ((rd_T48 l0_3 x6_1).f1) < 4294967296
   rotate_left
   ·rw [if_neg c82] at H
    have c82b0 : decide (((rd_T48 l0_3 x6_1).f1) < 4294967296) = false := decide_eq_false c82
    clear c82
    have H' := am_ H
    clear H
    have hnb92 := NB606_469.out
    have hnc92 := NB469_606.out
    have hnb93 := NB606_476.out
    have hnc93 := NB476_606.out
    have hnb94 := NB606_485.out
    have hnc94 := NB485_606.out
    have hcz95_0 : w39.cell? ⟨gb606, 0, none⟩ = some (.int .i64 ((rd_T48 l0_3 x6_1).f0)) := bc BK606 0
    have hcz95_1 : w39.cell? ⟨gb606, 1, none⟩ = some (.int .i64 ((rd_T48 l0_3 x6_1).f1)) := bc BK606 1
    have hcz95_2 : w39.cell? ⟨gb606, 2, none⟩ = some (.int .i64 ((rd_T48 l0_3 x6_1).f2)) := bc BK606 2
    have hcz95_3 : w39.cell? ⟨gb606, 3, none⟩ = some (.int .i64 ((rd_T48 l0_3 x6_1).f3)) := bc BK606 3
    have hcz95_4 : w39.cell? ⟨gb606, 4, none⟩ = some (.int .u64 ((rd_T48 l0_3 x6_1).f4)) := bc BK606 4
    have hcz95_5 : w39.cell? ⟨gb606, 5, none⟩ = some (.slice A605_5 ((rd_T48 l0_3 x6_1).f5).length c605_5) := bc BK606 5
    go_wp2
    go_meet
    case rel => exact ⟨_, (false), aa_6, H', ⟨by have := HK1.out; have := HJ22.out; first | omega | exact Nat.le_refl _⟩, ⟨aa_9⟩, ⟨aa_7⟩, ⟨aa_1⟩, ⟨aa_5⟩, ⟨aa_2⟩, ⟨aa_4⟩, ⟨aa_17⟩⟩
   as_aux_lemma =>
   rw [if_pos c82] at H
   have c82b0 : decide (((rd_T48 l0_3 x6_1).f1) < 4294967296) = true := decide_eq_true c82
   clear c82
   by_cases c83 : ((rd_T48 l0_3 x6_1).f2) ≥ 0
   ·rw [if_pos c83] at H
    have c83b0 : decide (0 ≤ ((rd_T48 l0_3 x6_1).f2)) = true := decide_eq_true c83
    clear c83
    have H' := am_ H
    clear H
    have hnb84 := NB606_469.out
    have hnc84 := NB469_606.out
    have hnb85 := NB606_476.out
    have hnc85 := NB476_606.out
    have hnb86 := NB606_485.out
    have hnc86 := NB485_606.out
    have hcz87_0 : w39.cell? ⟨gb606, 0, none⟩ = some (.int .i64 ((rd_T48 l0_3 x6_1).f0)) := bc BK606 0
    have hcz87_1 : w39.cell? ⟨gb606, 1, none⟩ = some (.int .i64 ((rd_T48 l0_3 x6_1).f1)) := bc BK606 1
    have hcz87_2 : w39.cell? ⟨gb606, 2, none⟩ = some (.int .i64 ((rd_T48 l0_3 x6_1).f2)) := bc BK606 2
    have hcz87_3 : w39.cell? ⟨gb606, 3, none⟩ = some (.int .i64 ((rd_T48 l0_3 x6_1).f3)) := bc BK606 3
    have hcz87_4 : w39.cell? ⟨gb606, 4, none⟩ = some (.int .u64 ((rd_T48 l0_3 x6_1).f4)) := bc BK606 4
    have hcz87_5 : w39.cell? ⟨gb606, 5, none⟩ = some (.slice A605_5 ((rd_T48 l0_3 x6_1).f5).length c605_5) := bc BK606 5
    go_wp2
    go_meet
    case rel => exact ⟨_, (decide (((rd_T48 l0_3 x6_1).f2) < 4294967296)), aa_6, H', ⟨by have := HK1.out; have := HJ22.out; first | omega | exact Nat.le_refl _⟩, ⟨aa_9⟩, ⟨aa_7⟩, ⟨aa_1⟩, ⟨aa_5⟩, ⟨aa_2⟩, ⟨aa_4⟩, ⟨aa_17⟩⟩
   rw [if_neg c83] at H
   have c83b0 : decide (0 ≤ ((rd_T48 l0_3 x6_1).f2)) = false := decide_eq_false c83
   clear c83
   have H' := am_ H
   clear H
   have hnb88 := NB606_469.out
   have hnc88 := NB469_606.out
   have hnb89 := NB606_476.out
   have hnc89 := NB476_606.out
   have hnb90 := NB606_485.out
   have hnc90 := NB485_606.out
   have hcz91_0 : w39.cell? ⟨gb606, 0, none⟩ = some (.int .i64 ((rd_T48 l0_3 x6_1).f0)) := bc BK606 0
   have hcz91_1 : w39.cell? ⟨gb606, 1, none⟩ = some (.int .i64 ((rd_T48 l0_3 x6_1).f1)) := bc BK606 1
   have hcz91_2 : w39.cell? ⟨gb606, 2, none⟩ = some (.int .i64 ((rd_T48 l0_3 x6_1).f2)) := bc BK606 2
   have hcz91_3 : w39.cell? ⟨gb606, 3, none⟩ = some (.int .i64 ((rd_T48 l0_3 x6_1).f3)) := bc BK606 3
   have hcz91_4 : w39.cell? ⟨gb606, 4, none⟩ = some (.int .u64 ((rd_T48 l0_3 x6_1).f4)) := bc BK606 4
   have hcz91_5 : w39.cell? ⟨gb606, 5, none⟩ = some (.slice A605_5 ((rd_T48 l0_3 x6_1).f5).length c605_5) := bc BK606 5
   go_wp2
   go_meet
   case rel => exact ⟨_, (false), aa_6, H', ⟨by have := HK1.out; have := HJ22.out; first | omega | exact Nat.le_refl _⟩, ⟨aa_9⟩, ⟨aa_7⟩, ⟨aa_1⟩, ⟨aa_5⟩, ⟨aa_2⟩, ⟨aa_4⟩, ⟨aa_17⟩⟩
  as_aux_lemma =>
  rw [if_neg c80] at H
  have c80b0 : (((rd_T48 l0_3 x6_1).f3) == 4) = false := beq_eq_false_iff_ne.mpr c80
  have c80b1 : (((rd_T48 l0_3 x6_1).f3) != 4) = true := bne_iff_ne.mpr c80
  by_cases c100 : ((rd_T48 l0_3 x6_1).f3) = 8
  rotate_left
  ·rw [if_neg c100] at H
   have c100b0 : (((rd_T48 l0_3 x6_1).f3) == 8) = false := beq_eq_false_iff_ne.mpr c100
   have c100b1 : (((rd_T48 l0_3 x6_1).f3) != 8) = true := bne_iff_ne.mpr c100
   have H' := am_ H
   clear H
   have hnb120 := NB606_469.out
   have hnc120 := NB469_606.out
   have hnb121 := NB606_476.out
   have hnc121 := NB476_606.out
   have hnb122 := NB606_485.out
   have hnc122 := NB485_606.out
   have hcz123_0 : w39.cell? ⟨gb606, 0, none⟩ = some (.int .i64 ((rd_T48 l0_3 x6_1).f0)) := bc BK606 0
   have hcz123_1 : w39.cell? ⟨gb606, 1, none⟩ = some (.int .i64 ((rd_T48 l0_3 x6_1).f1)) := bc BK606 1
   have hcz123_2 : w39.cell? ⟨gb606, 2, none⟩ = some (.int .i64 ((rd_T48 l0_3 x6_1).f2)) := bc BK606 2
   have hcz123_3 : w39.cell? ⟨gb606, 3, none⟩ = some (.int .i64 ((rd_T48 l0_3 x6_1).f3)) := bc BK606 3
   have hcz123_4 : w39.cell? ⟨gb606, 4, none⟩ = some (.int .u64 ((rd_T48 l0_3 x6_1).f4)) := bc BK606 4
   have hcz123_5 : w39.cell? ⟨gb606, 5, none⟩ = some (.slice A605_5 ((rd_T48 l0_3 x6_1).f5).length c605_5) := bc BK606 5
   go_wp2
   go_meet
   case rel => exact ⟨_, (false), aa_6, H', ⟨by have := HK1.out; have := HJ22.out; first | omega | exact Nat.le_refl _⟩, ⟨aa_9⟩, ⟨aa_7⟩, ⟨aa_1⟩, ⟨aa_5⟩, ⟨aa_2⟩, ⟨aa_4⟩, ⟨aa_17⟩⟩
  as_aux_lemma =>
  rw [if_pos c100] at H
  have c100b0 : (((rd_T48 l0_3 x6_1).f3) == 8) = true := beq_iff_eq.mpr c100
  have c100b1 : (((rd_T48 l0_3 x6_1).f3) != 8) = false := bne_eq_false_iff_eq.mpr c100
  clear c100
  by_cases c101 : ((rd_T48 l0_3 x6_1).f1) ≥ 0
  rotate_left
  ·rw [if_neg c101] at H
   have c101b0 : decide (0 ≤ ((rd_T48 l0_3 x6_1).f1)) = false := decide_eq_false c101
   clear c101
   have H' := am_ H
   clear H
   have hnb116 := NB606_469.out
   have hnc116 := NB469_606.out
   have hnb117 := NB606_476.out
   have hnc117 := NB476_606.out
   have hnb118 := NB606_485.out
   have hnc118 := NB485_606.out
   have hcz119_0 : w39.cell? ⟨gb606, 0, none⟩ = some (.int .i64 ((rd_T48 l0_3 x6_1).f0)) := bc BK606 0
   have hcz119_1 : w39.cell? ⟨gb606, 1, none⟩ = some (.int .i64 ((rd_T48 l0_3 x6_1).f1)) := bc BK606 1
   have hcz119_2 : w39.cell? ⟨gb606, 2, none⟩ = some (.int .i64 ((rd_T48 l0_3 x6_1).f2)) := bc BK606 2
   have hcz119_3 : w39.cell? ⟨gb606, 3, none⟩ = some (.int .i64 ((rd_T48 l0_3 x6_1).f3)) := bc BK606 3
   have hcz119_4 : w39.cell? ⟨gb606, 4, none⟩ = some (.int .u64 ((rd_T48 l0_3 x6_1).f4)) := bc BK606 4
   have hcz119_5 : w39.cell? ⟨gb606, 5, none⟩ = some (.slice A605_5 ((rd_T48 l0_3 x6_1).f5).length c605_5) := bc BK606 5
   go_wp2
   go_meet
   case rel => exact ⟨_, (false), aa_6, H', ⟨by have := HK1.out; have := HJ22.out; first | omega | exact Nat.le_refl _⟩, ⟨aa_9⟩, ⟨aa_7⟩, ⟨aa_1⟩, ⟨aa_5⟩, ⟨aa_2⟩, ⟨aa_4⟩, ⟨aa_17⟩⟩
  as_aux_lemma =>
  rw [if_pos c101] at H
  have c101b0 : decide (0 ≤ ((rd_T48 l0_3 x6_1).f1)) = true := decide_eq_true c101
  clear c101
  by_cases c102 : ((rd_T48 l0_3 x6_1).f1) < 4294967296
  rotate_left
  ·rw [if_neg c102] at H
   have c102b0 : decide (((rd_T48 l0_3 x6_1).f1) < 4294967296) = false := decide_eq_false c102
   clear c102
   have H' := am_ H
   clear H
   have hnb112 := NB606_469.out
   have hnc112 := NB469_606.out
   have hnb113 := NB606_476.out
   have hnc113 := NB476_606.out
   have hnb114 := NB606_485.out
   have hnc114 := NB485_606.out
   have hcz115_0 : w39.cell? ⟨gb606, 0, none⟩ = some (.int .i64 ((rd_T48 l0_3 x6_1).f0)) := bc BK606 0
   have hcz115_1 : w39.cell? ⟨gb606, 1, none⟩ = some (.int .i64 ((rd_T48 l0_3 x6_1).f1)) := bc BK606 1
   have hcz115_2 : w39.cell? ⟨gb606, 2, none⟩ = some (.int .i64 ((rd_T48 l0_3 x6_1).f2)) := bc BK606 2
   have hcz115_3 : w39.cell? ⟨gb606, 3, none⟩ = some (.int .i64 ((rd_T48 l0_3 x6_1).f3)) := bc BK606 3
   have hcz115_4 : w39.cell? ⟨gb606, 4, none⟩ = some (.int .u64 ((rd_T48 l0_3 x6_1).f4)) := bc BK606 4
   have hcz115_5 : w39.cell? ⟨gb606, 5, none⟩ = some (.slice A605_5 ((rd_T48 l0_3 x6_1).f5).length c605_5) := bc BK606 5
   go_wp2
   go_meet
   case rel => exact ⟨_, (false), aa_6, H', ⟨by have := HK1.out; have := HJ22.out; first | omega | exact Nat.le_refl _⟩, ⟨aa_9⟩, ⟨aa_7⟩, ⟨aa_1⟩, ⟨aa_5⟩, ⟨aa_2⟩, ⟨aa_4⟩, ⟨aa_17⟩⟩
  as_aux_lemma =>
  rw [if_pos c102] at H
  have c102b0 : decide (((rd_T48 l0_3 x6_1).f1) < 4294967296) = true := decide_eq_true c102
  clear c102
  by_cases c103 : ((rd_T48 l0_3 x6_1).f2) ≥ 0
  ·rw [if_pos c103] at H
   have c103b0 : decide (0 ≤ ((rd_T48 l0_3 x6_1).f2)) = true := decide_eq_true c103
   clear c103
   have H' := am_ H
   clear H
   have hnb104 := NB606_469.out
   have hnc104 := NB469_606.out
   have hnb105 := NB606_476.out
   have hnc105 := NB476_606.out
   have hnb106 := NB606_485.out
   have hnc106 := NB485_606.out
   have hcz107_0 : w39.cell? ⟨gb606, 0, none⟩ = some (.int .i64 ((rd_T48 l0_3 x6_1).f0)) := bc BK606 0
   have hcz107_1 : w39.cell? ⟨gb606, 1, none⟩ = some (.int .i64 ((rd_T48 l0_3 x6_1).f1)) := bc BK606 1
   have hcz107_2 : w39.cell? ⟨gb606, 2, none⟩ = some (.int .i64 ((rd_T48 l0_3 x6_1).f2)) := bc BK606 2
   have hcz107_3 : w39.cell? ⟨gb606, 3, none⟩ = some (.int .i64 ((rd_T48 l0_3 x6_1).f3)) := bc BK606 3
   have hcz107_4 : w39.cell? ⟨gb606, 4, none⟩ = some (.int .u64 ((rd_T48 l0_3 x6_1).f4)) := bc BK606 4
   have hcz107_5 : w39.cell? ⟨gb606, 5, none⟩ = some (.slice A605_5 ((rd_T48 l0_3 x6_1).f5).length c605_5) := bc BK606 5
   go_wp2
   go_meet
   case rel => exact ⟨_, (decide (((rd_T48 l0_3 x6_1).f2) < 4294967296)), aa_6, H', ⟨by have := HK1.out; have := HJ22.out; first | omega | exact Nat.le_refl _⟩, ⟨aa_9⟩, ⟨aa_7⟩, ⟨aa_1⟩, ⟨aa_5⟩, ⟨aa_2⟩, ⟨aa_4⟩, ⟨aa_17⟩⟩
  rw [if_neg c103] at H
  have c103b0 : decide (0 ≤ ((rd_T48 l0_3 x6_1).f2)) = false := decide_eq_false c103
  clear c103
  have H' := am_ H
  clear H
  have hnb108 := NB606_469.out
  have hnc108 := NB469_606.out
  have hnb109 := NB606_476.out
  have hnc109 := NB476_606.out
  have hnb110 := NB606_485.out
  have hnc110 := NB485_606.out
  have hcz111_0 : w39.cell? ⟨gb606, 0, none⟩ = some (.int .i64 ((rd_T48 l0_3 x6_1).f0)) := bc BK606 0
  have hcz111_1 : w39.cell? ⟨gb606, 1, none⟩ = some (.int .i64 ((rd_T48 l0_3 x6_1).f1)) := bc BK606 1
  have hcz111_2 : w39.cell? ⟨gb606, 2, none⟩ = some (.int .i64 ((rd_T48 l0_3 x6_1).f2)) := bc BK606 2
  have hcz111_3 : w39.cell? ⟨gb606, 3, none⟩ = some (.int .i64 ((rd_T48 l0_3 x6_1).f3)) := bc BK606 3
  have hcz111_4 : w39.cell? ⟨gb606, 4, none⟩ = some (.int .u64 ((rd_T48 l0_3 x6_1).f4)) := bc BK606 4
  have hcz111_5 : w39.cell? ⟨gb606, 5, none⟩ = some (.slice A605_5 ((rd_T48 l0_3 x6_1).f5).length c605_5) := bc BK606 5
  go_wp2
  go_meet
  case rel => exact ⟨_, (false), aa_6, H', ⟨by have := HK1.out; have := HJ22.out; first | omega | exact Nat.le_refl _⟩, ⟨aa_9⟩, ⟨aa_7⟩, ⟨aa_1⟩, ⟨aa_5⟩, ⟨aa_2⟩, ⟨aa_4⟩, ⟨aa_17⟩⟩
 case rest =>
 as_aux_lemma =>
 clear HC34
 try clear c31
 try clear c32b0
 try clear c33b0
 try clear hcz37_0
 try clear hcz37_1
 try clear hcz37_2
 try clear hcz37_3
 try clear hx605_0
 try clear hx605_1
 try clear hx605_2
 try clear hx605_3
 try clear hx605_4
 try clear hx605_5
 try clear p605
 try clear q605
 obtain ⟨kq, x8_33, rfl, HA, HJ33, HO_4z, HO_6z, BK469, BK606, HI476, HI485, HB⟩ := hcut
 cases kq with
 | zero => exact absurd HA.out (by simp [j2])
 | succ kj33 =>
 have H := HA.out
 clear HA
 simp only [j2] at H
 replace H := bm_ H
 obtain ⟨t607, A1240, H⟩ := H
 replace H : (if t607 = 3 then (j3 kj33 x6_1 x8_33 t607 (t607 == 3) a0_0 a0_1 a0_2 l0_3 x4z_1 x5z_1 x6z_1 x7z_1 ((rd_T48 l0_3 x6_1).f0) ((rd_T48 l0_3 x6_1).f1) ((rd_T48 l0_3 x6_1).f2) ((rd_T48 l0_3 x6_1).f3) ((rd_T48 l0_3 x6_1).f4) ((rd_T48 l0_3 x6_1).f5)) else (j3 kj33 x6_1 x8_33 t607 (t607 == 4) a0_0 a0_1 a0_2 l0_3 x4z_1 x5z_1 x6z_1 x7z_1 ((rd_T48 l0_3 x6_1).f0) ((rd_T48 l0_3 x6_1).f1) ((rd_T48 l0_3 x6_1).f2) ((rd_T48 l0_3 x6_1).f3) ((rd_T48 l0_3 x6_1).f4) ((rd_T48 l0_3 x6_1).f5))) = some r := H
 have A124 := am_ A1240
 clear A1240
 have HC125 := am_ H
 clear H
 have hnb126 := NB606_469.out
 have hnc126 := NB469_606.out
 have hnb127 := NB606_476.out
 have hnc127 := NB476_606.out
 have hnb128 := NB606_485.out
 have hnc128 := NB485_606.out
 have hcz129_0 : wc.cell? ⟨gb606, 0, none⟩ = some (.int .i64 ((rd_T48 l0_3 x6_1).f0)) := bc BK606 0
 have hcz129_1 : wc.cell? ⟨gb606, 1, none⟩ = some (.int .i64 ((rd_T48 l0_3 x6_1).f1)) := bc BK606 1
 have hcz129_2 : wc.cell? ⟨gb606, 2, none⟩ = some (.int .i64 ((rd_T48 l0_3 x6_1).f2)) := bc BK606 2
 have hcz129_3 : wc.cell? ⟨gb606, 3, none⟩ = some (.int .i64 ((rd_T48 l0_3 x6_1).f3)) := bc BK606 3
 have hcz129_4 : wc.cell? ⟨gb606, 4, none⟩ = some (.int .u64 ((rd_T48 l0_3 x6_1).f4)) := bc BK606 4
 have hcz129_5 : wc.cell? ⟨gb606, 5, none⟩ = some (.slice A605_5 ((rd_T48 l0_3 x6_1).f5).length c605_5) := bc BK606 5
 go_upto_block 2 with (first | ((with_reducible refine gate_callee (f := 19) rfl ?_); refine goesL_ (some 132) rfl rfl Try.func19 (by kernel_rfl) rfl #[.int .i64 ((rd_T48 l0_3 x6_1).f0), .int .i64 8] rfl aa_0 ?_; (with_reducible refine (gangwaylaw0_Within.calls ((rd_T48 l0_3 x6_1).f0) 8 t607 _ A124.out).mono ?_); rintro e w' ⟨rfl, ⟨nd, rfl⟩⟩; refine ⟨_, rfl, ?_⟩))
 (try simp only [Act.put, e1, e2, e3])
 go_cut [] (fun wc => ∃ (kq : Nat) (x4z_124 : List Int) (x5z_124 : Int) (x6z_124 : List Int) (x7z_124 : Int) (u4z : Value) (u6z : Value), Aside0 (j9 kq x6_1 a0_0 a0_1 a0_2 l0_3 x4z_124 x5z_124 x6z_124 x7z_124 = some r) ∧ Aside0 (kq ≤ kj33) ∧ Aside0 (Kd.R (Kd.int .u8) 5 wc w.heap.size (fun k_ => some k_ ≠ (u6z : Value).ownBlock) u4z x4z_124) ∧ Aside0 (Kd.R (Kd.int .u8) 5 wc w.heap.size (fun k_ => some k_ ≠ (u4z : Value).ownBlock) u6z x6z_124) ∧ Aside0 (wc.heap[gb469]? = some (.cells #[.int .i64 a0_0, .int .i64 a0_1, .int .i64 a0_2, (.slice (some ad605) l0_3.length c0_3)] 26 (0, 0))) ∧ Aside0 (wc.heap[gb606]? = some (.cells #[.int .i64 ((rd_T48 l0_3 x6_1).f0), .int .i64 ((rd_T48 l0_3 x6_1).f1), .int .i64 ((rd_T48 l0_3 x6_1).f2), .int .i64 ((rd_T48 l0_3 x6_1).f3), .int .u64 ((rd_T48 l0_3 x6_1).f4), (.slice A605_5 ((rd_T48 l0_3 x6_1).f5).length c605_5)] 48 (0, 0))) ∧ Aside0 (IsS61 w wc g476 u4z x5z_124) ∧ Aside0 (IsS54 w wc g485 u6z x7z_124) ∧ Aside0 (Below w.heap.size w wc))
 case first =>
  as_aux_lemma =>
  have H := HC125.out
  clear HC125
  have HC130 := am_ H
  clear H
  go_upto_if 158 with (fail)
  go_cut [158] (fun v158 wc => ∃ (kq : Nat) (x158_129 : Bool), v158 = .bool x158_129 ∧ Aside0 (j3 kq x6_1 x8_33 t607 x158_129 a0_0 a0_1 a0_2 l0_3 x4z_1 x5z_1 x6z_1 x7z_1 ((rd_T48 l0_3 x6_1).f0) ((rd_T48 l0_3 x6_1).f1) ((rd_T48 l0_3 x6_1).f2) ((rd_T48 l0_3 x6_1).f3) ((rd_T48 l0_3 x6_1).f4) ((rd_T48 l0_3 x6_1).f5) = some r) ∧ Aside0 (kq ≤ kj33) ∧ Aside0 (Kd.R (Kd.int .u8) 5 wc w.heap.size (fun k_ => some k_ ≠ (u6z : Value).ownBlock) u4z x4z_1) ∧ Aside0 (Kd.R (Kd.int .u8) 5 wc w.heap.size (fun k_ => some k_ ≠ (u4z : Value).ownBlock) u6z x6z_1) ∧ Aside0 (wc.heap[gb469]? = some (.cells #[.int .i64 a0_0, .int .i64 a0_1, .int .i64 a0_2, (.slice (some ad605) l0_3.length c0_3)] 26 (0, 0))) ∧ Aside0 (wc.heap[gb606]? = some (.cells #[.int .i64 ((rd_T48 l0_3 x6_1).f0), .int .i64 ((rd_T48 l0_3 x6_1).f1), .int .i64 ((rd_T48 l0_3 x6_1).f2), .int .i64 ((rd_T48 l0_3 x6_1).f3), .int .u64 ((rd_T48 l0_3 x6_1).f4), (.slice A605_5 ((rd_T48 l0_3 x6_1).f5).length c605_5)] 48 (0, 0))) ∧ Aside0 (IsS61 w wc g476 u4z x5z_1) ∧ Aside0 (IsS54 w wc g485 u6z x7z_1) ∧ Aside0 (Below w.heap.size w wc))
  case first =>
   as_aux_lemma =>
   have H := HC130.out
   clear HC130
   by_cases c131 : t607 = 3
   ·rw [if_pos c131] at H
    have c131b0 : (t607 == 3) = true := beq_iff_eq.mpr c131
    have c131b1 : (t607 != 3) = false := bne_eq_false_iff_eq.mpr c131
    clear c131
    (first | rw [c131b0] | (simp only [i64_w, i32_w]; rw [c131b0]) | skip)
    have H' := am_ H
    clear H
    go_wp2
    go_meet
    case rel => exact ⟨_, ((t607 == 3)), aa_6, H', ⟨by have := HK1.out; have := HJ22.out; have := HJ33.out; first | omega | exact Nat.le_refl _⟩, ⟨aa_9⟩, ⟨aa_7⟩, ⟨aa_1⟩, ⟨aa_5⟩, ⟨aa_2⟩, ⟨aa_4⟩, ⟨aa_17⟩⟩
   rw [if_neg c131] at H
   have c131b0 : (t607 == 3) = false := beq_eq_false_iff_ne.mpr c131
   have c131b1 : (t607 != 3) = true := bne_iff_ne.mpr c131
   (first | rw [c131b0] | (simp only [i64_w, i32_w]; rw [c131b0]) | skip)
   have H' := am_ H
   clear H
   go_wp2
   go_meet
   case rel => exact ⟨_, ((t607 == 4)), aa_6, H', ⟨by have := HK1.out; have := HJ22.out; have := HJ33.out; first | omega | exact Nat.le_refl _⟩, ⟨aa_9⟩, ⟨aa_7⟩, ⟨aa_1⟩, ⟨aa_5⟩, ⟨aa_2⟩, ⟨aa_4⟩, ⟨aa_17⟩⟩
  case rest =>
  as_aux_lemma =>
  clear HC130
  try clear hcz129_0
  try clear hcz129_1
  try clear hcz129_2
  try clear hcz129_3
  try clear hcz129_4
  try clear hcz129_5
  obtain ⟨kq, x158_129, rfl, HA, HJ129, HO_4z, HO_6z, BK469, BK606, HI476, HI485, HB⟩ := hcut
  cases kq with
  | zero => exact absurd HA.out (by simp [j3])
  | succ kj129 =>
  have H := HA.out
  clear HA
  simp only [j3] at H
  by_cases c132 : x158_129 = true
  ·as_aux_lemma =>
   subst c132
   have H1 : (if x8_33 = true then ((gangwayref9_Mem_Load.f kj129 x6z_1 x7z_1 (wrap64 (((rd_T48 l0_3 x6_1).f1) + ((rd_T48 l0_3 x6_1).f2))) ((rd_T48 l0_3 x6_1).f3)).bind fun bt608 => (if bt608.2.1 = true then (j4 kj129 x6_1 0 bt608.1 a0_0 a0_1 a0_2 l0_3 x4z_1 x5z_1 bt608.2.2.1 bt608.2.2.2 ((rd_T48 l0_3 x6_1).f0) ((rd_T48 l0_3 x6_1).f1) ((rd_T48 l0_3 x6_1).f2) ((rd_T48 l0_3 x6_1).f3) ((rd_T48 l0_3 x6_1).f4) ((rd_T48 l0_3 x6_1).f5)) else (j4 kj129 x6_1 21 0 a0_0 a0_1 a0_2 l0_3 x4z_1 x5z_1 bt608.2.2.1 bt608.2.2.2 ((rd_T48 l0_3 x6_1).f0) ((rd_T48 l0_3 x6_1).f1) ((rd_T48 l0_3 x6_1).f2) ((rd_T48 l0_3 x6_1).f3) ((rd_T48 l0_3 x6_1).f4) ((rd_T48 l0_3 x6_1).f5)))) else (j4 kj129 x6_1 100 0 a0_0 a0_1 a0_2 l0_3 x4z_1 x5z_1 x6z_1 x7z_1 ((rd_T48 l0_3 x6_1).f0) ((rd_T48 l0_3 x6_1).f1) ((rd_T48 l0_3 x6_1).f2) ((rd_T48 l0_3 x6_1).f3) ((rd_T48 l0_3 x6_1).f4) ((rd_T48 l0_3 x6_1).f5))) = some r := by rw [if_pos rfl] at H; exact H
   clear H
   have H := H1
   clear H1
   have HC133 := am_ H
   clear H
   go_upto_if 161 with (fail)
   go_cut [9, 10] (fun v9 v10 wc => ∃ (kq : Nat) (x9_132 : Int) (x10_132 : Int) (x6z_132 : List Int) (x7z_132 : Int) (u6z : Value), v9 = .int .i64 x9_132 ∧ v10 = .int .u64 x10_132 ∧ Aside0 (j4 kq x6_1 x9_132 x10_132 a0_0 a0_1 a0_2 l0_3 x4z_1 x5z_1 x6z_132 x7z_132 ((rd_T48 l0_3 x6_1).f0) ((rd_T48 l0_3 x6_1).f1) ((rd_T48 l0_3 x6_1).f2) ((rd_T48 l0_3 x6_1).f3) ((rd_T48 l0_3 x6_1).f4) ((rd_T48 l0_3 x6_1).f5) = some r) ∧ Aside0 (kq ≤ kj129) ∧ Aside0 (Kd.R (Kd.int .u8) 5 wc w.heap.size (fun k_ => some k_ ≠ (u6z : Value).ownBlock) u4z x4z_1) ∧ Aside0 (Kd.R (Kd.int .u8) 5 wc w.heap.size (fun k_ => some k_ ≠ (u4z : Value).ownBlock) u6z x6z_132) ∧ Aside0 (wc.heap[gb469]? = some (.cells #[.int .i64 a0_0, .int .i64 a0_1, .int .i64 a0_2, (.slice (some ad605) l0_3.length c0_3)] 26 (0, 0))) ∧ Aside0 (wc.heap[gb606]? = some (.cells #[.int .i64 ((rd_T48 l0_3 x6_1).f0), .int .i64 ((rd_T48 l0_3 x6_1).f1), .int .i64 ((rd_T48 l0_3 x6_1).f2), .int .i64 ((rd_T48 l0_3 x6_1).f3), .int .u64 ((rd_T48 l0_3 x6_1).f4), (.slice A605_5 ((rd_T48 l0_3 x6_1).f5).length c605_5)] 48 (0, 0))) ∧ Aside0 (IsS61 w wc g476 u4z x5z_1) ∧ Aside0 (IsS54 w wc g485 u6z x7z_132) ∧ Aside0 (Below w.heap.size w wc))
   case first =>
    as_aux_lemma =>
    have H := HC133.out
    clear HC133
    by_cases c134 : x8_33 = true
    rotate_left
    ·replace c134 := Bool.eq_false_iff.mpr c134
     subst c134
     have H1 : (j4 kj129 x6_1 100 0 a0_0 a0_1 a0_2 l0_3 x4z_1 x5z_1 x6z_1 x7z_1 ((rd_T48 l0_3 x6_1).f0) ((rd_T48 l0_3 x6_1).f1) ((rd_T48 l0_3 x6_1).f2) ((rd_T48 l0_3 x6_1).f3) ((rd_T48 l0_3 x6_1).f4) ((rd_T48 l0_3 x6_1).f5)) = some r := by rw [if_neg (show ¬ (false = true) by decide)] at H; exact H
     clear H
     have H := H1
     clear H1
     have H' := am_ H
     clear H
     go_wp2
     go_meet
     case rel => exact ⟨_, (100), (0), (x6z_1), (x7z_1), (u6z), aa_6, aa_6, H', ⟨by have := HK1.out; have := HJ22.out; have := HJ33.out; have := HJ129.out; first | omega | exact Nat.le_refl _⟩, ⟨aa_9⟩, ⟨aa_7⟩, ⟨aa_1⟩, ⟨aa_5⟩, ⟨aa_2⟩, ⟨aa_4⟩, ⟨aa_17⟩⟩
    as_aux_lemma =>
    subst c134
    have H1 : ((gangwayref9_Mem_Load.f kj129 x6z_1 x7z_1 (wrap64 (((rd_T48 l0_3 x6_1).f1) + ((rd_T48 l0_3 x6_1).f2))) ((rd_T48 l0_3 x6_1).f3)).bind fun bt608 => (if bt608.2.1 = true then (j4 kj129 x6_1 0 bt608.1 a0_0 a0_1 a0_2 l0_3 x4z_1 x5z_1 bt608.2.2.1 bt608.2.2.2 ((rd_T48 l0_3 x6_1).f0) ((rd_T48 l0_3 x6_1).f1) ((rd_T48 l0_3 x6_1).f2) ((rd_T48 l0_3 x6_1).f3) ((rd_T48 l0_3 x6_1).f4) ((rd_T48 l0_3 x6_1).f5)) else (j4 kj129 x6_1 21 0 a0_0 a0_1 a0_2 l0_3 x4z_1 x5z_1 bt608.2.2.1 bt608.2.2.2 ((rd_T48 l0_3 x6_1).f0) ((rd_T48 l0_3 x6_1).f1) ((rd_T48 l0_3 x6_1).f2) ((rd_T48 l0_3 x6_1).f3) ((rd_T48 l0_3 x6_1).f4) ((rd_T48 l0_3 x6_1).f5)))) = some r := by rw [if_pos rfl] at H; exact H
    clear H
    have H := H1
    clear H1
    replace H := bm_ H
    obtain ⟨⟨t608, t609, t610, t613⟩, A1350, H⟩ := H
    replace H : (if t609 = true then (j4 kj129 x6_1 0 t608 a0_0 a0_1 a0_2 l0_3 x4z_1 x5z_1 t610 t613 ((rd_T48 l0_3 x6_1).f0) ((rd_T48 l0_3 x6_1).f1) ((rd_T48 l0_3 x6_1).f2) ((rd_T48 l0_3 x6_1).f3) ((rd_T48 l0_3 x6_1).f4) ((rd_T48 l0_3 x6_1).f5)) else (j4 kj129 x6_1 21 0 a0_0 a0_1 a0_2 l0_3 x4z_1 x5z_1 t610 t613 ((rd_T48 l0_3 x6_1).f0) ((rd_T48 l0_3 x6_1).f1) ((rd_T48 l0_3 x6_1).f2) ((rd_T48 l0_3 x6_1).f3) ((rd_T48 l0_3 x6_1).f4) ((rd_T48 l0_3 x6_1).f5))) = some r := H
    have A135 := am_ A1350
    clear A1350
    by_cases c136 : t609 = true
    ·subst c136
     have H1 : (j4 kj129 x6_1 0 t608 a0_0 a0_1 a0_2 l0_3 x4z_1 x5z_1 t610 t613 ((rd_T48 l0_3 x6_1).f0) ((rd_T48 l0_3 x6_1).f1) ((rd_T48 l0_3 x6_1).f2) ((rd_T48 l0_3 x6_1).f3) ((rd_T48 l0_3 x6_1).f4) ((rd_T48 l0_3 x6_1).f5)) = some r := by rw [if_pos rfl] at H; exact H
     clear H
     have H := H1
     clear H1
     have H' := am_ H
     clear H
     have hnb137 := NB606_469.out
     have hnc137 := NB469_606.out
     have hnb138 := NB606_476.out
     have hnc138 := NB476_606.out
     have hnb139 := NB606_485.out
     have hnc139 := NB485_606.out
     have hcz140_0 : wc.cell? ⟨gb606, 0, none⟩ = some (.int .i64 ((rd_T48 l0_3 x6_1).f0)) := bc BK606 0
     have hcz140_1 : wc.cell? ⟨gb606, 1, none⟩ = some (.int .i64 ((rd_T48 l0_3 x6_1).f1)) := bc BK606 1
     have hcz140_2 : wc.cell? ⟨gb606, 2, none⟩ = some (.int .i64 ((rd_T48 l0_3 x6_1).f2)) := bc BK606 2
     have hcz140_3 : wc.cell? ⟨gb606, 3, none⟩ = some (.int .i64 ((rd_T48 l0_3 x6_1).f3)) := bc BK606 3
     have hcz140_4 : wc.cell? ⟨gb606, 4, none⟩ = some (.int .u64 ((rd_T48 l0_3 x6_1).f4)) := bc BK606 4
     have hcz140_5 : wc.cell? ⟨gb606, 5, none⟩ = some (.slice A605_5 ((rd_T48 l0_3 x6_1).f5).length c605_5) := bc BK606 5
     go_wp2_with (first | ((with_reducible refine gate_callee (f := 20) rfl ?_); refine goesL_ (some 171) rfl rfl Try.func20 (by kernel_rfl) rfl #[.pointer (some ⟨g485, 0, none⟩), .int .i64 (wrap64 (((rd_T48 l0_3 x6_1).f1) + ((rd_T48 l0_3 x6_1).f2))), .int .i64 ((rd_T48 l0_3 x6_1).f3)] rfl aa_0 ?_; (with_reducible refine (gangwayref9_Mem_Load.calls kj129 g485 (fun k_ => some k_ = (u6z : Value).ownBlock) u6z x6z_1 x7z_1 (wrap64 (((rd_T48 l0_3 x6_1).f1) + ((rd_T48 l0_3 x6_1).f2))) ((rd_T48 l0_3 x6_1).f3) t608 true t610 t613 w _ ?side1 ?side2 ?side3 A135.out).mono ?_); (case side1 => exact aa_4); (case side2 => exact aa_17); (case side3 => exact Kd.R_tight rfl HO_6z.out); rintro e w141 ⟨v611, rfl, ho0, hi, hb, hkp⟩; refine ⟨_, rfl, ?_⟩; have n0_ := am_ (Kd.R_mono (ok' := fun k_ => some k_ ≠ (v611 : Value).ownBlock) (Kd.R_keptB ((IsS54.apart HI485.out HO_4z.out (by decide))) hkp (fun k_ hk_ hs_ => Or.elim hs_ (fun hs_ => (hk_.1) hs_) (fun e_ => (hk_.2) e_))) (fun k_ hk_ => fun e_ => Or.elim (ho0.1 k_ e_.symm) (fun hs_ => hk_.2.1 (.inl hs_)) (fun hn_ => Nat.not_le.2 hk_.2.2 hn_))); have n1_ := am_ (bkept BK469 aa_1 hkp (fun hs_ => Or.elim hs_ (fun hs_ => (fun e_ => (Kd.R_ne HO_6z.out BK469.out (by decide)) e_) hs_) (fun e_ => NB469_485.out e_))); have n2_ := am_ (bkept BK606 aa_5 hkp (fun hs_ => Or.elim hs_ (fun hs_ => (fun e_ => (Kd.R_ne HO_6z.out BK606.out (by decide)) e_) hs_) (fun e_ => NB606_485.out e_))); have n3_ := am_ (IsS61.kept aa_2 hkp (fun hs_ => Or.elim hs_ (fun hs_ => (fun e_ => (IsS61.own_ne HI476.out HO_6z.out (by decide)) e_) hs_) (fun e_ => NB476_485.out e_))); have n4_ := am_ (hi); have n5_ := am_ (Kd.R_mono (ok' := fun k_ => some k_ ≠ (u4z : Value).ownBlock) ho0 (fun k_ hk_ => Or.elim hk_ (fun hs_ => fun e_ => ((((IsS54.apart HI485.out HO_4z.out (by decide))).1 k_ e_.symm).1) hs_) (fun hn_ => (Kd.fresh' (Kd.R_lt aa_9) k_ hn_)))); have n6_ := am_ (hb); clear HO_4z; clear BK469; clear BK606; clear HI476; clear HI485; clear HB; clear HO_6z; have HO_4z := n0_; have BK469 := n1_; have BK606 := n2_; have HI476 := n3_; have HI485 := n4_; have HO612 := n5_; have HB := n6_; clear n0_ n1_ n2_ n3_ n4_ n5_ n6_; (try clear hb); (try clear hkp); (try clear ho0)))
     go_meet
     case rel => exact ⟨_, (0), (t608), (t610), (t613), (v611), aa_6, aa_6, H', ⟨by have := HK1.out; have := HJ22.out; have := HJ33.out; have := HJ129.out; first | omega | exact Nat.le_refl _⟩, ⟨aa_9⟩, ⟨aa_18⟩, ⟨aa_1⟩, ⟨aa_5⟩, ⟨aa_2⟩, ⟨aa_4⟩, ⟨aa_17⟩⟩
    replace c136 := Bool.eq_false_iff.mpr c136
    subst c136
    have H1 : (j4 kj129 x6_1 21 0 a0_0 a0_1 a0_2 l0_3 x4z_1 x5z_1 t610 t613 ((rd_T48 l0_3 x6_1).f0) ((rd_T48 l0_3 x6_1).f1) ((rd_T48 l0_3 x6_1).f2) ((rd_T48 l0_3 x6_1).f3) ((rd_T48 l0_3 x6_1).f4) ((rd_T48 l0_3 x6_1).f5)) = some r := by rw [if_neg (show ¬ (false = true) by decide)] at H; exact H
    clear H
    have H := H1
    clear H1
    have H' := am_ H
    clear H
    have hnb142 := NB606_469.out
    have hnc142 := NB469_606.out
    have hnb143 := NB606_476.out
    have hnc143 := NB476_606.out
    have hnb144 := NB606_485.out
    have hnc144 := NB485_606.out
    have hcz145_0 : wc.cell? ⟨gb606, 0, none⟩ = some (.int .i64 ((rd_T48 l0_3 x6_1).f0)) := bc BK606 0
    have hcz145_1 : wc.cell? ⟨gb606, 1, none⟩ = some (.int .i64 ((rd_T48 l0_3 x6_1).f1)) := bc BK606 1
    have hcz145_2 : wc.cell? ⟨gb606, 2, none⟩ = some (.int .i64 ((rd_T48 l0_3 x6_1).f2)) := bc BK606 2
    have hcz145_3 : wc.cell? ⟨gb606, 3, none⟩ = some (.int .i64 ((rd_T48 l0_3 x6_1).f3)) := bc BK606 3
    have hcz145_4 : wc.cell? ⟨gb606, 4, none⟩ = some (.int .u64 ((rd_T48 l0_3 x6_1).f4)) := bc BK606 4
    have hcz145_5 : wc.cell? ⟨gb606, 5, none⟩ = some (.slice A605_5 ((rd_T48 l0_3 x6_1).f5).length c605_5) := bc BK606 5
    go_wp2_with (first | ((with_reducible refine gate_callee (f := 20) rfl ?_); refine goesL_ (some 171) rfl rfl Try.func20 (by kernel_rfl) rfl #[.pointer (some ⟨g485, 0, none⟩), .int .i64 (wrap64 (((rd_T48 l0_3 x6_1).f1) + ((rd_T48 l0_3 x6_1).f2))), .int .i64 ((rd_T48 l0_3 x6_1).f3)] rfl aa_0 ?_; (with_reducible refine (gangwayref9_Mem_Load.calls kj129 g485 (fun k_ => some k_ = (u6z : Value).ownBlock) u6z x6z_1 x7z_1 (wrap64 (((rd_T48 l0_3 x6_1).f1) + ((rd_T48 l0_3 x6_1).f2))) ((rd_T48 l0_3 x6_1).f3) t608 false t610 t613 w _ ?side1 ?side2 ?side3 A135.out).mono ?_); (case side1 => exact aa_4); (case side2 => exact aa_17); (case side3 => exact Kd.R_tight rfl HO_6z.out); rintro e w146 ⟨v611, rfl, ho0, hi, hb, hkp⟩; refine ⟨_, rfl, ?_⟩; have n0_ := am_ (Kd.R_mono (ok' := fun k_ => some k_ ≠ (v611 : Value).ownBlock) (Kd.R_keptB ((IsS54.apart HI485.out HO_4z.out (by decide))) hkp (fun k_ hk_ hs_ => Or.elim hs_ (fun hs_ => (hk_.1) hs_) (fun e_ => (hk_.2) e_))) (fun k_ hk_ => fun e_ => Or.elim (ho0.1 k_ e_.symm) (fun hs_ => hk_.2.1 (.inl hs_)) (fun hn_ => Nat.not_le.2 hk_.2.2 hn_))); have n1_ := am_ (bkept BK469 aa_1 hkp (fun hs_ => Or.elim hs_ (fun hs_ => (fun e_ => (Kd.R_ne HO_6z.out BK469.out (by decide)) e_) hs_) (fun e_ => NB469_485.out e_))); have n2_ := am_ (bkept BK606 aa_5 hkp (fun hs_ => Or.elim hs_ (fun hs_ => (fun e_ => (Kd.R_ne HO_6z.out BK606.out (by decide)) e_) hs_) (fun e_ => NB606_485.out e_))); have n3_ := am_ (IsS61.kept aa_2 hkp (fun hs_ => Or.elim hs_ (fun hs_ => (fun e_ => (IsS61.own_ne HI476.out HO_6z.out (by decide)) e_) hs_) (fun e_ => NB476_485.out e_))); have n4_ := am_ (hi); have n5_ := am_ (Kd.R_mono (ok' := fun k_ => some k_ ≠ (u4z : Value).ownBlock) ho0 (fun k_ hk_ => Or.elim hk_ (fun hs_ => fun e_ => ((((IsS54.apart HI485.out HO_4z.out (by decide))).1 k_ e_.symm).1) hs_) (fun hn_ => (Kd.fresh' (Kd.R_lt aa_9) k_ hn_)))); have n6_ := am_ (hb); clear HO_4z; clear BK469; clear BK606; clear HI476; clear HI485; clear HB; clear HO_6z; have HO_4z := n0_; have BK469 := n1_; have BK606 := n2_; have HI476 := n3_; have HI485 := n4_; have HO612 := n5_; have HB := n6_; clear n0_ n1_ n2_ n3_ n4_ n5_ n6_; (try clear hb); (try clear hkp); (try clear ho0)))
    go_meet
    case rel => exact ⟨_, (21), (0), (t610), (t613), (v611), aa_6, aa_6, H', ⟨by have := HK1.out; have := HJ22.out; have := HJ33.out; have := HJ129.out; first | omega | exact Nat.le_refl _⟩, ⟨aa_9⟩, ⟨aa_18⟩, ⟨aa_1⟩, ⟨aa_5⟩, ⟨aa_2⟩, ⟨aa_4⟩, ⟨aa_17⟩⟩
   case rest =>
   as_aux_lemma =>
   clear HC133
   try clear c132
   obtain ⟨kq, x9_132, x10_132, x6z_132, x7z_132, u6z, rfl, rfl, HA, HJ132, HO_4z, HO_6z, BK469, BK606, HI476, HI485, HB⟩ := hcut
   cases kq with
   | zero => exact absurd HA.out (by simp [j4])
   | succ kj132 =>
   have H := HA.out
   clear HA
   simp only [j4] at H
   replace H := bm_ H
   obtain ⟨⟨t614, t615, t616, t619⟩, A1470, H⟩ := H
   replace H : ((gangwaylaw9_num.f t615).bind fun t620 => (if t620 = x9_132 then (if t614 = x10_132 then (j9 kj132 x6_1 a0_0 a0_1 a0_2 l0_3 t616 t619 x6z_132 x7z_132) else (none)) else (none))) = some r := H
   have A147 := am_ A1470
   clear A1470
   replace H := bm_ H
   obtain ⟨t620, A1480, H⟩ := H
   replace H : (if t620 = x9_132 then (if t614 = x10_132 then (j9 kj132 x6_1 a0_0 a0_1 a0_2 l0_3 t616 t619 x6z_132 x7z_132) else (none)) else (none)) = some r := H
   have A148 := am_ A1480
   clear A1480
   by_cases c149 : t620 = x9_132
   rotate_left
   ·rw [if_neg c149] at H
    exact absurd H (by simp)
   rw [if_pos c149] at H
   have c149b0 : (t620 == x9_132) = true := beq_iff_eq.mpr c149
   have c149b1 : (t620 != x9_132) = false := bne_eq_false_iff_eq.mpr c149
   clear c149
   by_cases c150 : t614 = x10_132
   rotate_left
   ·rw [if_neg c150] at H
    exact absurd H (by simp)
   rw [if_pos c150] at H
   have c150b0 : (t614 == x10_132) = true := beq_iff_eq.mpr c150
   have c150b1 : (t614 != x10_132) = false := bne_eq_false_iff_eq.mpr c150
   clear c150
   have H' := am_ H
   clear H
   have hnb151 := NB606_469.out
   have hnc151 := NB469_606.out
   have hnb152 := NB606_476.out
   have hnc152 := NB476_606.out
   have hnb153 := NB606_485.out
   have hnc153 := NB485_606.out
   have hcz154_0 : wc.cell? ⟨gb606, 0, none⟩ = some (.int .i64 ((rd_T48 l0_3 x6_1).f0)) := bc BK606 0
   have hcz154_1 : wc.cell? ⟨gb606, 1, none⟩ = some (.int .i64 ((rd_T48 l0_3 x6_1).f1)) := bc BK606 1
   have hcz154_2 : wc.cell? ⟨gb606, 2, none⟩ = some (.int .i64 ((rd_T48 l0_3 x6_1).f2)) := bc BK606 2
   have hcz154_3 : wc.cell? ⟨gb606, 3, none⟩ = some (.int .i64 ((rd_T48 l0_3 x6_1).f3)) := bc BK606 3
   have hcz154_4 : wc.cell? ⟨gb606, 4, none⟩ = some (.int .u64 ((rd_T48 l0_3 x6_1).f4)) := bc BK606 4
   have hcz154_5 : wc.cell? ⟨gb606, 5, none⟩ = some (.slice A605_5 ((rd_T48 l0_3 x6_1).f5).length c605_5) := bc BK606 5
   go_wp2_with (first | ((with_reducible refine gate_callee (f := 11) rfl ?_); refine goesL_ (some 184) rfl rfl Try.func11 (by kernel_rfl) rfl #[.pointer (some ⟨g476, 0, none⟩), .int .i64 ((rd_T48 l0_3 x6_1).f1), .int .i64 ((rd_T48 l0_3 x6_1).f2), .int .i64 ((rd_T48 l0_3 x6_1).f3)] rfl aa_0 ?_; (with_reducible refine (mem_Memory_Load.calls kj132 g476 (fun k_ => some k_ = (u4z : Value).ownBlock) u4z x4z_1 x5z_1 ((rd_T48 l0_3 x6_1).f1) ((rd_T48 l0_3 x6_1).f2) ((rd_T48 l0_3 x6_1).f3) t614 t615 t616 t619 w _ ?side1 ?side2 ?side3 A147.out).mono ?_); (case side1 => exact aa_2); (case side2 => exact aa_17); (case side3 => exact Kd.R_tight rfl HO_4z.out); rintro e w155 ⟨v617, rfl, ho0, hi, hb, hkp⟩; refine ⟨_, rfl, ?_⟩; have n0_ := am_ (Kd.R_mono (ok' := fun k_ => some k_ ≠ (v617 : Value).ownBlock) (Kd.R_keptB ((IsS61.apart HI476.out HO_6z.out (by decide))) hkp (fun k_ hk_ hs_ => Or.elim hs_ (fun hs_ => (hk_.1) hs_) (fun e_ => (hk_.2) e_))) (fun k_ hk_ => fun e_ => Or.elim (ho0.1 k_ e_.symm) (fun hs_ => hk_.2.1 (.inl hs_)) (fun hn_ => Nat.not_le.2 hk_.2.2 hn_))); have n1_ := am_ (bkept BK469 aa_1 hkp (fun hs_ => Or.elim hs_ (fun hs_ => (fun e_ => (Kd.R_ne HO_4z.out BK469.out (by decide)) e_) hs_) (fun e_ => NB469_476.out e_))); have n2_ := am_ (bkept BK606 aa_5 hkp (fun hs_ => Or.elim hs_ (fun hs_ => (fun e_ => (Kd.R_ne HO_4z.out BK606.out (by decide)) e_) hs_) (fun e_ => NB606_476.out e_))); have n3_ := am_ (hi); have n4_ := am_ (IsS54.kept aa_4 hkp (fun hs_ => Or.elim hs_ (fun hs_ => (fun e_ => (IsS54.own_ne HI485.out HO_4z.out (by decide)) e_) hs_) (fun e_ => NB485_476.out e_))); have n5_ := am_ (Kd.R_mono (ok' := fun k_ => some k_ ≠ (u6z : Value).ownBlock) ho0 (fun k_ hk_ => Or.elim hk_ (fun hs_ => fun e_ => ((((IsS61.apart HI476.out HO_6z.out (by decide))).1 k_ e_.symm).1) hs_) (fun hn_ => (Kd.fresh' (Kd.R_lt aa_7) k_ hn_)))); have n6_ := am_ (hb); clear HO_6z; clear BK469; clear BK606; clear HI476; clear HI485; clear HB; clear HO_4z; have HO_6z := n0_; have BK469 := n1_; have BK606 := n2_; have HI476 := n3_; have HI485 := n4_; have HO618 := n5_; have HB := n6_; clear n0_ n1_ n2_ n3_ n4_ n5_ n6_; (try clear hb); (try clear hkp); (try clear ho0)) | ((with_reducible refine gate_callee (f := 8) rfl ?_); refine goesL_ (some 188) rfl rfl Try.func8 (by kernel_rfl) rfl #[.int .i64 t615] rfl aa_0 ?_; (with_reducible refine (gangwaylaw9_num.calls t615 t620 _ A148.out).mono ?_); rintro e w' ⟨rfl, ⟨nd, rfl⟩⟩; refine ⟨_, rfl, ?_⟩))
   go_meet
   case rel => exact ⟨_, (t616), (t619), (x6z_132), (x7z_132), (v617), (u6z), H', ⟨by have := HK1.out; have := HJ22.out; have := HJ33.out; have := HJ129.out; have := HJ132.out; first | omega | exact Nat.le_refl _⟩, ⟨by (with_reducible repeat (first | apply Kd.R_alloc | apply Kd.R_drewN | apply Kd.R_drew)); exact HO618.out⟩, ⟨aa_7⟩, ⟨aa_1⟩, ⟨aa_5⟩, ⟨aa_2⟩, ⟨aa_4⟩, ⟨aa_17⟩⟩
  as_aux_lemma =>
  replace c132 := Bool.eq_false_iff.mpr c132
  subst c132
  have H1 : (if t607 = 5 then ((gangwayref9_Mem_Has.f x6z_1 x7z_1 ((rd_T48 l0_3 x6_1).f1) ((rd_T48 l0_3 x6_1).f3)).bind fun bt621 => (if bt621.1 = true then (j5 kj129 x6_1 21 ([] : List Int) (decide (((rd_T48 l0_3 x6_1).f3) ≤ 5000)) a0_0 a0_1 a0_2 l0_3 x4z_1 x5z_1 bt621.2.1 bt621.2.2 ((rd_T48 l0_3 x6_1).f0) ((rd_T48 l0_3 x6_1).f1) ((rd_T48 l0_3 x6_1).f2) ((rd_T48 l0_3 x6_1).f3) ((rd_T48 l0_3 x6_1).f4) ((rd_T48 l0_3 x6_1).f5)) else (j5 kj129 x6_1 21 ([] : List Int) false a0_0 a0_1 a0_2 l0_3 x4z_1 x5z_1 bt621.2.1 bt621.2.2 ((rd_T48 l0_3 x6_1).f0) ((rd_T48 l0_3 x6_1).f1) ((rd_T48 l0_3 x6_1).f2) ((rd_T48 l0_3 x6_1).f3) ((rd_T48 l0_3 x6_1).f4) ((rd_T48 l0_3 x6_1).f5)))) else (if t607 = 6 then ((gangwayref9_Mem_Has.f x6z_1 x7z_1 ((rd_T48 l0_3 x6_1).f1) (((rd_T48 l0_3 x6_1).f5).length : Int)).bind fun bt665 => (if bt665.1 = true then (gangwaylaw9_MemExact.l1 kj129 x6_1 0 0 a0_0 a0_1 a0_2 l0_3 x4z_1 x5z_1 bt665.2.1 bt665.2.2 ((rd_T48 l0_3 x6_1).f0) ((rd_T48 l0_3 x6_1).f1) ((rd_T48 l0_3 x6_1).f2) ((rd_T48 l0_3 x6_1).f3) ((rd_T48 l0_3 x6_1).f4) ((rd_T48 l0_3 x6_1).f5)) else (j7 kj129 x6_1 21 a0_0 a0_1 a0_2 l0_3 x4z_1 x5z_1 bt665.2.1 bt665.2.2 ((rd_T48 l0_3 x6_1).f0) ((rd_T48 l0_3 x6_1).f1) ((rd_T48 l0_3 x6_1).f2) ((rd_T48 l0_3 x6_1).f3) ((rd_T48 l0_3 x6_1).f4) ((rd_T48 l0_3 x6_1).f5)))) else (if t607 = 7 then ((mem_Memory_Grow.f x4z_1 x5z_1 ((rd_T48 l0_3 x6_1).f3)).bind fun bt681 => ((gangwayref9_Mem_Grow.f x6z_1 x7z_1 ((rd_T48 l0_3 x6_1).f3)).bind fun bt686 => (if bt681.1 = bt686.1 then (j9 kj129 x6_1 a0_0 a0_1 a0_2 l0_3 bt681.2.1 bt681.2.2 bt686.2.1 bt686.2.2) else (none)))) else (if x8_33 = true then ((gangwayref9_Mem_Store.f kj129 x6z_1 x7z_1 (wrap64 (((rd_T48 l0_3 x6_1).f1) + ((rd_T48 l0_3 x6_1).f2))) ((rd_T48 l0_3 x6_1).f3) ((rd_T48 l0_3 x6_1).f4)).bind fun bt691 => (if bt691.1 = true then (j8 kj129 x6_1 0 a0_0 a0_1 a0_2 l0_3 x4z_1 x5z_1 bt691.2.1 bt691.2.2 ((rd_T48 l0_3 x6_1).f0) ((rd_T48 l0_3 x6_1).f1) ((rd_T48 l0_3 x6_1).f2) ((rd_T48 l0_3 x6_1).f3) ((rd_T48 l0_3 x6_1).f4) ((rd_T48 l0_3 x6_1).f5)) else (j8 kj129 x6_1 21 a0_0 a0_1 a0_2 l0_3 x4z_1 x5z_1 bt691.2.1 bt691.2.2 ((rd_T48 l0_3 x6_1).f0) ((rd_T48 l0_3 x6_1).f1) ((rd_T48 l0_3 x6_1).f2) ((rd_T48 l0_3 x6_1).f3) ((rd_T48 l0_3 x6_1).f4) ((rd_T48 l0_3 x6_1).f5)))) else (j8 kj129 x6_1 100 a0_0 a0_1 a0_2 l0_3 x4z_1 x5z_1 x6z_1 x7z_1 ((rd_T48 l0_3 x6_1).f0) ((rd_T48 l0_3 x6_1).f1) ((rd_T48 l0_3 x6_1).f2) ((rd_T48 l0_3 x6_1).f3) ((rd_T48 l0_3 x6_1).f4) ((rd_T48 l0_3 x6_1).f5)))))) = some r := by rw [if_neg (show ¬ (false = true) by decide)] at H; exact H
  clear H
  have H := H1
  clear H1
  by_cases c156 : t607 = 5
  ·as_aux_lemma =>
   rw [if_pos c156] at H
   have c156b0 : (t607 == 5) = true := beq_iff_eq.mpr c156
   have c156b1 : (t607 != 5) = false := bne_eq_false_iff_eq.mpr c156
   clear c156
   have HC157 := am_ H
   clear H
   go_upto_region 40 with (fail)
   go_cut [208] (fun v208 wc => ∃ (kq : Nat) (x208_156 : Bool) (x6z_156 : List Int) (x7z_156 : Int) (u6z : Value), v208 = .bool x208_156 ∧ Aside0 (j5 kq x6_1 21 ([] : List Int) x208_156 a0_0 a0_1 a0_2 l0_3 x4z_1 x5z_1 x6z_156 x7z_156 ((rd_T48 l0_3 x6_1).f0) ((rd_T48 l0_3 x6_1).f1) ((rd_T48 l0_3 x6_1).f2) ((rd_T48 l0_3 x6_1).f3) ((rd_T48 l0_3 x6_1).f4) ((rd_T48 l0_3 x6_1).f5) = some r) ∧ Aside0 (kq ≤ kj129) ∧ Aside0 (Kd.R (Kd.int .u8) 5 wc w.heap.size (fun k_ => some k_ ≠ (u4z : Value).ownBlock ∧ some k_ ≠ (u6z : Value).ownBlock) (.slice none 0 0) ([] : List Int)) ∧ Aside0 (Kd.R (Kd.int .u8) 5 wc w.heap.size (fun k_ => some k_ ≠ ((.slice none 0 0) : Value).ownBlock ∧ some k_ ≠ (u6z : Value).ownBlock) u4z x4z_1) ∧ Aside0 (Kd.R (Kd.int .u8) 5 wc w.heap.size (fun k_ => some k_ ≠ ((.slice none 0 0) : Value).ownBlock ∧ some k_ ≠ (u4z : Value).ownBlock) u6z x6z_156) ∧ Aside0 (wc.heap[gb469]? = some (.cells #[.int .i64 a0_0, .int .i64 a0_1, .int .i64 a0_2, (.slice (some ad605) l0_3.length c0_3)] 26 (0, 0))) ∧ Aside0 (wc.heap[gb606]? = some (.cells #[.int .i64 ((rd_T48 l0_3 x6_1).f0), .int .i64 ((rd_T48 l0_3 x6_1).f1), .int .i64 ((rd_T48 l0_3 x6_1).f2), .int .i64 ((rd_T48 l0_3 x6_1).f3), .int .u64 ((rd_T48 l0_3 x6_1).f4), (.slice A605_5 ((rd_T48 l0_3 x6_1).f5).length c605_5)] 48 (0, 0))) ∧ Aside0 (IsS61 w wc g476 u4z x5z_1) ∧ Aside0 (IsS54 w wc g485 u6z x7z_156) ∧ Aside0 (Below w.heap.size w wc))
   case first =>
    as_aux_lemma =>
    have H := HC157.out
    clear HC157
    replace H := bm_ H
    obtain ⟨⟨t621, t622, t625⟩, A1580, H⟩ := H
    replace H : (if t621 = true then (j5 kj129 x6_1 21 ([] : List Int) (decide (((rd_T48 l0_3 x6_1).f3) ≤ 5000)) a0_0 a0_1 a0_2 l0_3 x4z_1 x5z_1 t622 t625 ((rd_T48 l0_3 x6_1).f0) ((rd_T48 l0_3 x6_1).f1) ((rd_T48 l0_3 x6_1).f2) ((rd_T48 l0_3 x6_1).f3) ((rd_T48 l0_3 x6_1).f4) ((rd_T48 l0_3 x6_1).f5)) else (j5 kj129 x6_1 21 ([] : List Int) false a0_0 a0_1 a0_2 l0_3 x4z_1 x5z_1 t622 t625 ((rd_T48 l0_3 x6_1).f0) ((rd_T48 l0_3 x6_1).f1) ((rd_T48 l0_3 x6_1).f2) ((rd_T48 l0_3 x6_1).f3) ((rd_T48 l0_3 x6_1).f4) ((rd_T48 l0_3 x6_1).f5))) = some r := H
    have A158 := am_ A1580
    clear A1580
    by_cases c159 : t621 = true
    ·subst c159
     have H1 : (j5 kj129 x6_1 21 ([] : List Int) (decide (((rd_T48 l0_3 x6_1).f3) ≤ 5000)) a0_0 a0_1 a0_2 l0_3 x4z_1 x5z_1 t622 t625 ((rd_T48 l0_3 x6_1).f0) ((rd_T48 l0_3 x6_1).f1) ((rd_T48 l0_3 x6_1).f2) ((rd_T48 l0_3 x6_1).f3) ((rd_T48 l0_3 x6_1).f4) ((rd_T48 l0_3 x6_1).f5)) = some r := by rw [if_pos rfl] at H; exact H
     clear H
     have H := H1
     clear H1
     have H' := am_ H
     clear H
     have hnb160 := NB606_469.out
     have hnc160 := NB469_606.out
     have hnb161 := NB606_476.out
     have hnc161 := NB476_606.out
     have hnb162 := NB606_485.out
     have hnc162 := NB485_606.out
     have hcz163_0 : wc.cell? ⟨gb606, 0, none⟩ = some (.int .i64 ((rd_T48 l0_3 x6_1).f0)) := bc BK606 0
     have hcz163_1 : wc.cell? ⟨gb606, 1, none⟩ = some (.int .i64 ((rd_T48 l0_3 x6_1).f1)) := bc BK606 1
     have hcz163_2 : wc.cell? ⟨gb606, 2, none⟩ = some (.int .i64 ((rd_T48 l0_3 x6_1).f2)) := bc BK606 2
     have hcz163_3 : wc.cell? ⟨gb606, 3, none⟩ = some (.int .i64 ((rd_T48 l0_3 x6_1).f3)) := bc BK606 3
     have hcz163_4 : wc.cell? ⟨gb606, 4, none⟩ = some (.int .u64 ((rd_T48 l0_3 x6_1).f4)) := bc BK606 4
     have hcz163_5 : wc.cell? ⟨gb606, 5, none⟩ = some (.slice A605_5 ((rd_T48 l0_3 x6_1).f5).length c605_5) := bc BK606 5
     go_wp2_with (first | ((with_reducible refine gate_callee (f := 21) rfl ?_); refine goesL_ (some 203) rfl rfl Try.func21 (by kernel_rfl) rfl #[.pointer (some ⟨g485, 0, none⟩), .int .i64 ((rd_T48 l0_3 x6_1).f1), .int .i64 ((rd_T48 l0_3 x6_1).f3)] rfl aa_0 ?_; (with_reducible refine (gangwayref9_Mem_Has.calls g485 (fun k_ => some k_ = (u6z : Value).ownBlock) u6z x6z_1 x7z_1 ((rd_T48 l0_3 x6_1).f1) ((rd_T48 l0_3 x6_1).f3) true t622 t625 w _ ?side1 ?side2 ?side3 A158.out).mono ?_); (case side1 => exact aa_4); (case side2 => exact aa_17); (case side3 => exact Kd.R_tight rfl HO_6z.out); rintro e w164 ⟨v623, rfl, ho0, hi, hb, hkp⟩; refine ⟨_, rfl, ?_⟩; have n0_ := am_ (Kd.R_mono (ok' := fun k_ => some k_ ≠ (v623 : Value).ownBlock) (Kd.R_keptB ((IsS54.apart HI485.out HO_4z.out (by decide))) hkp (fun k_ hk_ hs_ => Or.elim hs_ (fun hs_ => (hk_.1) hs_) (fun e_ => (hk_.2) e_))) (fun k_ hk_ => fun e_ => Or.elim (ho0.1 k_ e_.symm) (fun hs_ => hk_.2.1 (.inl hs_)) (fun hn_ => Nat.not_le.2 hk_.2.2 hn_))); have n1_ := am_ (bkept BK469 aa_1 hkp (fun hs_ => Or.elim hs_ (fun hs_ => (fun e_ => (Kd.R_ne HO_6z.out BK469.out (by decide)) e_) hs_) (fun e_ => NB469_485.out e_))); have n2_ := am_ (bkept BK606 aa_5 hkp (fun hs_ => Or.elim hs_ (fun hs_ => (fun e_ => (Kd.R_ne HO_6z.out BK606.out (by decide)) e_) hs_) (fun e_ => NB606_485.out e_))); have n3_ := am_ (IsS61.kept aa_2 hkp (fun hs_ => Or.elim hs_ (fun hs_ => (fun e_ => (IsS61.own_ne HI476.out HO_6z.out (by decide)) e_) hs_) (fun e_ => NB476_485.out e_))); have n4_ := am_ (hi); have n5_ := am_ (Kd.R_mono (ok' := fun k_ => some k_ ≠ (u4z : Value).ownBlock) ho0 (fun k_ hk_ => Or.elim hk_ (fun hs_ => fun e_ => ((((IsS54.apart HI485.out HO_4z.out (by decide))).1 k_ e_.symm).1) hs_) (fun hn_ => (Kd.fresh' (Kd.R_lt aa_9) k_ hn_)))); have n6_ := am_ (hb); clear HO_4z; clear BK469; clear BK606; clear HI476; clear HI485; clear HB; clear HO_6z; have HO_4z := n0_; have BK469 := n1_; have BK606 := n2_; have HI476 := n3_; have HI485 := n4_; have HO624 := n5_; have HB := n6_; clear n0_ n1_ n2_ n3_ n4_ n5_ n6_; (try clear hb); (try clear hkp); (try clear ho0); have hcz165_0 : w164.cell? ⟨gb606, 0, none⟩ = some (.int .i64 ((rd_T48 l0_3 x6_1).f0)) := (bc BK606 0); have hcz165_1 : w164.cell? ⟨gb606, 1, none⟩ = some (.int .i64 ((rd_T48 l0_3 x6_1).f1)) := (bc BK606 1); have hcz165_2 : w164.cell? ⟨gb606, 2, none⟩ = some (.int .i64 ((rd_T48 l0_3 x6_1).f2)) := (bc BK606 2); have hcz165_3 : w164.cell? ⟨gb606, 3, none⟩ = some (.int .i64 ((rd_T48 l0_3 x6_1).f3)) := (bc BK606 3); have hcz165_4 : w164.cell? ⟨gb606, 4, none⟩ = some (.int .u64 ((rd_T48 l0_3 x6_1).f4)) := (bc BK606 4); have hcz165_5 : w164.cell? ⟨gb606, 5, none⟩ = some (.slice A605_5 ((rd_T48 l0_3 x6_1).f5).length c605_5) := (bc BK606 5)))
     go_meet
     case rel => exact ⟨_, (decide (((rd_T48 l0_3 x6_1).f3) ≤ 5000)), (t622), (t625), (v623), aa_6, H', ⟨by have := HK1.out; have := HJ22.out; have := HJ33.out; have := HJ129.out; first | omega | exact Nat.le_refl _⟩, ⟨by first | exact Kd.R_nil _ _ _ _ _ | exact Kd.N_nil _ _ _ _ _ | exact Kd.V_nil _ _ _ _ _ | exact Kd.Q_nil _ _ _ _ _ | exact Kd.S_nil _ _ _ _ _⟩, ⟨by (with_reducible repeat (first | apply Kd.R_alloc | apply Kd.R_drewN | apply Kd.R_drew)); exact Kd.R_mono HO_4z.out (fun _ hk => ⟨(by simp [Value.ownBlock]), hk⟩)⟩, ⟨by (with_reducible repeat (first | apply Kd.R_alloc | apply Kd.R_drewN | apply Kd.R_drew)); exact Kd.R_mono HO624.out (fun _ hk => ⟨(by simp [Value.ownBlock]), hk⟩)⟩, ⟨aa_1⟩, ⟨aa_5⟩, ⟨aa_2⟩, ⟨aa_4⟩, ⟨aa_17⟩⟩
    replace c159 := Bool.eq_false_iff.mpr c159
    subst c159
    have H1 : (j5 kj129 x6_1 21 ([] : List Int) false a0_0 a0_1 a0_2 l0_3 x4z_1 x5z_1 t622 t625 ((rd_T48 l0_3 x6_1).f0) ((rd_T48 l0_3 x6_1).f1) ((rd_T48 l0_3 x6_1).f2) ((rd_T48 l0_3 x6_1).f3) ((rd_T48 l0_3 x6_1).f4) ((rd_T48 l0_3 x6_1).f5)) = some r := by rw [if_neg (show ¬ (false = true) by decide)] at H; exact H
    clear H
    have H := H1
    clear H1
    have H' := am_ H
    clear H
    have hnb166 := NB606_469.out
    have hnc166 := NB469_606.out
    have hnb167 := NB606_476.out
    have hnc167 := NB476_606.out
    have hnb168 := NB606_485.out
    have hnc168 := NB485_606.out
    have hcz169_0 : wc.cell? ⟨gb606, 0, none⟩ = some (.int .i64 ((rd_T48 l0_3 x6_1).f0)) := bc BK606 0
    have hcz169_1 : wc.cell? ⟨gb606, 1, none⟩ = some (.int .i64 ((rd_T48 l0_3 x6_1).f1)) := bc BK606 1
    have hcz169_2 : wc.cell? ⟨gb606, 2, none⟩ = some (.int .i64 ((rd_T48 l0_3 x6_1).f2)) := bc BK606 2
    have hcz169_3 : wc.cell? ⟨gb606, 3, none⟩ = some (.int .i64 ((rd_T48 l0_3 x6_1).f3)) := bc BK606 3
    have hcz169_4 : wc.cell? ⟨gb606, 4, none⟩ = some (.int .u64 ((rd_T48 l0_3 x6_1).f4)) := bc BK606 4
    have hcz169_5 : wc.cell? ⟨gb606, 5, none⟩ = some (.slice A605_5 ((rd_T48 l0_3 x6_1).f5).length c605_5) := bc BK606 5
    go_wp2_with (first | ((with_reducible refine gate_callee (f := 21) rfl ?_); refine goesL_ (some 203) rfl rfl Try.func21 (by kernel_rfl) rfl #[.pointer (some ⟨g485, 0, none⟩), .int .i64 ((rd_T48 l0_3 x6_1).f1), .int .i64 ((rd_T48 l0_3 x6_1).f3)] rfl aa_0 ?_; (with_reducible refine (gangwayref9_Mem_Has.calls g485 (fun k_ => some k_ = (u6z : Value).ownBlock) u6z x6z_1 x7z_1 ((rd_T48 l0_3 x6_1).f1) ((rd_T48 l0_3 x6_1).f3) false t622 t625 w _ ?side1 ?side2 ?side3 A158.out).mono ?_); (case side1 => exact aa_4); (case side2 => exact aa_17); (case side3 => exact Kd.R_tight rfl HO_6z.out); rintro e w170 ⟨v623, rfl, ho0, hi, hb, hkp⟩; refine ⟨_, rfl, ?_⟩; have n0_ := am_ (Kd.R_mono (ok' := fun k_ => some k_ ≠ (v623 : Value).ownBlock) (Kd.R_keptB ((IsS54.apart HI485.out HO_4z.out (by decide))) hkp (fun k_ hk_ hs_ => Or.elim hs_ (fun hs_ => (hk_.1) hs_) (fun e_ => (hk_.2) e_))) (fun k_ hk_ => fun e_ => Or.elim (ho0.1 k_ e_.symm) (fun hs_ => hk_.2.1 (.inl hs_)) (fun hn_ => Nat.not_le.2 hk_.2.2 hn_))); have n1_ := am_ (bkept BK469 aa_1 hkp (fun hs_ => Or.elim hs_ (fun hs_ => (fun e_ => (Kd.R_ne HO_6z.out BK469.out (by decide)) e_) hs_) (fun e_ => NB469_485.out e_))); have n2_ := am_ (bkept BK606 aa_5 hkp (fun hs_ => Or.elim hs_ (fun hs_ => (fun e_ => (Kd.R_ne HO_6z.out BK606.out (by decide)) e_) hs_) (fun e_ => NB606_485.out e_))); have n3_ := am_ (IsS61.kept aa_2 hkp (fun hs_ => Or.elim hs_ (fun hs_ => (fun e_ => (IsS61.own_ne HI476.out HO_6z.out (by decide)) e_) hs_) (fun e_ => NB476_485.out e_))); have n4_ := am_ (hi); have n5_ := am_ (Kd.R_mono (ok' := fun k_ => some k_ ≠ (u4z : Value).ownBlock) ho0 (fun k_ hk_ => Or.elim hk_ (fun hs_ => fun e_ => ((((IsS54.apart HI485.out HO_4z.out (by decide))).1 k_ e_.symm).1) hs_) (fun hn_ => (Kd.fresh' (Kd.R_lt aa_9) k_ hn_)))); have n6_ := am_ (hb); clear HO_4z; clear BK469; clear BK606; clear HI476; clear HI485; clear HB; clear HO_6z; have HO_4z := n0_; have BK469 := n1_; have BK606 := n2_; have HI476 := n3_; have HI485 := n4_; have HO624 := n5_; have HB := n6_; clear n0_ n1_ n2_ n3_ n4_ n5_ n6_; (try clear hb); (try clear hkp); (try clear ho0)))
    go_meet
    case rel => exact ⟨_, (false), (t622), (t625), (v623), aa_6, H', ⟨by have := HK1.out; have := HJ22.out; have := HJ33.out; have := HJ129.out; first | omega | exact Nat.le_refl _⟩, ⟨by first | exact Kd.R_nil _ _ _ _ _ | exact Kd.N_nil _ _ _ _ _ | exact Kd.V_nil _ _ _ _ _ | exact Kd.Q_nil _ _ _ _ _ | exact Kd.S_nil _ _ _ _ _⟩, ⟨by (with_reducible repeat (first | apply Kd.R_alloc | apply Kd.R_drewN | apply Kd.R_drew)); exact Kd.R_mono HO_4z.out (fun _ hk => ⟨(by simp [Value.ownBlock]), hk⟩)⟩, ⟨by (with_reducible repeat (first | apply Kd.R_alloc | apply Kd.R_drewN | apply Kd.R_drew)); exact Kd.R_mono HO624.out (fun _ hk => ⟨(by simp [Value.ownBlock]), hk⟩)⟩, ⟨aa_1⟩, ⟨aa_5⟩, ⟨aa_2⟩, ⟨aa_4⟩, ⟨aa_17⟩⟩
   case rest =>
   as_aux_lemma =>
   clear HC157
   try clear c132
   try clear c156b0
   try clear c156b1
   obtain ⟨kq, x208_156, x6z_156, x7z_156, u6z, rfl, HA, HJ156, HO_16, HO_4z, HO_6z, BK469, BK606, HI476, HI485, HB⟩ := hcut
   cases kq with
   | zero => exact absurd HA.out (by simp [j5])
   | succ kj156 =>
   have H := HA.out
   clear HA
   simp only [j5] at H
   by_cases c171 : x208_156 = true
   rotate_left
   ·as_aux_lemma =>
    replace c171 := Bool.eq_false_iff.mpr c171
    subst c171
    have H1 : (if ((rd_T48 l0_3 x6_1).f3) > 5000 then ((gangwayref9_Mem_Has.f x6z_156 x7z_156 ((rd_T48 l0_3 x6_1).f1) ((rd_T48 l0_3 x6_1).f3)).bind fun bt630 => (if bt630.1 = true then (gangwaylaw9_MemExact.l0 kj156 (wrap64 (x6_1 + 1)) a0_0 a0_1 a0_2 l0_3 x4z_1 x5z_1 bt630.2.1 bt630.2.2) else ((mem_Memory_Read.f x4z_1 x5z_1 ((rd_T48 l0_3 x6_1).f1) ((rd_T48 l0_3 x6_1).f3)).bind fun bt645 => ((gangwaylaw9_num.f bt645.2.1).bind fun t653 => (if t653 = 21 then ((gangwayref0_EqBytes.f kj156 bt645.1 ([] : List Int)).bind fun t654 => (if t654 = true then ((gangwaylaw0_Bytes.f kj156 bt645.1).bind fun _ => (j9 kj156 x6_1 a0_0 a0_1 a0_2 l0_3 bt645.2.2.1 bt645.2.2.2 bt630.2.1 bt630.2.2)) else (none))) else (none)))))) else ((mem_Memory_Read.f x4z_1 x5z_1 ((rd_T48 l0_3 x6_1).f1) ((rd_T48 l0_3 x6_1).f3)).bind fun bt655 => ((gangwaylaw9_num.f bt655.2.1).bind fun t663 => (if t663 = 21 then ((gangwayref0_EqBytes.f kj156 bt655.1 ([] : List Int)).bind fun t664 => (if t664 = true then ((gangwaylaw0_Bytes.f kj156 bt655.1).bind fun _ => (j9 kj156 x6_1 a0_0 a0_1 a0_2 l0_3 bt655.2.2.1 bt655.2.2.2 x6z_156 x7z_156)) else (none))) else (none))))) = some r := by rw [if_neg (show ¬ (false = true) by decide)] at H; exact H
    clear H
    have H := H1
    clear H1
    by_cases c191 : ((rd_T48 l0_3 x6_1).f3) > 5000
    rotate_left
    ·as_aux_lemma =>
     rw [if_neg c191] at H
     have c191b0 : decide (5000 < ((rd_T48 l0_3 x6_1).f3)) = false := decide_eq_false c191
     clear c191
     replace H := bm_ H
     obtain ⟨⟨t655, t658, t659, t662⟩, A2140, H⟩ := H
     replace H : ((gangwaylaw9_num.f t658).bind fun t663 => (if t663 = 21 then ((gangwayref0_EqBytes.f kj156 t655 ([] : List Int)).bind fun t664 => (if t664 = true then ((gangwaylaw0_Bytes.f kj156 t655).bind fun _ => (j9 kj156 x6_1 a0_0 a0_1 a0_2 l0_3 t659 t662 x6z_156 x7z_156)) else (none))) else (none))) = some r := H
     have A214 := am_ A2140
     clear A2140
     replace H := bm_ H
     obtain ⟨t663, A2150, H⟩ := H
     replace H : (if t663 = 21 then ((gangwayref0_EqBytes.f kj156 t655 ([] : List Int)).bind fun t664 => (if t664 = true then ((gangwaylaw0_Bytes.f kj156 t655).bind fun _ => (j9 kj156 x6_1 a0_0 a0_1 a0_2 l0_3 t659 t662 x6z_156 x7z_156)) else (none))) else (none)) = some r := H
     have A215 := am_ A2150
     clear A2150
     by_cases c216 : t663 = 21
     rotate_left
     ·rw [if_neg c216] at H
      exact absurd H (by simp)
     as_aux_lemma =>
     rw [if_pos c216] at H
     have c216b0 : (t663 == 21) = true := beq_iff_eq.mpr c216
     have c216b1 : (t663 != 21) = false := bne_eq_false_iff_eq.mpr c216
     clear c216
     replace H := bm_ H
     obtain ⟨t664, A2170, H⟩ := H
     replace H : (if t664 = true then ((gangwaylaw0_Bytes.f kj156 t655).bind fun _ => (j9 kj156 x6_1 a0_0 a0_1 a0_2 l0_3 t659 t662 x6z_156 x7z_156)) else (none)) = some r := H
     have A217 := am_ A2170
     clear A2170
     by_cases c218 : t664 = true
     rotate_left
     ·replace c218 := Bool.eq_false_iff.mpr c218
      subst c218
      have H1 : (none) = some r := by rw [if_neg (show ¬ (false = true) by decide)] at H; exact H
      clear H
      have H := H1
      clear H1
      exact absurd H (by simp)
     subst c218
     have H1 : ((gangwaylaw0_Bytes.f kj156 t655).bind fun _ => (j9 kj156 x6_1 a0_0 a0_1 a0_2 l0_3 t659 t662 x6z_156 x7z_156)) = some r := by rw [if_pos rfl] at H; exact H
     clear H
     have H := H1
     clear H1
     replace H := bm_ H
     obtain ⟨_, A2190, H⟩ := H
     replace H : (j9 kj156 x6_1 a0_0 a0_1 a0_2 l0_3 t659 t662 x6z_156 x7z_156) = some r := H
     have A219 := am_ A2190
     clear A2190
     have H' := am_ H
     clear H
     have hnb220 := NB606_469.out
     have hnc220 := NB469_606.out
     have hnb221 := NB606_476.out
     have hnc221 := NB476_606.out
     have hnb222 := NB606_485.out
     have hnc222 := NB485_606.out
     have hcz223_0 : wc.cell? ⟨gb606, 0, none⟩ = some (.int .i64 ((rd_T48 l0_3 x6_1).f0)) := bc BK606 0
     have hcz223_1 : wc.cell? ⟨gb606, 1, none⟩ = some (.int .i64 ((rd_T48 l0_3 x6_1).f1)) := bc BK606 1
     have hcz223_2 : wc.cell? ⟨gb606, 2, none⟩ = some (.int .i64 ((rd_T48 l0_3 x6_1).f2)) := bc BK606 2
     have hcz223_3 : wc.cell? ⟨gb606, 3, none⟩ = some (.int .i64 ((rd_T48 l0_3 x6_1).f3)) := bc BK606 3
     have hcz223_4 : wc.cell? ⟨gb606, 4, none⟩ = some (.int .u64 ((rd_T48 l0_3 x6_1).f4)) := bc BK606 4
     have hcz223_5 : wc.cell? ⟨gb606, 5, none⟩ = some (.slice A605_5 ((rd_T48 l0_3 x6_1).f5).length c605_5) := bc BK606 5
     go_wp2_with (first | ((with_reducible refine gate_callee (f := 14) rfl ?_); refine goesL_ (some 238) rfl rfl Try.func14 (by kernel_rfl) rfl #[.pointer (some ⟨g476, 0, none⟩), .int .i64 ((rd_T48 l0_3 x6_1).f1), .int .i64 ((rd_T48 l0_3 x6_1).f3)] rfl aa_0 ?_; (with_reducible refine (mem_Memory_Read.calls g476 (fun k_ => some k_ = (u4z : Value).ownBlock) u4z x4z_1 x5z_1 ((rd_T48 l0_3 x6_1).f1) ((rd_T48 l0_3 x6_1).f3) t655 t658 t659 t662 w _ ?side1 ?side2 ?side3 A214.out).mono ?_); (case side1 => exact aa_2); (case side2 => exact aa_17); (case side3 => exact Kd.R_tight rfl HO_4z.out); rintro e w224 ⟨v656, v660, rfl, ho0, ho1, hi, hb, hkp⟩; refine ⟨_, rfl, ?_⟩; have n0_ := am_ (Kd.R_mono (ok' := fun k_ => some k_ ≠ (u6z : Value).ownBlock ∧ some k_ ≠ (v656 : Value).ownBlock ∧ some k_ ≠ (v660 : Value).ownBlock) (Kd.R_keptB ((IsS61.apart HI476.out HO_16.out (by decide))) hkp (fun k_ hk_ hs_ => Or.elim hs_ (fun hs_ => (hk_.1.1) hs_) (fun e_ => (hk_.2) e_))) (fun k_ hk_ => ⟨hk_.1.1.2, fun e_ => Or.elim (ho0.1 k_ e_.symm).1 (fun hs_ => hk_.2.1 (.inl hs_)) (fun hn_ => Nat.not_le.2 hk_.2.2 hn_), fun e_ => Or.elim (ho1.1 k_ e_.symm).1 (fun hs_ => hk_.2.1 (.inl hs_)) (fun hn_ => Nat.not_le.2 hk_.2.2 hn_)⟩)); have n1_ := am_ (Kd.R_mono (ok' := fun k_ => some k_ ≠ (.slice none 0 0 : Value).ownBlock ∧ some k_ ≠ (v656 : Value).ownBlock ∧ some k_ ≠ (v660 : Value).ownBlock) (Kd.R_keptB ((IsS61.apart HI476.out HO_6z.out (by decide))) hkp (fun k_ hk_ hs_ => Or.elim hs_ (fun hs_ => (hk_.1.2) hs_) (fun e_ => (hk_.2) e_))) (fun k_ hk_ => ⟨hk_.1.1.1, fun e_ => Or.elim (ho0.1 k_ e_.symm).1 (fun hs_ => hk_.2.1 (.inl hs_)) (fun hn_ => Nat.not_le.2 hk_.2.2 hn_), fun e_ => Or.elim (ho1.1 k_ e_.symm).1 (fun hs_ => hk_.2.1 (.inl hs_)) (fun hn_ => Nat.not_le.2 hk_.2.2 hn_)⟩)); have n2_ := am_ (bkept BK469 aa_1 hkp (fun hs_ => Or.elim hs_ (fun hs_ => (fun e_ => (Kd.R_ne HO_4z.out BK469.out (by decide)) e_) hs_) (fun e_ => NB469_476.out e_))); have n3_ := am_ (bkept BK606 aa_5 hkp (fun hs_ => Or.elim hs_ (fun hs_ => (fun e_ => (Kd.R_ne HO_4z.out BK606.out (by decide)) e_) hs_) (fun e_ => NB606_476.out e_))); have n4_ := am_ (hi); have n5_ := am_ (IsS54.kept aa_4 hkp (fun hs_ => Or.elim hs_ (fun hs_ => (fun e_ => (IsS54.own_ne HI485.out HO_4z.out (by decide)) e_) hs_) (fun e_ => NB485_476.out e_))); have n6_ := am_ (Kd.R_mono (ok' := fun k_ => some k_ ≠ (v660 : Value).ownBlock ∧ some k_ ≠ (.slice none 0 0 : Value).ownBlock ∧ some k_ ≠ (u6z : Value).ownBlock) ho0 (fun k_ hk_ => ⟨hk_.2, Or.elim hk_.1 (fun hs_ => fun e_ => ((((IsS61.apart HI476.out HO_16.out (by decide))).1 k_ e_.symm).1.1) hs_) (fun hn_ => (Kd.fresh' (Kd.R_lt aa_12) k_ hn_)), Or.elim hk_.1 (fun hs_ => fun e_ => ((((IsS61.apart HI476.out HO_6z.out (by decide))).1 k_ e_.symm).1.2) hs_) (fun hn_ => (Kd.fresh' (Kd.R_lt aa_7) k_ hn_))⟩)); have n7_ := am_ (Kd.R_mono (ok' := fun k_ => some k_ ≠ (v656 : Value).ownBlock ∧ some k_ ≠ (.slice none 0 0 : Value).ownBlock ∧ some k_ ≠ (u6z : Value).ownBlock) ho1 (fun k_ hk_ => ⟨hk_.2, Or.elim hk_.1 (fun hs_ => fun e_ => ((((IsS61.apart HI476.out HO_16.out (by decide))).1 k_ e_.symm).1.1) hs_) (fun hn_ => (Kd.fresh' (Kd.R_lt aa_12) k_ hn_)), Or.elim hk_.1 (fun hs_ => fun e_ => ((((IsS61.apart HI476.out HO_6z.out (by decide))).1 k_ e_.symm).1.2) hs_) (fun hn_ => (Kd.fresh' (Kd.R_lt aa_7) k_ hn_))⟩)); have n8_ := am_ (hb); clear HO_16; clear HO_6z; clear BK469; clear BK606; clear HI476; clear HI485; clear HB; clear HO_4z; have HO_16 := n0_; have HO_6z := n1_; have BK469 := n2_; have BK606 := n3_; have HI476 := n4_; have HI485 := n5_; have HO657 := n6_; have HO661 := n7_; have HB := n8_; clear n0_ n1_ n2_ n3_ n4_ n5_ n6_ n7_ n8_; (try clear hb); (try clear hkp); (try clear ho0); (try clear ho1)) | ((with_reducible refine gate_callee (f := 8) rfl ?_); refine goesL_ (some 242) rfl rfl Try.func8 (by kernel_rfl) rfl #[.int .i64 t658] rfl aa_0 ?_; (with_reducible refine (gangwaylaw9_num.calls t658 t663 _ A215.out).mono ?_); rintro e w' ⟨rfl, ⟨nd, rfl⟩⟩; refine ⟨_, rfl, ?_⟩; obtain ⟨Ao225, co225, eo225⟩ := Kd.R_slice HO657.out; subst eo225) | (go_at_call 22; refine calls_of_args (args' := #[.slice Ao225 t655.length co225, .slice none ([] : List Int).length 0]) (by first | (rw [show ([] : List Int).length = 0 from (Kd.R_reads' HO_16.out).1.symm] <;> rfl) | rfl) ?_; (with_reducible refine (gangwayref0_EqBytes.calls kj156 _ _ t655 _ _ ([] : List Int) true _ ?side1 ?side2 ?side3 ?side4 A217.out).mono ?_); (case side1 => repeat (first | exact (Kd.R_reads' HO657.out).2.2 | (with_reducible refine Kd.C_alloc ?_ _) | (with_reducible refine Kd.C_drewN ?_ _) | (with_reducible refine Kd.C_drew ?_))); (case side2 => exact (Kd.R_reads' HO657.out).2.1); (case side3 => exact aa_22); (case side4 => rw [show ([] : List Int).length = 0 from (Kd.R_reads' HO_16.out).1.symm]; exact (Kd.R_reads' HO_16.out).2.1); rintro e w' ⟨rfl, ⟨nd, rfl⟩⟩) | ((with_reducible refine gate_callee (f := 23) rfl ?_); refine goesL_ (some 252) rfl rfl Try.func23 (by kernel_rfl) rfl #[.slice Ao225 t655.length co225] rfl aa_0 ?_; (with_reducible refine (gangwaylaw0_Bytes.calls kj156 (fun k_ => some k_ = (.slice Ao225 t655.length co225 : Value).ownBlock) (.slice Ao225 t655.length co225) t655  w _ ?side1 ?side2 A219.out).mono ?_); (case side1 => exact aa_17); (case side2 => exact Kd.R_tight rfl HO657.out); rintro e w226 ⟨rfl, hb, hkp⟩; refine ⟨_, rfl, ?_⟩; have n0_ := am_ (Kd.R_mono (ok' := fun k_ => some k_ ≠ (u6z : Value).ownBlock ∧ some k_ ≠ (v660 : Value).ownBlock) (Kd.R_keptB (HO_16.out) hkp (fun k_ hk_ hs_ => (hk_.2.1) hs_)) (fun k_ hk_ => ⟨hk_.1.1, hk_.1.2.2⟩)); have n1_ := am_ (Kd.R_mono (ok' := fun k_ => some k_ ≠ (.slice none 0 0 : Value).ownBlock ∧ some k_ ≠ (v660 : Value).ownBlock) (Kd.R_keptB (HO_6z.out) hkp (fun k_ hk_ hs_ => (hk_.2.1) hs_)) (fun k_ hk_ => ⟨hk_.1.1, hk_.1.2.2⟩)); have n2_ := am_ (bkept BK469 aa_1 hkp (fun hs_ => (fun e_ => (Kd.R_ne HO657.out BK469.out (by decide)) e_) hs_)); have n3_ := am_ (bkept BK606 aa_5 hkp (fun hs_ => (fun e_ => (Kd.R_ne HO657.out BK606.out (by decide)) e_) hs_)); have n4_ := am_ (IsS61.kept aa_2 hkp (fun hs_ => (fun e_ => (IsS61.own_ne HI476.out HO657.out (by decide)) e_) hs_)); have n5_ := am_ (IsS54.kept aa_4 hkp (fun hs_ => (fun e_ => (IsS54.own_ne HI485.out HO657.out (by decide)) e_) hs_)); have n6_ := am_ (Kd.R_mono (ok' := fun k_ => some k_ ≠ (.slice none 0 0 : Value).ownBlock ∧ some k_ ≠ (u6z : Value).ownBlock) (Kd.R_keptB (HO661.out) hkp (fun k_ hk_ hs_ => (hk_.1) hs_)) (fun k_ hk_ => ⟨hk_.1.2.1, hk_.1.2.2⟩)); have n7_ := am_ (hb); clear HO_16; clear HO_6z; clear BK469; clear BK606; clear HI476; clear HI485; clear HO661; clear HB; clear HO657; have HO_16 := n0_; have HO_6z := n1_; have BK469 := n2_; have BK606 := n3_; have HI476 := n4_; have HI485 := n5_; have HO661 := n6_; have HB := n7_; clear n0_ n1_ n2_ n3_ n4_ n5_ n6_ n7_; (try clear hb); (try clear hkp)))
     go_meet
     case rel => exact ⟨_, (t659), (t662), (x6z_156), (x7z_156), (v660), (u6z), H', ⟨by have := HK1.out; have := HJ22.out; have := HJ33.out; have := HJ129.out; have := HJ156.out; first | omega | exact Nat.le_refl _⟩, ⟨by (with_reducible repeat (first | apply Kd.R_alloc | apply Kd.R_drewN | apply Kd.R_drew)); exact Kd.R_mono HO661.out (fun _ hk => hk.2)⟩, ⟨by (with_reducible repeat (first | apply Kd.R_alloc | apply Kd.R_drewN | apply Kd.R_drew)); exact Kd.R_mono HO_6z.out (fun _ hk => hk.2)⟩, ⟨aa_1⟩, ⟨aa_5⟩, ⟨aa_2⟩, ⟨aa_4⟩, ⟨aa_17⟩⟩
    as_aux_lemma =>
    rw [if_pos c191] at H
    have c191b0 : decide (5000 < ((rd_T48 l0_3 x6_1).f3)) = true := decide_eq_true c191
    clear c191
    replace H := bm_ H
    obtain ⟨⟨t630, t631, t634⟩, A1920, H⟩ := H
    replace H : (if t630 = true then (gangwaylaw9_MemExact.l0 kj156 (wrap64 (x6_1 + 1)) a0_0 a0_1 a0_2 l0_3 x4z_1 x5z_1 t631 t634) else ((mem_Memory_Read.f x4z_1 x5z_1 ((rd_T48 l0_3 x6_1).f1) ((rd_T48 l0_3 x6_1).f3)).bind fun bt645 => ((gangwaylaw9_num.f bt645.2.1).bind fun t653 => (if t653 = 21 then ((gangwayref0_EqBytes.f kj156 bt645.1 ([] : List Int)).bind fun t654 => (if t654 = true then ((gangwaylaw0_Bytes.f kj156 bt645.1).bind fun _ => (j9 kj156 x6_1 a0_0 a0_1 a0_2 l0_3 bt645.2.2.1 bt645.2.2.2 t631 t634)) else (none))) else (none))))) = some r := H
    have A192 := am_ A1920
    clear A1920
    by_cases c193 : t630 = true
    ·subst c193
     have H1 : (gangwaylaw9_MemExact.l0 kj156 (wrap64 (x6_1 + 1)) a0_0 a0_1 a0_2 l0_3 x4z_1 x5z_1 t631 t634) = some r := by rw [if_pos rfl] at H; exact H
     clear H
     have H := H1
     clear H1
     have H' := am_ H
     clear H
     have hnb194 := NB606_469.out
     have hnc194 := NB469_606.out
     have hnb195 := NB606_476.out
     have hnc195 := NB476_606.out
     have hnb196 := NB606_485.out
     have hnc196 := NB485_606.out
     have hcz197_0 : wc.cell? ⟨gb606, 0, none⟩ = some (.int .i64 ((rd_T48 l0_3 x6_1).f0)) := bc BK606 0
     have hcz197_1 : wc.cell? ⟨gb606, 1, none⟩ = some (.int .i64 ((rd_T48 l0_3 x6_1).f1)) := bc BK606 1
     have hcz197_2 : wc.cell? ⟨gb606, 2, none⟩ = some (.int .i64 ((rd_T48 l0_3 x6_1).f2)) := bc BK606 2
     have hcz197_3 : wc.cell? ⟨gb606, 3, none⟩ = some (.int .i64 ((rd_T48 l0_3 x6_1).f3)) := bc BK606 3
     have hcz197_4 : wc.cell? ⟨gb606, 4, none⟩ = some (.int .u64 ((rd_T48 l0_3 x6_1).f4)) := bc BK606 4
     have hcz197_5 : wc.cell? ⟨gb606, 5, none⟩ = some (.slice A605_5 ((rd_T48 l0_3 x6_1).f5).length c605_5) := bc BK606 5
     go_wp2_with (first | (go_at_call 21; (with_reducible refine (gangwayref9_Mem_Has.calls g485 (fun k_ => some k_ = (u6z : Value).ownBlock) u6z x6z_156 x7z_156 ((rd_T48 l0_3 x6_1).f1) ((rd_T48 l0_3 x6_1).f3) true t631 t634 w _ ?side1 ?side2 ?side3 A192.out).mono ?_); (case side1 => exact aa_4); (case side2 => exact aa_17); (case side3 => exact Kd.R_tight rfl HO_6z.out); rintro e w198 ⟨v632, rfl, ho0, hi, hb, hkp⟩; have n0_ := am_ (Kd.R_mono (ok' := fun k_ => some k_ ≠ (u4z : Value).ownBlock ∧ some k_ ≠ (v632 : Value).ownBlock) (Kd.R_keptB ((IsS54.apart HI485.out HO_16.out (by decide))) hkp (fun k_ hk_ hs_ => Or.elim hs_ (fun hs_ => (hk_.1.2) hs_) (fun e_ => (hk_.2) e_))) (fun k_ hk_ => ⟨hk_.1.1.1, fun e_ => Or.elim (ho0.1 k_ e_.symm) (fun hs_ => hk_.2.1 (.inl hs_)) (fun hn_ => Nat.not_le.2 hk_.2.2 hn_)⟩)); have n1_ := am_ (Kd.R_mono (ok' := fun k_ => some k_ ≠ (.slice none 0 0 : Value).ownBlock ∧ some k_ ≠ (v632 : Value).ownBlock) (Kd.R_keptB ((IsS54.apart HI485.out HO_4z.out (by decide))) hkp (fun k_ hk_ hs_ => Or.elim hs_ (fun hs_ => (hk_.1.2) hs_) (fun e_ => (hk_.2) e_))) (fun k_ hk_ => ⟨hk_.1.1.1, fun e_ => Or.elim (ho0.1 k_ e_.symm) (fun hs_ => hk_.2.1 (.inl hs_)) (fun hn_ => Nat.not_le.2 hk_.2.2 hn_)⟩)); have n2_ := am_ (bkept BK469 aa_1 hkp (fun hs_ => Or.elim hs_ (fun hs_ => (fun e_ => (Kd.R_ne HO_6z.out BK469.out (by decide)) e_) hs_) (fun e_ => NB469_485.out e_))); have n3_ := am_ (bkept BK606 aa_5 hkp (fun hs_ => Or.elim hs_ (fun hs_ => (fun e_ => (Kd.R_ne HO_6z.out BK606.out (by decide)) e_) hs_) (fun e_ => NB606_485.out e_))); have n4_ := am_ (IsS61.kept aa_2 hkp (fun hs_ => Or.elim hs_ (fun hs_ => (fun e_ => (IsS61.own_ne HI476.out HO_6z.out (by decide)) e_) hs_) (fun e_ => NB476_485.out e_))); have n5_ := am_ (hi); have n6_ := am_ (Kd.R_mono (ok' := fun k_ => some k_ ≠ (.slice none 0 0 : Value).ownBlock ∧ some k_ ≠ (u4z : Value).ownBlock) ho0 (fun k_ hk_ => ⟨Or.elim hk_ (fun hs_ => fun e_ => ((((IsS54.apart HI485.out HO_16.out (by decide))).1 k_ e_.symm).1.2) hs_) (fun hn_ => (Kd.fresh' (Kd.R_lt aa_12) k_ hn_)), Or.elim hk_ (fun hs_ => fun e_ => ((((IsS54.apart HI485.out HO_4z.out (by decide))).1 k_ e_.symm).1.2) hs_) (fun hn_ => (Kd.fresh' (Kd.R_lt aa_9) k_ hn_))⟩)); have n7_ := am_ (hb); clear HO_16; clear HO_4z; clear BK469; clear BK606; clear HI476; clear HI485; clear HB; clear HO_6z; have HO_16 := n0_; have HO_4z := n1_; have BK469 := n2_; have BK606 := n3_; have HI476 := n4_; have HI485 := n5_; have HO633 := n6_; have HB := n7_; clear n0_ n1_ n2_ n3_ n4_ n5_ n6_ n7_; (try clear hb); (try clear hkp); (try clear ho0)))
     go_roundg kj156
     case measure => have := HK1.out; have := HJ22.out; have := HJ33.out; have := HJ129.out; have := HJ156.out; omega
     case rel => exact ⟨(wrap64 (x6_1 + 1)), (x4z_1), (x5z_1), (t631), (t634), (u4z), (v632), aa_6, H', ⟨by have := HK1.out; have := HJ22.out; have := HJ33.out; have := HJ129.out; have := HJ156.out; omega⟩, ⟨by (with_reducible repeat (first | apply Kd.R_alloc | apply Kd.R_drewN | apply Kd.R_drew)); exact Kd.R_mono HO_4z.out (fun _ hk => hk.2)⟩, ⟨by (with_reducible repeat (first | apply Kd.R_alloc | apply Kd.R_drewN | apply Kd.R_drew)); exact Kd.R_mono HO633.out (fun _ hk => hk.2)⟩, ⟨aa_1⟩, ⟨aa_2⟩, ⟨aa_4⟩, ⟨aa_17⟩⟩
    as_aux_lemma =>
    replace c193 := Bool.eq_false_iff.mpr c193
    subst c193
    have H1 : ((mem_Memory_Read.f x4z_1 x5z_1 ((rd_T48 l0_3 x6_1).f1) ((rd_T48 l0_3 x6_1).f3)).bind fun bt645 => ((gangwaylaw9_num.f bt645.2.1).bind fun t653 => (if t653 = 21 then ((gangwayref0_EqBytes.f kj156 bt645.1 ([] : List Int)).bind fun t654 => (if t654 = true then ((gangwaylaw0_Bytes.f kj156 bt645.1).bind fun _ => (j9 kj156 x6_1 a0_0 a0_1 a0_2 l0_3 bt645.2.2.1 bt645.2.2.2 t631 t634)) else (none))) else (none)))) = some r := by rw [if_neg (show ¬ (false = true) by decide)] at H; exact H
    clear H
    have H := H1
    clear H1
    replace H := bm_ H
    obtain ⟨⟨t645, t648, t649, t652⟩, A1990, H⟩ := H
    replace H : ((gangwaylaw9_num.f t648).bind fun t653 => (if t653 = 21 then ((gangwayref0_EqBytes.f kj156 t645 ([] : List Int)).bind fun t654 => (if t654 = true then ((gangwaylaw0_Bytes.f kj156 t645).bind fun _ => (j9 kj156 x6_1 a0_0 a0_1 a0_2 l0_3 t649 t652 t631 t634)) else (none))) else (none))) = some r := H
    have A199 := am_ A1990
    clear A1990
    replace H := bm_ H
    obtain ⟨t653, A2000, H⟩ := H
    replace H : (if t653 = 21 then ((gangwayref0_EqBytes.f kj156 t645 ([] : List Int)).bind fun t654 => (if t654 = true then ((gangwaylaw0_Bytes.f kj156 t645).bind fun _ => (j9 kj156 x6_1 a0_0 a0_1 a0_2 l0_3 t649 t652 t631 t634)) else (none))) else (none)) = some r := H
    have A200 := am_ A2000
    clear A2000
    by_cases c201 : t653 = 21
    rotate_left
    ·rw [if_neg c201] at H
     exact absurd H (by simp)
    as_aux_lemma =>
    rw [if_pos c201] at H
    have c201b0 : (t653 == 21) = true := beq_iff_eq.mpr c201
    have c201b1 : (t653 != 21) = false := bne_eq_false_iff_eq.mpr c201
    clear c201
    replace H := bm_ H
    obtain ⟨t654, A2020, H⟩ := H
    replace H : (if t654 = true then ((gangwaylaw0_Bytes.f kj156 t645).bind fun _ => (j9 kj156 x6_1 a0_0 a0_1 a0_2 l0_3 t649 t652 t631 t634)) else (none)) = some r := H
    have A202 := am_ A2020
    clear A2020
    by_cases c203 : t654 = true
    rotate_left
    ·replace c203 := Bool.eq_false_iff.mpr c203
     subst c203
     have H1 : (none) = some r := by rw [if_neg (show ¬ (false = true) by decide)] at H; exact H
     clear H
     have H := H1
     clear H1
     exact absurd H (by simp)
    subst c203
    have H1 : ((gangwaylaw0_Bytes.f kj156 t645).bind fun _ => (j9 kj156 x6_1 a0_0 a0_1 a0_2 l0_3 t649 t652 t631 t634)) = some r := by rw [if_pos rfl] at H; exact H
    clear H
    have H := H1
    clear H1
    replace H := bm_ H
    obtain ⟨_, A2040, H⟩ := H
    replace H : (j9 kj156 x6_1 a0_0 a0_1 a0_2 l0_3 t649 t652 t631 t634) = some r := H
    have A204 := am_ A2040
    clear A2040
    have H' := am_ H
    clear H
    have hnb205 := NB606_469.out
    have hnc205 := NB469_606.out
    have hnb206 := NB606_476.out
    have hnc206 := NB476_606.out
    have hnb207 := NB606_485.out
    have hnc207 := NB485_606.out
    have hcz208_0 : wc.cell? ⟨gb606, 0, none⟩ = some (.int .i64 ((rd_T48 l0_3 x6_1).f0)) := bc BK606 0
    have hcz208_1 : wc.cell? ⟨gb606, 1, none⟩ = some (.int .i64 ((rd_T48 l0_3 x6_1).f1)) := bc BK606 1
    have hcz208_2 : wc.cell? ⟨gb606, 2, none⟩ = some (.int .i64 ((rd_T48 l0_3 x6_1).f2)) := bc BK606 2
    have hcz208_3 : wc.cell? ⟨gb606, 3, none⟩ = some (.int .i64 ((rd_T48 l0_3 x6_1).f3)) := bc BK606 3
    have hcz208_4 : wc.cell? ⟨gb606, 4, none⟩ = some (.int .u64 ((rd_T48 l0_3 x6_1).f4)) := bc BK606 4
    have hcz208_5 : wc.cell? ⟨gb606, 5, none⟩ = some (.slice A605_5 ((rd_T48 l0_3 x6_1).f5).length c605_5) := bc BK606 5
    go_wp2_with (first | (go_at_call 21; (with_reducible refine (gangwayref9_Mem_Has.calls g485 (fun k_ => some k_ = (u6z : Value).ownBlock) u6z x6z_156 x7z_156 ((rd_T48 l0_3 x6_1).f1) ((rd_T48 l0_3 x6_1).f3) false t631 t634 w _ ?side1 ?side2 ?side3 A192.out).mono ?_); (case side1 => exact aa_4); (case side2 => exact aa_17); (case side3 => exact Kd.R_tight rfl HO_6z.out); rintro e w209 ⟨v632, rfl, ho0, hi, hb, hkp⟩; have n0_ := am_ (Kd.R_mono (ok' := fun k_ => some k_ ≠ (u4z : Value).ownBlock ∧ some k_ ≠ (v632 : Value).ownBlock) (Kd.R_keptB ((IsS54.apart HI485.out HO_16.out (by decide))) hkp (fun k_ hk_ hs_ => Or.elim hs_ (fun hs_ => (hk_.1.2) hs_) (fun e_ => (hk_.2) e_))) (fun k_ hk_ => ⟨hk_.1.1.1, fun e_ => Or.elim (ho0.1 k_ e_.symm) (fun hs_ => hk_.2.1 (.inl hs_)) (fun hn_ => Nat.not_le.2 hk_.2.2 hn_)⟩)); have n1_ := am_ (Kd.R_mono (ok' := fun k_ => some k_ ≠ (.slice none 0 0 : Value).ownBlock ∧ some k_ ≠ (v632 : Value).ownBlock) (Kd.R_keptB ((IsS54.apart HI485.out HO_4z.out (by decide))) hkp (fun k_ hk_ hs_ => Or.elim hs_ (fun hs_ => (hk_.1.2) hs_) (fun e_ => (hk_.2) e_))) (fun k_ hk_ => ⟨hk_.1.1.1, fun e_ => Or.elim (ho0.1 k_ e_.symm) (fun hs_ => hk_.2.1 (.inl hs_)) (fun hn_ => Nat.not_le.2 hk_.2.2 hn_)⟩)); have n2_ := am_ (bkept BK469 aa_1 hkp (fun hs_ => Or.elim hs_ (fun hs_ => (fun e_ => (Kd.R_ne HO_6z.out BK469.out (by decide)) e_) hs_) (fun e_ => NB469_485.out e_))); have n3_ := am_ (bkept BK606 aa_5 hkp (fun hs_ => Or.elim hs_ (fun hs_ => (fun e_ => (Kd.R_ne HO_6z.out BK606.out (by decide)) e_) hs_) (fun e_ => NB606_485.out e_))); have n4_ := am_ (IsS61.kept aa_2 hkp (fun hs_ => Or.elim hs_ (fun hs_ => (fun e_ => (IsS61.own_ne HI476.out HO_6z.out (by decide)) e_) hs_) (fun e_ => NB476_485.out e_))); have n5_ := am_ (hi); have n6_ := am_ (Kd.R_mono (ok' := fun k_ => some k_ ≠ (.slice none 0 0 : Value).ownBlock ∧ some k_ ≠ (u4z : Value).ownBlock) ho0 (fun k_ hk_ => ⟨Or.elim hk_ (fun hs_ => fun e_ => ((((IsS54.apart HI485.out HO_16.out (by decide))).1 k_ e_.symm).1.2) hs_) (fun hn_ => (Kd.fresh' (Kd.R_lt aa_12) k_ hn_)), Or.elim hk_ (fun hs_ => fun e_ => ((((IsS54.apart HI485.out HO_4z.out (by decide))).1 k_ e_.symm).1.2) hs_) (fun hn_ => (Kd.fresh' (Kd.R_lt aa_9) k_ hn_))⟩)); have n7_ := am_ (hb); clear HO_16; clear HO_4z; clear BK469; clear BK606; clear HI476; clear HI485; clear HB; clear HO_6z; have HO_16 := n0_; have HO_4z := n1_; have BK469 := n2_; have BK606 := n3_; have HI476 := n4_; have HI485 := n5_; have HO633 := n6_; have HB := n7_; clear n0_ n1_ n2_ n3_ n4_ n5_ n6_ n7_; (try clear hb); (try clear hkp); (try clear ho0); have hcz210_0 : w209.cell? ⟨gb606, 0, none⟩ = some (.int .i64 ((rd_T48 l0_3 x6_1).f0)) := (bc BK606 0); have hcz210_1 : w209.cell? ⟨gb606, 1, none⟩ = some (.int .i64 ((rd_T48 l0_3 x6_1).f1)) := (bc BK606 1); have hcz210_2 : w209.cell? ⟨gb606, 2, none⟩ = some (.int .i64 ((rd_T48 l0_3 x6_1).f2)) := (bc BK606 2); have hcz210_3 : w209.cell? ⟨gb606, 3, none⟩ = some (.int .i64 ((rd_T48 l0_3 x6_1).f3)) := (bc BK606 3); have hcz210_4 : w209.cell? ⟨gb606, 4, none⟩ = some (.int .u64 ((rd_T48 l0_3 x6_1).f4)) := (bc BK606 4); have hcz210_5 : w209.cell? ⟨gb606, 5, none⟩ = some (.slice A605_5 ((rd_T48 l0_3 x6_1).f5).length c605_5) := (bc BK606 5)) | ((with_reducible refine gate_callee (f := 14) rfl ?_); refine goesL_ (some 238) rfl rfl Try.func14 (by kernel_rfl) rfl #[.pointer (some ⟨g476, 0, none⟩), .int .i64 ((rd_T48 l0_3 x6_1).f1), .int .i64 ((rd_T48 l0_3 x6_1).f3)] rfl aa_0 ?_; (with_reducible refine (mem_Memory_Read.calls g476 (fun k_ => some k_ = (u4z : Value).ownBlock) u4z x4z_1 x5z_1 ((rd_T48 l0_3 x6_1).f1) ((rd_T48 l0_3 x6_1).f3) t645 t648 t649 t652 w _ ?side1 ?side2 ?side3 A199.out).mono ?_); (case side1 => exact aa_2); (case side2 => exact aa_17); (case side3 => exact Kd.R_tight rfl HO_4z.out); rintro e w211 ⟨v646, v650, rfl, ho0, ho1, hi, hb, hkp⟩; refine ⟨_, rfl, ?_⟩; have n0_ := am_ (Kd.R_mono (ok' := fun k_ => some k_ ≠ (v632 : Value).ownBlock ∧ some k_ ≠ (v646 : Value).ownBlock ∧ some k_ ≠ (v650 : Value).ownBlock) (Kd.R_keptB ((IsS61.apart HI476.out HO_16.out (by decide))) hkp (fun k_ hk_ hs_ => Or.elim hs_ (fun hs_ => (hk_.1.1) hs_) (fun e_ => (hk_.2) e_))) (fun k_ hk_ => ⟨hk_.1.1.2, fun e_ => Or.elim (ho0.1 k_ e_.symm).1 (fun hs_ => hk_.2.1 (.inl hs_)) (fun hn_ => Nat.not_le.2 hk_.2.2 hn_), fun e_ => Or.elim (ho1.1 k_ e_.symm).1 (fun hs_ => hk_.2.1 (.inl hs_)) (fun hn_ => Nat.not_le.2 hk_.2.2 hn_)⟩)); have n1_ := am_ (bkept BK469 aa_1 hkp (fun hs_ => Or.elim hs_ (fun hs_ => (fun e_ => (Kd.R_ne HO_4z.out BK469.out (by decide)) e_) hs_) (fun e_ => NB469_476.out e_))); have n2_ := am_ (bkept BK606 aa_5 hkp (fun hs_ => Or.elim hs_ (fun hs_ => (fun e_ => (Kd.R_ne HO_4z.out BK606.out (by decide)) e_) hs_) (fun e_ => NB606_476.out e_))); have n3_ := am_ (hi); have n4_ := am_ (IsS54.kept aa_4 hkp (fun hs_ => Or.elim hs_ (fun hs_ => (fun e_ => (IsS54.own_ne HI485.out HO_4z.out (by decide)) e_) hs_) (fun e_ => NB485_476.out e_))); have n5_ := am_ (Kd.R_mono (ok' := fun k_ => some k_ ≠ (.slice none 0 0 : Value).ownBlock ∧ some k_ ≠ (v646 : Value).ownBlock ∧ some k_ ≠ (v650 : Value).ownBlock) (Kd.R_keptB ((IsS61.apart HI476.out HO633.out (by decide))) hkp (fun k_ hk_ hs_ => Or.elim hs_ (fun hs_ => (hk_.1.2) hs_) (fun e_ => (hk_.2) e_))) (fun k_ hk_ => ⟨hk_.1.1.1, fun e_ => Or.elim (ho0.1 k_ e_.symm).1 (fun hs_ => hk_.2.1 (.inl hs_)) (fun hn_ => Nat.not_le.2 hk_.2.2 hn_), fun e_ => Or.elim (ho1.1 k_ e_.symm).1 (fun hs_ => hk_.2.1 (.inl hs_)) (fun hn_ => Nat.not_le.2 hk_.2.2 hn_)⟩)); have n6_ := am_ (Kd.R_mono (ok' := fun k_ => some k_ ≠ (v650 : Value).ownBlock ∧ some k_ ≠ (.slice none 0 0 : Value).ownBlock ∧ some k_ ≠ (v632 : Value).ownBlock) ho0 (fun k_ hk_ => ⟨hk_.2, Or.elim hk_.1 (fun hs_ => fun e_ => ((((IsS61.apart HI476.out HO_16.out (by decide))).1 k_ e_.symm).1.1) hs_) (fun hn_ => (Kd.fresh' (Kd.R_lt aa_12) k_ hn_)), Or.elim hk_.1 (fun hs_ => fun e_ => ((((IsS61.apart HI476.out HO633.out (by decide))).1 k_ e_.symm).1.2) hs_) (fun hn_ => (Kd.fresh' (Kd.R_lt (by (with_reducible repeat (first | apply Kd.R_alloc | apply Kd.R_drewN | apply Kd.R_drew)); exact HO633.out)) k_ hn_))⟩)); have n7_ := am_ (Kd.R_mono (ok' := fun k_ => some k_ ≠ (v646 : Value).ownBlock ∧ some k_ ≠ (.slice none 0 0 : Value).ownBlock ∧ some k_ ≠ (v632 : Value).ownBlock) ho1 (fun k_ hk_ => ⟨hk_.2, Or.elim hk_.1 (fun hs_ => fun e_ => ((((IsS61.apart HI476.out HO_16.out (by decide))).1 k_ e_.symm).1.1) hs_) (fun hn_ => (Kd.fresh' (Kd.R_lt aa_12) k_ hn_)), Or.elim hk_.1 (fun hs_ => fun e_ => ((((IsS61.apart HI476.out HO633.out (by decide))).1 k_ e_.symm).1.2) hs_) (fun hn_ => (Kd.fresh' (Kd.R_lt (by (with_reducible repeat (first | apply Kd.R_alloc | apply Kd.R_drewN | apply Kd.R_drew)); exact HO633.out)) k_ hn_))⟩)); have n8_ := am_ (hb); clear HO_16; clear BK469; clear BK606; clear HI476; clear HI485; clear HO633; clear HB; clear HO_4z; have HO_16 := n0_; have BK469 := n1_; have BK606 := n2_; have HI476 := n3_; have HI485 := n4_; have HO633 := n5_; have HO647 := n6_; have HO651 := n7_; have HB := n8_; clear n0_ n1_ n2_ n3_ n4_ n5_ n6_ n7_ n8_; (try clear hb); (try clear hkp); (try clear ho0); (try clear ho1)) | ((with_reducible refine gate_callee (f := 8) rfl ?_); refine goesL_ (some 242) rfl rfl Try.func8 (by kernel_rfl) rfl #[.int .i64 t648] rfl aa_0 ?_; (with_reducible refine (gangwaylaw9_num.calls t648 t653 _ A200.out).mono ?_); rintro e w' ⟨rfl, ⟨nd, rfl⟩⟩; refine ⟨_, rfl, ?_⟩; obtain ⟨Ao212, co212, eo212⟩ := Kd.R_slice HO647.out; subst eo212) | (go_at_call 22; refine calls_of_args (args' := #[.slice Ao212 t645.length co212, .slice none ([] : List Int).length 0]) (by first | (rw [show ([] : List Int).length = 0 from (Kd.R_reads' HO_16.out).1.symm] <;> rfl) | rfl) ?_; (with_reducible refine (gangwayref0_EqBytes.calls kj156 _ _ t645 _ _ ([] : List Int) true _ ?side1 ?side2 ?side3 ?side4 A202.out).mono ?_); (case side1 => repeat (first | exact (Kd.R_reads' HO647.out).2.2 | (with_reducible refine Kd.C_alloc ?_ _) | (with_reducible refine Kd.C_drewN ?_ _) | (with_reducible refine Kd.C_drew ?_))); (case side2 => exact (Kd.R_reads' HO647.out).2.1); (case side3 => exact aa_22); (case side4 => rw [show ([] : List Int).length = 0 from (Kd.R_reads' HO_16.out).1.symm]; exact (Kd.R_reads' HO_16.out).2.1); rintro e w' ⟨rfl, ⟨nd, rfl⟩⟩) | ((with_reducible refine gate_callee (f := 23) rfl ?_); refine goesL_ (some 252) rfl rfl Try.func23 (by kernel_rfl) rfl #[.slice Ao212 t645.length co212] rfl aa_0 ?_; (with_reducible refine (gangwaylaw0_Bytes.calls kj156 (fun k_ => some k_ = (.slice Ao212 t645.length co212 : Value).ownBlock) (.slice Ao212 t645.length co212) t645  w _ ?side1 ?side2 A204.out).mono ?_); (case side1 => exact aa_17); (case side2 => exact Kd.R_tight rfl HO647.out); rintro e w213 ⟨rfl, hb, hkp⟩; refine ⟨_, rfl, ?_⟩; have n0_ := am_ (Kd.R_mono (ok' := fun k_ => some k_ ≠ (v632 : Value).ownBlock ∧ some k_ ≠ (v650 : Value).ownBlock) (Kd.R_keptB (HO_16.out) hkp (fun k_ hk_ hs_ => (hk_.2.1) hs_)) (fun k_ hk_ => ⟨hk_.1.1, hk_.1.2.2⟩)); have n1_ := am_ (bkept BK469 aa_1 hkp (fun hs_ => (fun e_ => (Kd.R_ne HO647.out BK469.out (by decide)) e_) hs_)); have n2_ := am_ (bkept BK606 aa_5 hkp (fun hs_ => (fun e_ => (Kd.R_ne HO647.out BK606.out (by decide)) e_) hs_)); have n3_ := am_ (IsS61.kept aa_2 hkp (fun hs_ => (fun e_ => (IsS61.own_ne HI476.out HO647.out (by decide)) e_) hs_)); have n4_ := am_ (IsS54.kept aa_4 hkp (fun hs_ => (fun e_ => (IsS54.own_ne HI485.out HO647.out (by decide)) e_) hs_)); have n5_ := am_ (Kd.R_mono (ok' := fun k_ => some k_ ≠ (.slice none 0 0 : Value).ownBlock ∧ some k_ ≠ (v650 : Value).ownBlock) (Kd.R_keptB (HO633.out) hkp (fun k_ hk_ hs_ => (hk_.2.1) hs_)) (fun k_ hk_ => ⟨hk_.1.1, hk_.1.2.2⟩)); have n6_ := am_ (Kd.R_mono (ok' := fun k_ => some k_ ≠ (.slice none 0 0 : Value).ownBlock ∧ some k_ ≠ (v632 : Value).ownBlock) (Kd.R_keptB (HO651.out) hkp (fun k_ hk_ hs_ => (hk_.1) hs_)) (fun k_ hk_ => ⟨hk_.1.2.1, hk_.1.2.2⟩)); have n7_ := am_ (hb); clear HO_16; clear BK469; clear BK606; clear HI476; clear HI485; clear HO633; clear HO651; clear HB; clear HO647; have HO_16 := n0_; have BK469 := n1_; have BK606 := n2_; have HI476 := n3_; have HI485 := n4_; have HO633 := n5_; have HO651 := n6_; have HB := n7_; clear n0_ n1_ n2_ n3_ n4_ n5_ n6_ n7_; (try clear hb); (try clear hkp)))
    go_meet
    case rel => exact ⟨_, (t649), (t652), (t631), (t634), (v650), (v632), H', ⟨by have := HK1.out; have := HJ22.out; have := HJ33.out; have := HJ129.out; have := HJ156.out; first | omega | exact Nat.le_refl _⟩, ⟨by (with_reducible repeat (first | apply Kd.R_alloc | apply Kd.R_drewN | apply Kd.R_drew)); exact Kd.R_mono HO651.out (fun _ hk => hk.2)⟩, ⟨by (with_reducible repeat (first | apply Kd.R_alloc | apply Kd.R_drewN | apply Kd.R_drew)); exact Kd.R_mono HO633.out (fun _ hk => hk.2)⟩, ⟨aa_1⟩, ⟨aa_5⟩, ⟨aa_2⟩, ⟨aa_4⟩, ⟨aa_17⟩⟩
   as_aux_lemma =>
   subst c171
   have H1 : (if 0 ≤ ((rd_T48 l0_3 x6_1).f1) then (if ((rd_T48 l0_3 x6_1).f1) ≤ (wrap64 (((rd_T48 l0_3 x6_1).f1) + ((rd_T48 l0_3 x6_1).f3))) then (if (wrap64 (((rd_T48 l0_3 x6_1).f1) + ((rd_T48 l0_3 x6_1).f3))) ≤ (x6z_156.length : Int) then ((mem_Memory_Read.f x4z_1 x5z_1 ((rd_T48 l0_3 x6_1).f1) ((rd_T48 l0_3 x6_1).f3)).bind fun bt635 => ((gangwaylaw9_num.f bt635.2.1).bind fun t643 => (if t643 = 0 then ((gangwayref0_EqBytes.f kj156 bt635.1 ((x6z_156.take ((wrap64 (((rd_T48 l0_3 x6_1).f1) + ((rd_T48 l0_3 x6_1).f3))) : Int).toNat).drop (((rd_T48 l0_3 x6_1).f1) : Int).toNat)).bind fun t644 => (if t644 = true then ((gangwaylaw0_Bytes.f kj156 bt635.1).bind fun _ => (j9 kj156 x6_1 a0_0 a0_1 a0_2 l0_3 bt635.2.2.1 bt635.2.2.2 x6z_156 x7z_156)) else (none))) else (none)))) else (none)) else (none)) else (none)) = some r := by rw [if_pos rfl] at H; exact H
   clear H
   have H := H1
   clear H1
   by_cases c172 : 0 ≤ ((rd_T48 l0_3 x6_1).f1)
   rotate_left
   ·rw [if_neg c172] at H
    exact absurd H (by simp)
   as_aux_lemma =>
   rw [if_pos c172] at H
   have c172b0 := eq_true c172
   have c172b1 : decide (0 ≤ ((rd_T48 l0_3 x6_1).f1)) = true := decide_eq_true c172
   clear c172
   by_cases c173 : ((rd_T48 l0_3 x6_1).f1) ≤ (wrap64 (((rd_T48 l0_3 x6_1).f1) + ((rd_T48 l0_3 x6_1).f3)))
   rotate_left
   ·rw [if_neg c173] at H
    exact absurd H (by simp)
   as_aux_lemma =>
   rw [if_pos c173] at H
   have c173b0 := eq_true c173
   have c173b1 : decide (((rd_T48 l0_3 x6_1).f1) ≤ (wrap64 (((rd_T48 l0_3 x6_1).f1) + ((rd_T48 l0_3 x6_1).f3)))) = true := decide_eq_true c173
   by_cases c174 : (wrap64 (((rd_T48 l0_3 x6_1).f1) + ((rd_T48 l0_3 x6_1).f3))) ≤ (x6z_156.length : Int)
   rotate_left
   ·rw [if_neg c174] at H
    exact absurd H (by simp)
   as_aux_lemma =>
   rw [if_pos c174] at H
   have c174b0 := eq_true c174
   have c174b1 : decide ((wrap64 (((rd_T48 l0_3 x6_1).f1) + ((rd_T48 l0_3 x6_1).f3))) ≤ (x6z_156.length : Int)) = true := decide_eq_true c174
   obtain ⟨y626, hy626⟩ : ∃ y_ : List Int, y_ = ((x6z_156.take ((wrap64 (((rd_T48 l0_3 x6_1).f1) + ((rd_T48 l0_3 x6_1).f3))) : Int).toNat).drop (((rd_T48 l0_3 x6_1).f1) : Int).toNat) := ⟨_, rfl⟩
   replace H : ((mem_Memory_Read.f x4z_1 x5z_1 ((rd_T48 l0_3 x6_1).f1) ((rd_T48 l0_3 x6_1).f3)).bind fun bt635 => ((gangwaylaw9_num.f bt635.2.1).bind fun t643 => (if t643 = 0 then ((gangwayref0_EqBytes.f kj156 bt635.1 y626).bind fun t644 => (if t644 = true then ((gangwaylaw0_Bytes.f kj156 bt635.1).bind fun _ => (j9 kj156 x6_1 a0_0 a0_1 a0_2 l0_3 bt635.2.2.1 bt635.2.2.2 x6z_156 x7z_156)) else (none))) else (none)))) = some r := by first | (rw [hy626]; with_reducible exact H) | (have H2_ := (Option.bind_some _ _).symm.trans H; rw [hy626]; with_reducible exact H2_) | (have H2_ := (Option.bind_some _ _).symm.trans H; with_reducible exact H2_) | with_reducible exact H | (rw [hy626]; exact H) | exact H
   have Ny626 := am_ hy626
   clear hy626
   replace H := bm_ H
   obtain ⟨⟨t635, t638, t639, t642⟩, A1750, H⟩ := H
   replace H : ((gangwaylaw9_num.f t638).bind fun t643 => (if t643 = 0 then ((gangwayref0_EqBytes.f kj156 t635 y626).bind fun t644 => (if t644 = true then ((gangwaylaw0_Bytes.f kj156 t635).bind fun _ => (j9 kj156 x6_1 a0_0 a0_1 a0_2 l0_3 t639 t642 x6z_156 x7z_156)) else (none))) else (none))) = some r := H
   have A175 := am_ A1750
   clear A1750
   replace H := bm_ H
   obtain ⟨t643, A1760, H⟩ := H
   replace H : (if t643 = 0 then ((gangwayref0_EqBytes.f kj156 t635 y626).bind fun t644 => (if t644 = true then ((gangwaylaw0_Bytes.f kj156 t635).bind fun _ => (j9 kj156 x6_1 a0_0 a0_1 a0_2 l0_3 t639 t642 x6z_156 x7z_156)) else (none))) else (none)) = some r := H
   have A176 := am_ A1760
   clear A1760
   by_cases c177 : t643 = 0
   rotate_left
   ·rw [if_neg c177] at H
    exact absurd H (by simp)
   as_aux_lemma =>
   rw [if_pos c177] at H
   have c177b0 : (t643 == 0) = true := beq_iff_eq.mpr c177
   have c177b1 : (t643 != 0) = false := bne_eq_false_iff_eq.mpr c177
   clear c177
   replace H := bm_ H
   obtain ⟨t644, A1780, H⟩ := H
   replace H : (if t644 = true then ((gangwaylaw0_Bytes.f kj156 t635).bind fun _ => (j9 kj156 x6_1 a0_0 a0_1 a0_2 l0_3 t639 t642 x6z_156 x7z_156)) else (none)) = some r := H
   have A178 := am_ A1780
   clear A1780
   by_cases c179 : t644 = true
   rotate_left
   ·replace c179 := Bool.eq_false_iff.mpr c179
    subst c179
    have H1 : (none) = some r := by rw [if_neg (show ¬ (false = true) by decide)] at H; exact H
    clear H
    have H := H1
    clear H1
    exact absurd H (by simp)
   as_aux_lemma =>
   subst c179
   have H1 : ((gangwaylaw0_Bytes.f kj156 t635).bind fun _ => (j9 kj156 x6_1 a0_0 a0_1 a0_2 l0_3 t639 t642 x6z_156 x7z_156)) = some r := by rw [if_pos rfl] at H; exact H
   clear H
   have H := H1
   clear H1
   replace H := bm_ H
   obtain ⟨_, A1800, H⟩ := H
   replace H : (j9 kj156 x6_1 a0_0 a0_1 a0_2 l0_3 t639 t642 x6z_156 x7z_156) = some r := H
   have A180 := am_ A1800
   clear A1800
   have H' := am_ H
   clear H
   try go_wp2
   have n0_ := am_ (Kd.R_drew HO_16.out)
   have n1_ := am_ (Kd.R_drew HO_4z.out)
   have n2_ := am_ (Kd.R_drew HO_6z.out)
   have n3_ := am_ (blk_drew BK469.out)
   have n4_ := am_ (blk_drew BK606.out)
   have n5_ := am_ (IsS61.drew HI476.out)
   have n6_ := am_ (IsS54.drew HI485.out)
   have n7_ := am_ (below_drew1 HB.out)
   clear HO_16
   clear HO_4z
   clear HO_6z
   clear BK469
   clear BK606
   clear HI476
   clear HI485
   clear HB
   have HO_16 := n0_
   have HO_4z := n1_
   have HO_6z := n2_
   have BK469 := n3_
   have BK606 := n4_
   have HI476 := n5_
   have HI485 := n6_
   have HB := n7_
   clear n0_ n1_ n2_ n3_ n4_ n5_ n6_ n7_
   obtain ⟨Ao183, co183, eo183⟩ := Kd.R_slice HO_6z.out
   (first | subst eo183 | (injection eo183 with f1_ f2_ f3_; have f4_ := f1_.symm; have f5_ := f3_.symm; clear f1_ f2_ f3_; subst f4_; subst f5_))
   have q182 : ((wrap64 (((rd_T48 l0_3 x6_1).f1) + ((rd_T48 l0_3 x6_1).f3))) : Int) ≤ ((x6z_156.length : Int) : Int) := of_decide_eq_true aa_16
   obtain ⟨i0182, hi0182, _, hsz182, _⟩ := info_parts info5
   have hroom182 : x6z_156.length ≤ co183 := (Kd.R_reads' HO_6z.out).2.1
   have hC182 : Kd.C (Kd.int .u8) _ Ao183 x6z_156.length x6z_156 := (Kd.R_reads' HO_6z.out).2.2
   have ql182 : (((rd_T48 l0_3 x6_1).f1) : Int) ≤ ((wrap64 (((rd_T48 l0_3 x6_1).f1) + ((rd_T48 l0_3 x6_1).f3))) : Int) := of_decide_eq_true aa_16
   have q0182 : (0 : Int) ≤ (((rd_T48 l0_3 x6_1).f1) : Int) := of_decide_eq_true aa_16
   have hcut182 := cut_mid (P := Try.prog) 40 5 .i64 .i64 Try.underlying40 hi0182 1 hsz182 Ao183 x6z_156.length co183 ((rd_T48 l0_3 x6_1).f1) (wrap64 (((rd_T48 l0_3 x6_1).f1) + ((rd_T48 l0_3 x6_1).f3))) q0182 ql182 q182 hroom182
   have hr182 := Kd.C_mid (lo := (((rd_T48 l0_3 x6_1).f1) : Int).toNat) (hi := ((wrap64 (((rd_T48 l0_3 x6_1).f1) + ((rd_T48 l0_3 x6_1).f3))) : Int).toNat) (c := co183) hC182 (by omega) (by omega) hroom182
   obtain ⟨A182, hA182⟩ : ∃ A1, A1 = (if co183 = (((rd_T48 l0_3 x6_1).f1) : Int).toNat then Ao183 else (Ao183 : Option Addr).map (·.add ((((rd_T48 l0_3 x6_1).f1) : Int).toNat * 1))) := ⟨_, rfl⟩
   obtain ⟨c182, hc182⟩ : ∃ c1, c1 = co183 - (((rd_T48 l0_3 x6_1).f1) : Int).toNat := ⟨_, rfl⟩
   have hy182 : y626.length = ((wrap64 (((rd_T48 l0_3 x6_1).f1) + ((rd_T48 l0_3 x6_1).f3))) : Int).toNat - (((rd_T48 l0_3 x6_1).f1) : Int).toNat := (by rw [Ny626.out, List.length_drop, List.length_take] <;> omega)
   rw [show ((x6z_156).take ((wrap64 (((rd_T48 l0_3 x6_1).f1) + ((rd_T48 l0_3 x6_1).f3))) : Int).toNat).drop (((rd_T48 l0_3 x6_1).f1) : Int).toNat = y626 from Ny626.out.symm] at hr182
   replace hr182 : Kd.C (Kd.int .u8) _ A182 y626.length y626 := (by rw [hA182]; exact hr182)
   rw [← hy182, ← hA182, ← hc182] at hcut182
   have HR629 := am_ hr182
   have HC629 := am_ (show y626.length ≤ c182 from by rw [hy182, hc182]; exact Nat.sub_le_sub_right (Nat.le_trans (by omega) hroom182) _)
   clear hr182 hC182 hroom182 hi0182 hsz182 hc182
   have KY182 := am_ hy182
   have KA182 := am_ hA182
   clear hy182 hA182
   have KL182 := am_ (show ((wrap64 (((rd_T48 l0_3 x6_1).f1) + ((rd_T48 l0_3 x6_1).f3))) : Int).toNat ≤ x6z_156.length from by omega)
   have KM182 := am_ (show (((rd_T48 l0_3 x6_1).f1) : Int).toNat ≤ ((wrap64 (((rd_T48 l0_3 x6_1).f1) + ((rd_T48 l0_3 x6_1).f3))) : Int).toNat from by omega)
   replace q182 := eq_true q182
   refine start_ (n := 13) (S := fun w' => w'.cell? ⟨g485, 0, none⟩ = some (.slice Ao183 x6z_156.length co183) ∧ w'.cell? ⟨g485, 1, none⟩ = some (.int .i64 x7z_156) ∧ w'.cell? ⟨gb606, 0, none⟩ = some (.int .i64 ((rd_T48 l0_3 x6_1).f0)) ∧ w'.cell? ⟨gb606, 1, none⟩ = some (.int .i64 ((rd_T48 l0_3 x6_1).f1)) ∧ w'.cell? ⟨gb606, 3, none⟩ = some (.int .i64 ((rd_T48 l0_3 x6_1).f3))) (ds := []) bb24_ (by kernel_rfl) rfl rfl ⟨(blk_cell HI485.out.1 0).trans rfl, (blk_cell HI485.out.1 1).trans rfl, bc BK606 0, bc BK606 1, bc BK606 3⟩ (fun hHeld => ?_); refine with_tabW gangwaylaw9_MemExact.tab42 gangwaylaw9_MemExact.bits42 (fun HT_ HW_ => ?_)
   generalize wc.drew = w181 at HO_16 HO_4z HO_6z BK469 BK606 HI476 HI485 HB HR629 hHeld ⊢
   refine pure_ (i := 0) (N := some 209) (v := ?_) (a' := ?_) bb22_ rfl rfl (any_of HT_.out (by kernel_rfl)) (fun _ _ _ h => h) (Or.inl ⟨by rfl, ?_⟩) ?_ ?_
   rotate_left; · intro w'; go_simp; with_reducible rfl
   rotate_left; · simp only [Act.put, e1, e2, e3, i64_w, i32_w]; rfl
   refine pure_ (i := 1) (N := some 210) (v := ?_) (a' := ?_) bb21_ rfl rfl (any_of HT_.out (by kernel_rfl)) (fun _ _ _ h => h) (Or.inl ⟨by rfl, ?_⟩) ?_ ?_
   rotate_left; · intro w'; go_simp; with_reducible rfl
   rotate_left; · simp only [Act.put, e1, e2, e3, i64_w, i32_w]; rfl
   refine pure_ (i := 2) (N := some 211) (v := ?_) (a' := ?_) bb20_ rfl rfl (any_of HT_.out (by kernel_rfl)) (fun _ _ _ h => h) (Or.inl ⟨by rfl, ?_⟩) ?_ ?_
   rotate_left; · intro w'; go_simp; with_reducible rfl
   rotate_left; · simp only [Act.put, e1, e2, e3, i64_w, i32_w]; rfl
   refine pure_ (i := 4) (N := some 213) (v := ?_) (a' := ?_) bb19_ rfl rfl (any_of HT_.out (by kernel_rfl)) (fun _ _ _ h => h) (Or.inl ⟨by rfl, ?_⟩) ?_ ?_
   rotate_left; · intro w'; go_simp; with_reducible rfl
   rotate_left; · simp only [Act.put, e1, e2, e3, i64_w, i32_w]; rfl
   refine pure_ (i := 6) (N := some 215) (v := ?_) (a' := ?_) bb18_ rfl rfl (any_of HT_.out (by kernel_rfl)) (fun _ _ _ h => h) (Or.inl ⟨by rfl, ?_⟩) ?_ ?_
   rotate_left; · intro w'; go_simp; with_reducible rfl
   rotate_left; · simp only [Act.put, e1, e2, e3, i64_w, i32_w]; rfl
   refine pure_ (i := 8) (N := some 217) (v := ?_) (a' := ?_) bb17_ rfl rfl (any_of HT_.out (by kernel_rfl)) (fun _ _ _ h => h) (Or.inl ⟨by rfl, ?_⟩) ?_ ?_
   rotate_left; · intro w'; go_simp; with_reducible rfl
   rotate_left; · simp only [Act.put, e1, e2, e3, i64_w, i32_w]; rfl
   refine take_ (i := 3) (N := some 212) (v := ?_) (a' := ?_) bb16_ rfl rfl (take_ofW HT_.out HW_.out (by kernel_rfl)) (fun _ _ _ h => h) (Or.inl ⟨by rfl, ?_⟩) hHeld ?_ ?_
   rotate_left; · rintro w' ⟨s0, s1, s2, s3, s4⟩; go_simp; with_reducible rfl
   rotate_left; · simp only [Act.put, e1, e2, e3, i64_w, i32_w]; rfl
   refine take_ (i := 5) (N := some 214) (v := ?_) (a' := ?_) bb15_ rfl rfl (take_ofW HT_.out HW_.out (by kernel_rfl)) (fun _ _ _ h => h) (Or.inl ⟨by rfl, ?_⟩) hHeld ?_ ?_
   rotate_left; · rintro w' ⟨s0, s1, s2, s3, s4⟩; go_simp; with_reducible rfl
   rotate_left; · simp only [Act.put, e1, e2, e3, i64_w, i32_w]; rfl
   refine take_ (i := 7) (N := some 216) (v := ?_) (a' := ?_) bb14_ rfl rfl (take_ofW HT_.out HW_.out (by kernel_rfl)) (fun _ _ _ h => h) (Or.inl ⟨by rfl, ?_⟩) hHeld ?_ ?_
   rotate_left; · rintro w' ⟨s0, s1, s2, s3, s4⟩; go_simp; with_reducible rfl
   rotate_left; · simp only [Act.put, e1, e2, e3, i64_w, i32_w]; rfl
   refine take_ (i := 9) (N := some 218) (v := ?_) (a' := ?_) bb13_ rfl rfl (take_ofW HT_.out HW_.out (by kernel_rfl)) (fun _ _ _ h => h) (Or.inl ⟨by rfl, ?_⟩) hHeld ?_ ?_
   rotate_left; · rintro w' ⟨s0, s1, s2, s3, s4⟩; go_simp; with_reducible rfl
   rotate_left; · simp only [Act.put, e1, e2, e3, i64_w, i32_w]; rfl
   refine pure_ (i := 10) (N := some 219) (v := ?_) (a' := ?_) bb12_ rfl rfl (any_of HT_.out (by kernel_rfl)) (fun _ _ _ h => h) (Or.inl ⟨by rfl, ?_⟩) ?_ ?_
   rotate_left; · intro w'; go_simp; with_reducible rfl
   rotate_left; · simp only [Act.put, e1, e2, e3, i64_w, i32_w]; rfl
   refine pure_ (i := 11) (N := some 220) (v := ?_) (a' := ?_) bb11_ rfl rfl (any_of HT_.out (by kernel_rfl)) (fun _ _ _ h => h) (Or.inl ⟨by rfl, ?_⟩) ?_ ?_
   rotate_left; · intro w'; go_simp; with_reducible rfl
   rotate_left; · simp only [Act.put, e1, e2, e3, i64_w, i32_w]; rfl
   refine pure_ (i := 12) (N := some 16) (v := ?_) (a' := ?_) bb10_ rfl rfl (any_of HT_.out (by kernel_rfl)) (fun _ _ _ h => h) (Or.inl ⟨by rfl, ?_⟩) ?_ ?_
   rotate_left; · intro w'; go_simp; with_reducible rfl
   rotate_left; · simp only [Act.put, e1, e2, e3, i64_w, i32_w]; rfl
   refine done_ (done_of HT_.out (by kernel_rfl)) ?_
   have hnb184 := NB606_469.out
   have hnc184 := NB469_606.out
   have hnb185 := NB606_476.out
   have hnc185 := NB476_606.out
   have hnb186 := NB606_485.out
   have hnc186 := NB485_606.out
   have hcz187_0 : w181.cell? ⟨gb606, 0, none⟩ = some (.int .i64 ((rd_T48 l0_3 x6_1).f0)) := bc BK606 0
   have hcz187_1 : w181.cell? ⟨gb606, 1, none⟩ = some (.int .i64 ((rd_T48 l0_3 x6_1).f1)) := bc BK606 1
   have hcz187_2 : w181.cell? ⟨gb606, 2, none⟩ = some (.int .i64 ((rd_T48 l0_3 x6_1).f2)) := bc BK606 2
   have hcz187_3 : w181.cell? ⟨gb606, 3, none⟩ = some (.int .i64 ((rd_T48 l0_3 x6_1).f3)) := bc BK606 3
   have hcz187_4 : w181.cell? ⟨gb606, 4, none⟩ = some (.int .u64 ((rd_T48 l0_3 x6_1).f4)) := bc BK606 4
   have hcz187_5 : w181.cell? ⟨gb606, 5, none⟩ = some (.slice A605_5 ((rd_T48 l0_3 x6_1).f5).length c605_5) := bc BK606 5
   try go_wp2_with (first | ((with_reducible refine gate_callee (f := 14) rfl ?_); refine goesL_ (some 238) rfl rfl Try.func14 (by kernel_rfl) rfl #[.pointer (some ⟨g476, 0, none⟩), .int .i64 ((rd_T48 l0_3 x6_1).f1), .int .i64 ((rd_T48 l0_3 x6_1).f3)] rfl aa_0 ?_; (with_reducible refine (mem_Memory_Read.calls g476 (fun k_ => some k_ = (u4z : Value).ownBlock) u4z x4z_1 x5z_1 ((rd_T48 l0_3 x6_1).f1) ((rd_T48 l0_3 x6_1).f3) t635 t638 t639 t642 w _ ?side1 ?side2 ?side3 A175.out).mono ?_); (case side1 => exact aa_2); (case side2 => exact aa_17); (case side3 => exact Kd.R_tight rfl HO_4z.out); rintro e w188 ⟨v636, v640, rfl, ho0, ho1, hi, hb, hkp⟩; refine ⟨_, rfl, ?_⟩; have n0_ := am_ (Kd.R_mono (ok' := fun k_ => some k_ ≠ (.slice Ao183 x6z_156.length co183 : Value).ownBlock ∧ some k_ ≠ (v636 : Value).ownBlock ∧ some k_ ≠ (v640 : Value).ownBlock) (Kd.R_keptB ((IsS61.apart HI476.out HO_16.out (by decide))) hkp (fun k_ hk_ hs_ => Or.elim hs_ (fun hs_ => (hk_.1.1) hs_) (fun e_ => (hk_.2) e_))) (fun k_ hk_ => ⟨hk_.1.1.2, fun e_ => Or.elim (ho0.1 k_ e_.symm).1 (fun hs_ => hk_.2.1 (.inl hs_)) (fun hn_ => Nat.not_le.2 hk_.2.2 hn_), fun e_ => Or.elim (ho1.1 k_ e_.symm).1 (fun hs_ => hk_.2.1 (.inl hs_)) (fun hn_ => Nat.not_le.2 hk_.2.2 hn_)⟩)); have n1_ := am_ (Kd.R_mono (ok' := fun k_ => some k_ ≠ (.slice none 0 0 : Value).ownBlock ∧ some k_ ≠ (v636 : Value).ownBlock ∧ some k_ ≠ (v640 : Value).ownBlock) (Kd.R_keptB ((IsS61.apart HI476.out HO_6z.out (by decide))) hkp (fun k_ hk_ hs_ => Or.elim hs_ (fun hs_ => (hk_.1.2) hs_) (fun e_ => (hk_.2) e_))) (fun k_ hk_ => ⟨hk_.1.1.1, fun e_ => Or.elim (ho0.1 k_ e_.symm).1 (fun hs_ => hk_.2.1 (.inl hs_)) (fun hn_ => Nat.not_le.2 hk_.2.2 hn_), fun e_ => Or.elim (ho1.1 k_ e_.symm).1 (fun hs_ => hk_.2.1 (.inl hs_)) (fun hn_ => Nat.not_le.2 hk_.2.2 hn_)⟩)); have n2_ := am_ (bkept BK469 aa_1 hkp (fun hs_ => Or.elim hs_ (fun hs_ => (fun e_ => (Kd.R_ne HO_4z.out BK469.out (by decide)) e_) hs_) (fun e_ => NB469_476.out e_))); have n3_ := am_ (bkept BK606 aa_5 hkp (fun hs_ => Or.elim hs_ (fun hs_ => (fun e_ => (Kd.R_ne HO_4z.out BK606.out (by decide)) e_) hs_) (fun e_ => NB606_476.out e_))); have n4_ := am_ (hi); have n5_ := am_ (IsS54.kept aa_4 hkp (fun hs_ => Or.elim hs_ (fun hs_ => (fun e_ => (IsS54.own_ne HI485.out HO_4z.out (by decide)) e_) hs_) (fun e_ => NB485_476.out e_))); have n6_ := am_ (Kd.R_mono (ok' := fun k_ => some k_ ≠ (v640 : Value).ownBlock ∧ some k_ ≠ (.slice none 0 0 : Value).ownBlock ∧ some k_ ≠ (.slice Ao183 x6z_156.length co183 : Value).ownBlock) ho0 (fun k_ hk_ => ⟨hk_.2, Or.elim hk_.1 (fun hs_ => fun e_ => ((((IsS61.apart HI476.out HO_16.out (by decide))).1 k_ e_.symm).1.1) hs_) (fun hn_ => (Kd.fresh' (Kd.R_lt aa_12) k_ hn_)), Or.elim hk_.1 (fun hs_ => fun e_ => ((((IsS61.apart HI476.out HO_6z.out (by decide))).1 k_ e_.symm).1.2) hs_) (fun hn_ => (Kd.fresh' (Kd.R_lt aa_7) k_ hn_))⟩)); have n7_ := am_ (Kd.R_mono (ok' := fun k_ => some k_ ≠ (v636 : Value).ownBlock ∧ some k_ ≠ (.slice none 0 0 : Value).ownBlock ∧ some k_ ≠ (.slice Ao183 x6z_156.length co183 : Value).ownBlock) ho1 (fun k_ hk_ => ⟨hk_.2, Or.elim hk_.1 (fun hs_ => fun e_ => ((((IsS61.apart HI476.out HO_16.out (by decide))).1 k_ e_.symm).1.1) hs_) (fun hn_ => (Kd.fresh' (Kd.R_lt aa_12) k_ hn_)), Or.elim hk_.1 (fun hs_ => fun e_ => ((((IsS61.apart HI476.out HO_6z.out (by decide))).1 k_ e_.symm).1.2) hs_) (fun hn_ => (Kd.fresh' (Kd.R_lt aa_7) k_ hn_))⟩)); have n8_ := am_ (hb); have n9_ := am_ ((show Kd.C (Kd.int .u8) w188 A182 y626.length y626 from by rw [Ny626.out, KA182.out]; exact Kd.C_mid (lo := (((rd_T48 l0_3 x6_1).f1) : Int).toNat) (hi := ((wrap64 (((rd_T48 l0_3 x6_1).f1) + ((rd_T48 l0_3 x6_1).f3))) : Int).toNat) (c := co183) ((Kd.R_reads' (Kd.R_mono (ok' := fun k_ => some k_ ≠ (.slice none 0 0 : Value).ownBlock ∧ some k_ ≠ (v636 : Value).ownBlock ∧ some k_ ≠ (v640 : Value).ownBlock) (Kd.R_keptB ((IsS61.apart HI476.out HO_6z.out (by decide))) hkp (fun k_ hk_ hs_ => Or.elim hs_ (fun hs_ => (hk_.1.2) hs_) (fun e_ => (hk_.2) e_))) (fun k_ hk_ => ⟨hk_.1.1.1, fun e_ => Or.elim (ho0.1 k_ e_.symm).1 (fun hs_ => hk_.2.1 (.inl hs_)) (fun hn_ => Nat.not_le.2 hk_.2.2 hn_), fun e_ => Or.elim (ho1.1 k_ e_.symm).1 (fun hs_ => hk_.2.1 (.inl hs_)) (fun hn_ => Nat.not_le.2 hk_.2.2 hn_)⟩))).2.2) KM182.out KL182.out ((Kd.R_reads' (Kd.R_mono (ok' := fun k_ => some k_ ≠ (.slice none 0 0 : Value).ownBlock ∧ some k_ ≠ (v636 : Value).ownBlock ∧ some k_ ≠ (v640 : Value).ownBlock) (Kd.R_keptB ((IsS61.apart HI476.out HO_6z.out (by decide))) hkp (fun k_ hk_ hs_ => Or.elim hs_ (fun hs_ => (hk_.1.2) hs_) (fun e_ => (hk_.2) e_))) (fun k_ hk_ => ⟨hk_.1.1.1, fun e_ => Or.elim (ho0.1 k_ e_.symm).1 (fun hs_ => hk_.2.1 (.inl hs_)) (fun hn_ => Nat.not_le.2 hk_.2.2 hn_), fun e_ => Or.elim (ho1.1 k_ e_.symm).1 (fun hs_ => hk_.2.1 (.inl hs_)) (fun hn_ => Nat.not_le.2 hk_.2.2 hn_)⟩))).2.1))); clear HO_16; clear HO_6z; clear BK469; clear BK606; clear HI476; clear HI485; clear HB; clear HR629; clear HO_4z; have HO_16 := n0_; have HO_6z := n1_; have BK469 := n2_; have BK606 := n3_; have HI476 := n4_; have HI485 := n5_; have HO637 := n6_; have HO641 := n7_; have HB := n8_; have HR629 := n9_; clear n0_ n1_ n2_ n3_ n4_ n5_ n6_ n7_ n8_ n9_; (try clear hb); (try clear hkp); (try clear ho0); (try clear ho1)) | ((with_reducible refine gate_callee (f := 8) rfl ?_); refine goesL_ (some 242) rfl rfl Try.func8 (by kernel_rfl) rfl #[.int .i64 t638] rfl aa_0 ?_; (with_reducible refine (gangwaylaw9_num.calls t638 t643 _ A176.out).mono ?_); rintro e w' ⟨rfl, ⟨nd, rfl⟩⟩; refine ⟨_, rfl, ?_⟩; obtain ⟨Ao189, co189, eo189⟩ := Kd.R_slice HO637.out; subst eo189) | (go_at_call 22; (with_reducible refine (gangwayref0_EqBytes.calls kj156 _ _ t635 _ _ y626 true _ ?side1 ?side2 ?side3 ?side4 A178.out).mono ?_); (case side1 => repeat (first | exact (Kd.R_reads' HO637.out).2.2 | (with_reducible refine Kd.C_alloc ?_ _) | (with_reducible refine Kd.C_drewN ?_ _) | (with_reducible refine Kd.C_drew ?_))); (case side2 => exact (Kd.R_reads' HO637.out).2.1); (case side3 => repeat (first | exact (by repeat (first | (with_reducible exact HR629.out) | (with_reducible refine Kd.C_alloc ?_ _) | (with_reducible refine Kd.C_drewN ?_ _) | (with_reducible refine Kd.C_drew ?_) | exact HR629.out)) | (with_reducible refine Kd.C_alloc ?_ _) | (with_reducible refine Kd.C_drewN ?_ _) | (with_reducible refine Kd.C_drew ?_))); (case side4 => exact HC629.out); rintro e w' ⟨rfl, ⟨nd, rfl⟩⟩) | ((with_reducible refine gate_callee (f := 23) rfl ?_); refine goesL_ (some 252) rfl rfl Try.func23 (by kernel_rfl) rfl #[.slice Ao189 t635.length co189] rfl aa_0 ?_; (with_reducible refine (gangwaylaw0_Bytes.calls kj156 (fun k_ => some k_ = (.slice Ao189 t635.length co189 : Value).ownBlock) (.slice Ao189 t635.length co189) t635  w _ ?side1 ?side2 A180.out).mono ?_); (case side1 => exact aa_17); (case side2 => exact Kd.R_tight rfl HO637.out); rintro e w190 ⟨rfl, hb, hkp⟩; refine ⟨_, rfl, ?_⟩; have n0_ := am_ (Kd.R_mono (ok' := fun k_ => some k_ ≠ (.slice Ao183 x6z_156.length co183 : Value).ownBlock ∧ some k_ ≠ (v640 : Value).ownBlock) (Kd.R_keptB (HO_16.out) hkp (fun k_ hk_ hs_ => (hk_.2.1) hs_)) (fun k_ hk_ => ⟨hk_.1.1, hk_.1.2.2⟩)); have n1_ := am_ (Kd.R_mono (ok' := fun k_ => some k_ ≠ (.slice none 0 0 : Value).ownBlock ∧ some k_ ≠ (v640 : Value).ownBlock) (Kd.R_keptB (HO_6z.out) hkp (fun k_ hk_ hs_ => (hk_.2.1) hs_)) (fun k_ hk_ => ⟨hk_.1.1, hk_.1.2.2⟩)); have n2_ := am_ (bkept BK469 aa_1 hkp (fun hs_ => (fun e_ => (Kd.R_ne HO637.out BK469.out (by decide)) e_) hs_)); have n3_ := am_ (bkept BK606 aa_5 hkp (fun hs_ => (fun e_ => (Kd.R_ne HO637.out BK606.out (by decide)) e_) hs_)); have n4_ := am_ (IsS61.kept aa_2 hkp (fun hs_ => (fun e_ => (IsS61.own_ne HI476.out HO637.out (by decide)) e_) hs_)); have n5_ := am_ (IsS54.kept aa_4 hkp (fun hs_ => (fun e_ => (IsS54.own_ne HI485.out HO637.out (by decide)) e_) hs_)); have n6_ := am_ (Kd.R_mono (ok' := fun k_ => some k_ ≠ (.slice none 0 0 : Value).ownBlock ∧ some k_ ≠ (.slice Ao183 x6z_156.length co183 : Value).ownBlock) (Kd.R_keptB (HO641.out) hkp (fun k_ hk_ hs_ => (hk_.1) hs_)) (fun k_ hk_ => ⟨hk_.1.2.1, hk_.1.2.2⟩)); have n7_ := am_ (hb); have n8_ := am_ ((show Kd.C (Kd.int .u8) w190 A182 y626.length y626 from by rw [Ny626.out, KA182.out]; exact Kd.C_mid (lo := (((rd_T48 l0_3 x6_1).f1) : Int).toNat) (hi := ((wrap64 (((rd_T48 l0_3 x6_1).f1) + ((rd_T48 l0_3 x6_1).f3))) : Int).toNat) (c := co183) ((Kd.R_reads' (Kd.R_mono (ok' := fun k_ => some k_ ≠ (.slice none 0 0 : Value).ownBlock ∧ some k_ ≠ (v640 : Value).ownBlock) (Kd.R_keptB (HO_6z.out) hkp (fun k_ hk_ hs_ => (hk_.2.1) hs_)) (fun k_ hk_ => ⟨hk_.1.1, hk_.1.2.2⟩))).2.2) KM182.out KL182.out ((Kd.R_reads' (Kd.R_mono (ok' := fun k_ => some k_ ≠ (.slice none 0 0 : Value).ownBlock ∧ some k_ ≠ (v640 : Value).ownBlock) (Kd.R_keptB (HO_6z.out) hkp (fun k_ hk_ hs_ => (hk_.2.1) hs_)) (fun k_ hk_ => ⟨hk_.1.1, hk_.1.2.2⟩))).2.1))); clear HO_16; clear HO_6z; clear BK469; clear BK606; clear HI476; clear HI485; clear HO641; clear HB; clear HR629; clear HO637; have HO_16 := n0_; have HO_6z := n1_; have BK469 := n2_; have BK606 := n3_; have HI476 := n4_; have HI485 := n5_; have HO641 := n6_; have HB := n7_; have HR629 := n8_; clear n0_ n1_ n2_ n3_ n4_ n5_ n6_ n7_ n8_; (try clear hb); (try clear hkp)))
   go_meet
   case rel => exact ⟨_, (t639), (t642), (x6z_156), (x7z_156), (v640), (.slice Ao183 x6z_156.length co183), H', ⟨by have := HK1.out; have := HJ22.out; have := HJ33.out; have := HJ129.out; have := HJ156.out; first | omega | exact Nat.le_refl _⟩, ⟨by (with_reducible repeat (first | apply Kd.R_alloc | apply Kd.R_drewN | apply Kd.R_drew)); exact Kd.R_mono HO641.out (fun _ hk => hk.2)⟩, ⟨by (with_reducible repeat (first | apply Kd.R_alloc | apply Kd.R_drewN | apply Kd.R_drew)); exact Kd.R_mono HO_6z.out (fun _ hk => hk.2)⟩, ⟨aa_1⟩, ⟨aa_5⟩, ⟨aa_2⟩, ⟨aa_4⟩, ⟨aa_17⟩⟩
  as_aux_lemma =>
  rw [if_neg c156] at H
  have c156b0 : (t607 == 5) = false := beq_eq_false_iff_ne.mpr c156
  have c156b1 : (t607 != 5) = true := bne_iff_ne.mpr c156
  by_cases c227 : t607 = 6
  rotate_left
  ·as_aux_lemma =>
   rw [if_neg c227] at H
   have c227b0 : (t607 == 6) = false := beq_eq_false_iff_ne.mpr c227
   have c227b1 : (t607 != 6) = true := bne_iff_ne.mpr c227
   by_cases c266 : t607 = 7
   rotate_left
   ·as_aux_lemma =>
    rw [if_neg c266] at H
    have c266b0 : (t607 == 7) = false := beq_eq_false_iff_ne.mpr c266
    have c266b1 : (t607 != 7) = true := bne_iff_ne.mpr c266
    have HC273 := am_ H
    clear H
    go_upto_if 133 with (fail)
    go_cut [23] (fun v23 wc => ∃ (kq : Nat) (x23_272 : Int) (x6z_272 : List Int) (x7z_272 : Int) (u6z : Value), v23 = .int .i64 x23_272 ∧ Aside0 (j8 kq x6_1 x23_272 a0_0 a0_1 a0_2 l0_3 x4z_1 x5z_1 x6z_272 x7z_272 ((rd_T48 l0_3 x6_1).f0) ((rd_T48 l0_3 x6_1).f1) ((rd_T48 l0_3 x6_1).f2) ((rd_T48 l0_3 x6_1).f3) ((rd_T48 l0_3 x6_1).f4) ((rd_T48 l0_3 x6_1).f5) = some r) ∧ Aside0 (kq ≤ kj129) ∧ Aside0 (Kd.R (Kd.int .u8) 5 wc w.heap.size (fun k_ => some k_ ≠ (u6z : Value).ownBlock) u4z x4z_1) ∧ Aside0 (Kd.R (Kd.int .u8) 5 wc w.heap.size (fun k_ => some k_ ≠ (u4z : Value).ownBlock) u6z x6z_272) ∧ Aside0 (wc.heap[gb469]? = some (.cells #[.int .i64 a0_0, .int .i64 a0_1, .int .i64 a0_2, (.slice (some ad605) l0_3.length c0_3)] 26 (0, 0))) ∧ Aside0 (wc.heap[gb606]? = some (.cells #[.int .i64 ((rd_T48 l0_3 x6_1).f0), .int .i64 ((rd_T48 l0_3 x6_1).f1), .int .i64 ((rd_T48 l0_3 x6_1).f2), .int .i64 ((rd_T48 l0_3 x6_1).f3), .int .u64 ((rd_T48 l0_3 x6_1).f4), (.slice A605_5 ((rd_T48 l0_3 x6_1).f5).length c605_5)] 48 (0, 0))) ∧ Aside0 (IsS61 w wc g476 u4z x5z_1) ∧ Aside0 (IsS54 w wc g485 u6z x7z_272) ∧ Aside0 (Below w.heap.size w wc))
    case first =>
     as_aux_lemma =>
     have H := HC273.out
     clear HC273
     by_cases c274 : x8_33 = true
     rotate_left
     ·replace c274 := Bool.eq_false_iff.mpr c274
      subst c274
      have H1 : (j8 kj129 x6_1 100 a0_0 a0_1 a0_2 l0_3 x4z_1 x5z_1 x6z_1 x7z_1 ((rd_T48 l0_3 x6_1).f0) ((rd_T48 l0_3 x6_1).f1) ((rd_T48 l0_3 x6_1).f2) ((rd_T48 l0_3 x6_1).f3) ((rd_T48 l0_3 x6_1).f4) ((rd_T48 l0_3 x6_1).f5)) = some r := by rw [if_neg (show ¬ (false = true) by decide)] at H; exact H
      clear H
      have H := H1
      clear H1
      have H' := am_ H
      clear H
      go_wp2
      go_meet
      case rel => exact ⟨_, (100), (x6z_1), (x7z_1), (u6z), aa_6, H', ⟨by have := HK1.out; have := HJ22.out; have := HJ33.out; have := HJ129.out; first | omega | exact Nat.le_refl _⟩, ⟨aa_9⟩, ⟨aa_7⟩, ⟨aa_1⟩, ⟨aa_5⟩, ⟨aa_2⟩, ⟨aa_4⟩, ⟨aa_17⟩⟩
     as_aux_lemma =>
     subst c274
     have H1 : ((gangwayref9_Mem_Store.f kj129 x6z_1 x7z_1 (wrap64 (((rd_T48 l0_3 x6_1).f1) + ((rd_T48 l0_3 x6_1).f2))) ((rd_T48 l0_3 x6_1).f3) ((rd_T48 l0_3 x6_1).f4)).bind fun bt691 => (if bt691.1 = true then (j8 kj129 x6_1 0 a0_0 a0_1 a0_2 l0_3 x4z_1 x5z_1 bt691.2.1 bt691.2.2 ((rd_T48 l0_3 x6_1).f0) ((rd_T48 l0_3 x6_1).f1) ((rd_T48 l0_3 x6_1).f2) ((rd_T48 l0_3 x6_1).f3) ((rd_T48 l0_3 x6_1).f4) ((rd_T48 l0_3 x6_1).f5)) else (j8 kj129 x6_1 21 a0_0 a0_1 a0_2 l0_3 x4z_1 x5z_1 bt691.2.1 bt691.2.2 ((rd_T48 l0_3 x6_1).f0) ((rd_T48 l0_3 x6_1).f1) ((rd_T48 l0_3 x6_1).f2) ((rd_T48 l0_3 x6_1).f3) ((rd_T48 l0_3 x6_1).f4) ((rd_T48 l0_3 x6_1).f5)))) = some r := by rw [if_pos rfl] at H; exact H
     clear H
     have H := H1
     clear H1
     replace H := bm_ H
     obtain ⟨⟨t691, t692, t695⟩, A2750, H⟩ := H
     replace H : (if t691 = true then (j8 kj129 x6_1 0 a0_0 a0_1 a0_2 l0_3 x4z_1 x5z_1 t692 t695 ((rd_T48 l0_3 x6_1).f0) ((rd_T48 l0_3 x6_1).f1) ((rd_T48 l0_3 x6_1).f2) ((rd_T48 l0_3 x6_1).f3) ((rd_T48 l0_3 x6_1).f4) ((rd_T48 l0_3 x6_1).f5)) else (j8 kj129 x6_1 21 a0_0 a0_1 a0_2 l0_3 x4z_1 x5z_1 t692 t695 ((rd_T48 l0_3 x6_1).f0) ((rd_T48 l0_3 x6_1).f1) ((rd_T48 l0_3 x6_1).f2) ((rd_T48 l0_3 x6_1).f3) ((rd_T48 l0_3 x6_1).f4) ((rd_T48 l0_3 x6_1).f5))) = some r := H
     have A275 := am_ A2750
     clear A2750
     by_cases c276 : t691 = true
     ·subst c276
      have H1 : (j8 kj129 x6_1 0 a0_0 a0_1 a0_2 l0_3 x4z_1 x5z_1 t692 t695 ((rd_T48 l0_3 x6_1).f0) ((rd_T48 l0_3 x6_1).f1) ((rd_T48 l0_3 x6_1).f2) ((rd_T48 l0_3 x6_1).f3) ((rd_T48 l0_3 x6_1).f4) ((rd_T48 l0_3 x6_1).f5)) = some r := by rw [if_pos rfl] at H; exact H
      clear H
      have H := H1
      clear H1
      have H' := am_ H
      clear H
      have hnb277 := NB606_469.out
      have hnc277 := NB469_606.out
      have hnb278 := NB606_476.out
      have hnc278 := NB476_606.out
      have hnb279 := NB606_485.out
      have hnc279 := NB485_606.out
      have hcz280_0 : wc.cell? ⟨gb606, 0, none⟩ = some (.int .i64 ((rd_T48 l0_3 x6_1).f0)) := bc BK606 0
      have hcz280_1 : wc.cell? ⟨gb606, 1, none⟩ = some (.int .i64 ((rd_T48 l0_3 x6_1).f1)) := bc BK606 1
      have hcz280_2 : wc.cell? ⟨gb606, 2, none⟩ = some (.int .i64 ((rd_T48 l0_3 x6_1).f2)) := bc BK606 2
      have hcz280_3 : wc.cell? ⟨gb606, 3, none⟩ = some (.int .i64 ((rd_T48 l0_3 x6_1).f3)) := bc BK606 3
      have hcz280_4 : wc.cell? ⟨gb606, 4, none⟩ = some (.int .u64 ((rd_T48 l0_3 x6_1).f4)) := bc BK606 4
      have hcz280_5 : wc.cell? ⟨gb606, 5, none⟩ = some (.slice A605_5 ((rd_T48 l0_3 x6_1).f5).length c605_5) := bc BK606 5
      go_wp2_with (first | ((with_reducible refine gate_callee (f := 26) rfl ?_); refine goesL_ (some 144) rfl rfl Try.func26 (by kernel_rfl) rfl #[.pointer (some ⟨g485, 0, none⟩), .int .i64 (wrap64 (((rd_T48 l0_3 x6_1).f1) + ((rd_T48 l0_3 x6_1).f2))), .int .i64 ((rd_T48 l0_3 x6_1).f3), .int .u64 ((rd_T48 l0_3 x6_1).f4)] rfl aa_0 ?_; (with_reducible refine (gangwayref9_Mem_Store.calls kj129 g485 (fun k_ => some k_ = (u6z : Value).ownBlock) u6z x6z_1 x7z_1 (wrap64 (((rd_T48 l0_3 x6_1).f1) + ((rd_T48 l0_3 x6_1).f2))) ((rd_T48 l0_3 x6_1).f3) ((rd_T48 l0_3 x6_1).f4) true t692 t695 w _ ?side1 ?side2 ?side3 A275.out).mono ?_); (case side1 => exact aa_4); (case side2 => exact aa_17); (case side3 => exact Kd.R_tight rfl HO_6z.out); rintro e w281 ⟨v693, rfl, ho0, hi, hb, hkp⟩; refine ⟨_, rfl, ?_⟩; have n0_ := am_ (Kd.R_mono (ok' := fun k_ => some k_ ≠ (v693 : Value).ownBlock) (Kd.R_keptB ((IsS54.apart HI485.out HO_4z.out (by decide))) hkp (fun k_ hk_ hs_ => Or.elim hs_ (fun hs_ => (hk_.1) hs_) (fun e_ => (hk_.2) e_))) (fun k_ hk_ => fun e_ => Or.elim (ho0.1 k_ e_.symm) (fun hs_ => hk_.2.1 (.inl hs_)) (fun hn_ => Nat.not_le.2 hk_.2.2 hn_))); have n1_ := am_ (bkept BK469 aa_1 hkp (fun hs_ => Or.elim hs_ (fun hs_ => (fun e_ => (Kd.R_ne HO_6z.out BK469.out (by decide)) e_) hs_) (fun e_ => NB469_485.out e_))); have n2_ := am_ (bkept BK606 aa_5 hkp (fun hs_ => Or.elim hs_ (fun hs_ => (fun e_ => (Kd.R_ne HO_6z.out BK606.out (by decide)) e_) hs_) (fun e_ => NB606_485.out e_))); have n3_ := am_ (IsS61.kept aa_2 hkp (fun hs_ => Or.elim hs_ (fun hs_ => (fun e_ => (IsS61.own_ne HI476.out HO_6z.out (by decide)) e_) hs_) (fun e_ => NB476_485.out e_))); have n4_ := am_ (hi); have n5_ := am_ (Kd.R_mono (ok' := fun k_ => some k_ ≠ (u4z : Value).ownBlock) ho0 (fun k_ hk_ => Or.elim hk_ (fun hs_ => fun e_ => ((((IsS54.apart HI485.out HO_4z.out (by decide))).1 k_ e_.symm).1) hs_) (fun hn_ => (Kd.fresh' (Kd.R_lt aa_9) k_ hn_)))); have n6_ := am_ (hb); clear HO_4z; clear BK469; clear BK606; clear HI476; clear HI485; clear HB; clear HO_6z; have HO_4z := n0_; have BK469 := n1_; have BK606 := n2_; have HI476 := n3_; have HI485 := n4_; have HO694 := n5_; have HB := n6_; clear n0_ n1_ n2_ n3_ n4_ n5_ n6_; (try clear hb); (try clear hkp); (try clear ho0)))
      go_meet
      case rel => exact ⟨_, (0), (t692), (t695), (v693), aa_6, H', ⟨by have := HK1.out; have := HJ22.out; have := HJ33.out; have := HJ129.out; first | omega | exact Nat.le_refl _⟩, ⟨aa_9⟩, ⟨aa_20⟩, ⟨aa_1⟩, ⟨aa_5⟩, ⟨aa_2⟩, ⟨aa_4⟩, ⟨aa_17⟩⟩
     replace c276 := Bool.eq_false_iff.mpr c276
     subst c276
     have H1 : (j8 kj129 x6_1 21 a0_0 a0_1 a0_2 l0_3 x4z_1 x5z_1 t692 t695 ((rd_T48 l0_3 x6_1).f0) ((rd_T48 l0_3 x6_1).f1) ((rd_T48 l0_3 x6_1).f2) ((rd_T48 l0_3 x6_1).f3) ((rd_T48 l0_3 x6_1).f4) ((rd_T48 l0_3 x6_1).f5)) = some r := by rw [if_neg (show ¬ (false = true) by decide)] at H; exact H
     clear H
     have H := H1
     clear H1
     have H' := am_ H
     clear H
     have hnb282 := NB606_469.out
     have hnc282 := NB469_606.out
     have hnb283 := NB606_476.out
     have hnc283 := NB476_606.out
     have hnb284 := NB606_485.out
     have hnc284 := NB485_606.out
     have hcz285_0 : wc.cell? ⟨gb606, 0, none⟩ = some (.int .i64 ((rd_T48 l0_3 x6_1).f0)) := bc BK606 0
     have hcz285_1 : wc.cell? ⟨gb606, 1, none⟩ = some (.int .i64 ((rd_T48 l0_3 x6_1).f1)) := bc BK606 1
     have hcz285_2 : wc.cell? ⟨gb606, 2, none⟩ = some (.int .i64 ((rd_T48 l0_3 x6_1).f2)) := bc BK606 2
     have hcz285_3 : wc.cell? ⟨gb606, 3, none⟩ = some (.int .i64 ((rd_T48 l0_3 x6_1).f3)) := bc BK606 3
     have hcz285_4 : wc.cell? ⟨gb606, 4, none⟩ = some (.int .u64 ((rd_T48 l0_3 x6_1).f4)) := bc BK606 4
     have hcz285_5 : wc.cell? ⟨gb606, 5, none⟩ = some (.slice A605_5 ((rd_T48 l0_3 x6_1).f5).length c605_5) := bc BK606 5
     go_wp2_with (first | ((with_reducible refine gate_callee (f := 26) rfl ?_); refine goesL_ (some 144) rfl rfl Try.func26 (by kernel_rfl) rfl #[.pointer (some ⟨g485, 0, none⟩), .int .i64 (wrap64 (((rd_T48 l0_3 x6_1).f1) + ((rd_T48 l0_3 x6_1).f2))), .int .i64 ((rd_T48 l0_3 x6_1).f3), .int .u64 ((rd_T48 l0_3 x6_1).f4)] rfl aa_0 ?_; (with_reducible refine (gangwayref9_Mem_Store.calls kj129 g485 (fun k_ => some k_ = (u6z : Value).ownBlock) u6z x6z_1 x7z_1 (wrap64 (((rd_T48 l0_3 x6_1).f1) + ((rd_T48 l0_3 x6_1).f2))) ((rd_T48 l0_3 x6_1).f3) ((rd_T48 l0_3 x6_1).f4) false t692 t695 w _ ?side1 ?side2 ?side3 A275.out).mono ?_); (case side1 => exact aa_4); (case side2 => exact aa_17); (case side3 => exact Kd.R_tight rfl HO_6z.out); rintro e w286 ⟨v693, rfl, ho0, hi, hb, hkp⟩; refine ⟨_, rfl, ?_⟩; have n0_ := am_ (Kd.R_mono (ok' := fun k_ => some k_ ≠ (v693 : Value).ownBlock) (Kd.R_keptB ((IsS54.apart HI485.out HO_4z.out (by decide))) hkp (fun k_ hk_ hs_ => Or.elim hs_ (fun hs_ => (hk_.1) hs_) (fun e_ => (hk_.2) e_))) (fun k_ hk_ => fun e_ => Or.elim (ho0.1 k_ e_.symm) (fun hs_ => hk_.2.1 (.inl hs_)) (fun hn_ => Nat.not_le.2 hk_.2.2 hn_))); have n1_ := am_ (bkept BK469 aa_1 hkp (fun hs_ => Or.elim hs_ (fun hs_ => (fun e_ => (Kd.R_ne HO_6z.out BK469.out (by decide)) e_) hs_) (fun e_ => NB469_485.out e_))); have n2_ := am_ (bkept BK606 aa_5 hkp (fun hs_ => Or.elim hs_ (fun hs_ => (fun e_ => (Kd.R_ne HO_6z.out BK606.out (by decide)) e_) hs_) (fun e_ => NB606_485.out e_))); have n3_ := am_ (IsS61.kept aa_2 hkp (fun hs_ => Or.elim hs_ (fun hs_ => (fun e_ => (IsS61.own_ne HI476.out HO_6z.out (by decide)) e_) hs_) (fun e_ => NB476_485.out e_))); have n4_ := am_ (hi); have n5_ := am_ (Kd.R_mono (ok' := fun k_ => some k_ ≠ (u4z : Value).ownBlock) ho0 (fun k_ hk_ => Or.elim hk_ (fun hs_ => fun e_ => ((((IsS54.apart HI485.out HO_4z.out (by decide))).1 k_ e_.symm).1) hs_) (fun hn_ => (Kd.fresh' (Kd.R_lt aa_9) k_ hn_)))); have n6_ := am_ (hb); clear HO_4z; clear BK469; clear BK606; clear HI476; clear HI485; clear HB; clear HO_6z; have HO_4z := n0_; have BK469 := n1_; have BK606 := n2_; have HI476 := n3_; have HI485 := n4_; have HO694 := n5_; have HB := n6_; clear n0_ n1_ n2_ n3_ n4_ n5_ n6_; (try clear hb); (try clear hkp); (try clear ho0)))
     go_meet
     case rel => exact ⟨_, (21), (t692), (t695), (v693), aa_6, H', ⟨by have := HK1.out; have := HJ22.out; have := HJ33.out; have := HJ129.out; first | omega | exact Nat.le_refl _⟩, ⟨aa_9⟩, ⟨aa_20⟩, ⟨aa_1⟩, ⟨aa_5⟩, ⟨aa_2⟩, ⟨aa_4⟩, ⟨aa_17⟩⟩
    case rest =>
    as_aux_lemma =>
    clear HC273
    try clear c156
    try clear c156b0
    try clear c156b1
    try clear c227
    try clear c227b0
    try clear c227b1
    try clear c266
    try clear c266b0
    try clear c266b1
    obtain ⟨kq, x23_272, x6z_272, x7z_272, u6z, rfl, HA, HJ272, HO_4z, HO_6z, BK469, BK606, HI476, HI485, HB⟩ := hcut
    cases kq with
    | zero => exact absurd HA.out (by simp [j8])
    | succ kj272 =>
    have H := HA.out
    clear HA
    simp only [j8] at H
    replace H := bm_ H
    obtain ⟨⟨t696, t697, t700⟩, A2870, H⟩ := H
    replace H : ((gangwaylaw9_num.f t696).bind fun t701 => (if t701 = x23_272 then (j9 kj272 x6_1 a0_0 a0_1 a0_2 l0_3 t697 t700 x6z_272 x7z_272) else (none))) = some r := H
    have A287 := am_ A2870
    clear A2870
    replace H := bm_ H
    obtain ⟨t701, A2880, H⟩ := H
    replace H : (if t701 = x23_272 then (j9 kj272 x6_1 a0_0 a0_1 a0_2 l0_3 t697 t700 x6z_272 x7z_272) else (none)) = some r := H
    have A288 := am_ A2880
    clear A2880
    by_cases c289 : t701 = x23_272
    rotate_left
    ·rw [if_neg c289] at H
     exact absurd H (by simp)
    rw [if_pos c289] at H
    have c289b0 : (t701 == x23_272) = true := beq_iff_eq.mpr c289
    have c289b1 : (t701 != x23_272) = false := bne_eq_false_iff_eq.mpr c289
    clear c289
    have H' := am_ H
    clear H
    have hnb290 := NB606_469.out
    have hnc290 := NB469_606.out
    have hnb291 := NB606_476.out
    have hnc291 := NB476_606.out
    have hnb292 := NB606_485.out
    have hnc292 := NB485_606.out
    have hcz293_0 : wc.cell? ⟨gb606, 0, none⟩ = some (.int .i64 ((rd_T48 l0_3 x6_1).f0)) := bc BK606 0
    have hcz293_1 : wc.cell? ⟨gb606, 1, none⟩ = some (.int .i64 ((rd_T48 l0_3 x6_1).f1)) := bc BK606 1
    have hcz293_2 : wc.cell? ⟨gb606, 2, none⟩ = some (.int .i64 ((rd_T48 l0_3 x6_1).f2)) := bc BK606 2
    have hcz293_3 : wc.cell? ⟨gb606, 3, none⟩ = some (.int .i64 ((rd_T48 l0_3 x6_1).f3)) := bc BK606 3
    have hcz293_4 : wc.cell? ⟨gb606, 4, none⟩ = some (.int .u64 ((rd_T48 l0_3 x6_1).f4)) := bc BK606 4
    have hcz293_5 : wc.cell? ⟨gb606, 5, none⟩ = some (.slice A605_5 ((rd_T48 l0_3 x6_1).f5).length c605_5) := bc BK606 5
    go_wp2_with (first | ((with_reducible refine gate_callee (f := 12) rfl ?_); refine goesL_ (some 154) rfl rfl Try.func12 (by kernel_rfl) rfl #[.pointer (some ⟨g476, 0, none⟩), .int .i64 ((rd_T48 l0_3 x6_1).f1), .int .i64 ((rd_T48 l0_3 x6_1).f2), .int .i64 ((rd_T48 l0_3 x6_1).f3), .int .u64 ((rd_T48 l0_3 x6_1).f4)] rfl aa_0 ?_; (with_reducible refine (mem_Memory_Store.calls g476 (fun k_ => some k_ = (u4z : Value).ownBlock) u4z x4z_1 x5z_1 ((rd_T48 l0_3 x6_1).f1) ((rd_T48 l0_3 x6_1).f2) ((rd_T48 l0_3 x6_1).f3) ((rd_T48 l0_3 x6_1).f4) t696 t697 t700 w _ ?side1 ?side2 ?side3 A287.out).mono ?_); (case side1 => exact aa_2); (case side2 => exact aa_17); (case side3 => exact Kd.R_tight rfl HO_4z.out); rintro e w294 ⟨v698, rfl, ho0, hi, hb, hkp⟩; refine ⟨_, rfl, ?_⟩; have n0_ := am_ (Kd.R_mono (ok' := fun k_ => some k_ ≠ (v698 : Value).ownBlock) (Kd.R_keptB ((IsS61.apart HI476.out HO_6z.out (by decide))) hkp (fun k_ hk_ hs_ => Or.elim hs_ (fun hs_ => (hk_.1) hs_) (fun e_ => (hk_.2) e_))) (fun k_ hk_ => fun e_ => Or.elim (ho0.1 k_ e_.symm) (fun hs_ => hk_.2.1 (.inl hs_)) (fun hn_ => Nat.not_le.2 hk_.2.2 hn_))); have n1_ := am_ (bkept BK469 aa_1 hkp (fun hs_ => Or.elim hs_ (fun hs_ => (fun e_ => (Kd.R_ne HO_4z.out BK469.out (by decide)) e_) hs_) (fun e_ => NB469_476.out e_))); have n2_ := am_ (bkept BK606 aa_5 hkp (fun hs_ => Or.elim hs_ (fun hs_ => (fun e_ => (Kd.R_ne HO_4z.out BK606.out (by decide)) e_) hs_) (fun e_ => NB606_476.out e_))); have n3_ := am_ (hi); have n4_ := am_ (IsS54.kept aa_4 hkp (fun hs_ => Or.elim hs_ (fun hs_ => (fun e_ => (IsS54.own_ne HI485.out HO_4z.out (by decide)) e_) hs_) (fun e_ => NB485_476.out e_))); have n5_ := am_ (Kd.R_mono (ok' := fun k_ => some k_ ≠ (u6z : Value).ownBlock) ho0 (fun k_ hk_ => Or.elim hk_ (fun hs_ => fun e_ => ((((IsS61.apart HI476.out HO_6z.out (by decide))).1 k_ e_.symm).1) hs_) (fun hn_ => (Kd.fresh' (Kd.R_lt aa_7) k_ hn_)))); have n6_ := am_ (hb); clear HO_6z; clear BK469; clear BK606; clear HI476; clear HI485; clear HB; clear HO_4z; have HO_6z := n0_; have BK469 := n1_; have BK606 := n2_; have HI476 := n3_; have HI485 := n4_; have HO699 := n5_; have HB := n6_; clear n0_ n1_ n2_ n3_ n4_ n5_ n6_; (try clear hb); (try clear hkp); (try clear ho0)) | ((with_reducible refine gate_callee (f := 8) rfl ?_); refine goesL_ (some 155) rfl rfl Try.func8 (by kernel_rfl) rfl #[.int .i64 t696] rfl aa_0 ?_; (with_reducible refine (gangwaylaw9_num.calls t696 t701 _ A288.out).mono ?_); rintro e w' ⟨rfl, ⟨nd, rfl⟩⟩; refine ⟨_, rfl, ?_⟩))
    go_meet
    case rel => exact ⟨_, (t697), (t700), (x6z_272), (x7z_272), (v698), (u6z), H', ⟨by have := HK1.out; have := HJ22.out; have := HJ33.out; have := HJ129.out; have := HJ272.out; first | omega | exact Nat.le_refl _⟩, ⟨by (with_reducible repeat (first | apply Kd.R_alloc | apply Kd.R_drewN | apply Kd.R_drew)); exact HO699.out⟩, ⟨aa_7⟩, ⟨aa_1⟩, ⟨aa_5⟩, ⟨aa_2⟩, ⟨aa_4⟩, ⟨aa_17⟩⟩
   as_aux_lemma =>
   rw [if_pos c266] at H
   have c266b0 : (t607 == 7) = true := beq_iff_eq.mpr c266
   have c266b1 : (t607 != 7) = false := bne_eq_false_iff_eq.mpr c266
   clear c266
   replace H := bm_ H
   obtain ⟨⟨t681, t682, t685⟩, A2670, H⟩ := H
   replace H : ((gangwayref9_Mem_Grow.f x6z_1 x7z_1 ((rd_T48 l0_3 x6_1).f3)).bind fun bt686 => (if t681 = bt686.1 then (j9 kj129 x6_1 a0_0 a0_1 a0_2 l0_3 t682 t685 bt686.2.1 bt686.2.2) else (none))) = some r := H
   have A267 := am_ A2670
   clear A2670
   replace H := bm_ H
   obtain ⟨⟨t686, t687, t690⟩, A2680, H⟩ := H
   replace H : (if t681 = t686 then (j9 kj129 x6_1 a0_0 a0_1 a0_2 l0_3 t682 t685 t687 t690) else (none)) = some r := H
   have A268 := am_ A2680
   clear A2680
   by_cases c269 : t681 = t686
   rotate_left
   ·rw [if_neg c269] at H
    exact absurd H (by simp)
   as_aux_lemma =>
   rw [if_pos c269] at H
   have c269b0 : (t681 == t686) = true := beq_iff_eq.mpr c269
   have c269b1 : (t681 != t686) = false := bne_eq_false_iff_eq.mpr c269
   clear c269
   have H' := am_ H
   clear H
   try go_wp2
   have n0_ := am_ (Kd.R_drew HO_4z.out)
   have n1_ := am_ (Kd.R_drew HO_6z.out)
   have n2_ := am_ (blk_drew BK469.out)
   have n3_ := am_ (blk_drew BK606.out)
   have n4_ := am_ (IsS61.drew HI476.out)
   have n5_ := am_ (IsS54.drew HI485.out)
   have n6_ := am_ (below_drew1 HB.out)
   clear HO_4z
   clear HO_6z
   clear BK469
   clear BK606
   clear HI476
   clear HI485
   clear HB
   have HO_4z := n0_
   have HO_6z := n1_
   have BK469 := n2_
   have BK606 := n3_
   have HI476 := n4_
   have HI485 := n5_
   have HB := n6_
   clear n0_ n1_ n2_ n3_ n4_ n5_ n6_
   refine start_ (n := 9) (S := fun w' => w'.cell? ⟨gb606, 3, none⟩ = some (.int .i64 ((rd_T48 l0_3 x6_1).f3))) (ds := []) bb9_ (by kernel_rfl) rfl rfl ((bc BK606 3)) (fun hHeld => ?_); refine with_tabW gangwaylaw9_MemExact.tab62 gangwaylaw9_MemExact.bits62 (fun HT_ HW_ => ?_)
   generalize wc.drew = w270 at HO_4z HO_6z BK469 BK606 HI476 HI485 HB hHeld ⊢
   refine pure_ (i := 0) (N := some 299) (v := ?_) (a' := ?_) bb8_ rfl rfl (any_of HT_.out (by kernel_rfl)) (fun _ _ _ h => h) (Or.inl ⟨by rfl, ?_⟩) ?_ ?_
   rotate_left; · intro w'; go_simp; with_reducible rfl
   rotate_left; · simp only [Act.put, e1, e2, e3, i64_w, i32_w]; rfl
   refine pure_ (i := 1) (N := some 300) (v := ?_) (a' := ?_) bb7_ rfl rfl (any_of HT_.out (by kernel_rfl)) (fun _ _ _ h => h) (Or.inl ⟨by rfl, ?_⟩) ?_ ?_
   rotate_left; · intro w'; go_simp; with_reducible rfl
   rotate_left; · simp only [Act.put, e1, e2, e3, i64_w, i32_w]; rfl
   refine pure_ (i := 4) (N := some 303) (v := ?_) (a' := ?_) bb6_ rfl rfl (any_of HT_.out (by kernel_rfl)) (fun _ _ _ h => h) (Or.inl ⟨by rfl, ?_⟩) ?_ ?_
   rotate_left; · intro w'; go_simp; with_reducible rfl
   rotate_left; · simp only [Act.put, e1, e2, e3, i64_w, i32_w]; rfl
   refine pure_ (i := 5) (N := some 304) (v := ?_) (a' := ?_) bb5_ rfl rfl (any_of HT_.out (by kernel_rfl)) (fun _ _ _ h => h) (Or.inl ⟨by rfl, ?_⟩) ?_ ?_
   rotate_left; · intro w'; go_simp; with_reducible rfl
   rotate_left; · simp only [Act.put, e1, e2, e3, i64_w, i32_w]; rfl
   refine take_ (i := 2) (N := some 301) (v := ?_) (a' := ?_) bb4_ rfl rfl (take_ofW HT_.out HW_.out (by kernel_rfl)) (fun _ _ _ h => h) (Or.inl ⟨by rfl, ?_⟩) hHeld ?_ ?_
   rotate_left; · intro w' s0; go_simp; with_reducible rfl
   rotate_left; · simp only [Act.put, e1, e2, e3, i64_w, i32_w]; rfl
   refine take_ (i := 6) (N := some 305) (v := ?_) (a' := ?_) bb3_ rfl rfl (take_ofW HT_.out HW_.out (by kernel_rfl)) (fun _ _ _ h => h) (Or.inl ⟨by rfl, ?_⟩) hHeld ?_ ?_
   rotate_left; · intro w' s0; go_simp; with_reducible rfl
   rotate_left; · simp only [Act.put, e1, e2, e3, i64_w, i32_w]; rfl
   refine one_ (i := 3) (N := some 302) bb2_ rfl rfl (one_of HT_.out (by kernel_rfl)) (by decide) (fun K hK => ?_)
   refine goes_ Try.func10 (by kernel_rfl) rfl #[.pointer (some ⟨g476, 0, none⟩), .int .i64 ((rd_T48 l0_3 x6_1).f3)] (by rfl) rfl rfl aa_0 ?_
   with_reducible refine (mem_Memory_Grow.calls g476 (fun k_ => some k_ = (u4z : Value).ownBlock) u4z x4z_1 x5z_1 ((rd_T48 l0_3 x6_1).f3) t681 t682 t685 w _ ?side1 ?side2 ?side3 A267.out).mono ?_
   (case side1 => exact aa_2)
   (case side2 => exact aa_17)
   (case side3 => exact Kd.R_tight rfl HO_4z.out)
   rintro e w271 ⟨v683, rfl, ho0, hi, hb, hkp⟩
   refine ⟨_, rfl, ?_⟩
   have n0_ := am_ (Kd.R_mono (ok' := fun k_ => some k_ ≠ (v683 : Value).ownBlock) (Kd.R_keptB ((IsS61.apart HI476.out HO_6z.out (by decide))) hkp (fun k_ hk_ hs_ => Or.elim hs_ (fun hs_ => (hk_.1) hs_) (fun e_ => (hk_.2) e_))) (fun k_ hk_ => fun e_ => Or.elim (ho0.1 k_ e_.symm) (fun hs_ => hk_.2.1 (.inl hs_)) (fun hn_ => Nat.not_le.2 hk_.2.2 hn_)))
   have n1_ := am_ (bkept BK469 aa_1 hkp (fun hs_ => Or.elim hs_ (fun hs_ => (fun e_ => (Kd.R_ne HO_4z.out BK469.out (by decide)) e_) hs_) (fun e_ => NB469_476.out e_)))
   have n2_ := am_ (bkept BK606 aa_5 hkp (fun hs_ => Or.elim hs_ (fun hs_ => (fun e_ => (Kd.R_ne HO_4z.out BK606.out (by decide)) e_) hs_) (fun e_ => NB606_476.out e_)))
   have n3_ := am_ (hi)
   have n4_ := am_ (IsS54.kept aa_4 hkp (fun hs_ => Or.elim hs_ (fun hs_ => (fun e_ => (IsS54.own_ne HI485.out HO_4z.out (by decide)) e_) hs_) (fun e_ => NB485_476.out e_)))
   have n5_ := am_ (Kd.R_mono (ok' := fun k_ => some k_ ≠ (u6z : Value).ownBlock) ho0 (fun k_ hk_ => Or.elim hk_ (fun hs_ => fun e_ => ((((IsS61.apart HI476.out HO_6z.out (by decide))).1 k_ e_.symm).1) hs_) (fun hn_ => (Kd.fresh' (Kd.R_lt aa_7) k_ hn_))))
   have n6_ := am_ (hb)
   clear HO_6z
   clear BK469
   clear BK606
   clear HI476
   clear HI485
   clear HB
   clear HO_4z
   have HO_6z := n0_
   have BK469 := n1_
   have BK606 := n2_
   have HI476 := n3_
   have HI485 := n4_
   have HO684 := n5_
   have HB := n6_
   clear n0_ n1_ n2_ n3_ n4_ n5_ n6_
   refine hK.out _ _ ((bc BK606 3)) (fun hHeld => ?_)
   clear hK K
   refine norm_ (a' := ?_) ?_ ?_
   rotate_left
   ·show Act.put _ (some 302) _ = _
    simp only [Act.put, e1, e2, e3, i64_w, i32_w]
    rfl
   refine one_ (i := 7) (N := some 306) bb1_ rfl rfl (one_of HT_.out (by kernel_rfl)) (by decide) (fun K hK => ?_)
   refine goes_ Try.func25 (by kernel_rfl) rfl #[.pointer (some ⟨g485, 0, none⟩), .int .i64 ((rd_T48 l0_3 x6_1).f3)] (by rfl) rfl rfl aa_0 ?_
   with_reducible refine (gangwayref9_Mem_Grow.calls g485 (fun k_ => some k_ = (u6z : Value).ownBlock) u6z x6z_1 x7z_1 ((rd_T48 l0_3 x6_1).f3) t686 t687 t690 w _ ?side1 ?side2 ?side3 A268.out).mono ?_
   (case side1 => exact aa_4)
   (case side2 => exact aa_17)
   (case side3 => exact Kd.R_tight rfl HO_6z.out)
   rintro e w272 ⟨v688, rfl, ho0, hi, hb, hkp⟩
   refine ⟨_, rfl, ?_⟩
   have n0_ := am_ (bkept BK469 aa_1 hkp (fun hs_ => Or.elim hs_ (fun hs_ => (fun e_ => (Kd.R_ne HO_6z.out BK469.out (by decide)) e_) hs_) (fun e_ => NB469_485.out e_)))
   have n1_ := am_ (bkept BK606 aa_5 hkp (fun hs_ => Or.elim hs_ (fun hs_ => (fun e_ => (Kd.R_ne HO_6z.out BK606.out (by decide)) e_) hs_) (fun e_ => NB606_485.out e_)))
   have n2_ := am_ (IsS61.kept aa_2 hkp (fun hs_ => Or.elim hs_ (fun hs_ => (fun e_ => (IsS61.own_ne HI476.out HO_6z.out (by decide)) e_) hs_) (fun e_ => NB476_485.out e_)))
   have n3_ := am_ (hi)
   have n4_ := am_ (Kd.R_mono (ok' := fun k_ => some k_ ≠ (v688 : Value).ownBlock) (Kd.R_keptB ((IsS54.apart HI485.out HO684.out (by decide))) hkp (fun k_ hk_ hs_ => Or.elim hs_ (fun hs_ => (hk_.1) hs_) (fun e_ => (hk_.2) e_))) (fun k_ hk_ => fun e_ => Or.elim (ho0.1 k_ e_.symm) (fun hs_ => hk_.2.1 (.inl hs_)) (fun hn_ => Nat.not_le.2 hk_.2.2 hn_)))
   have n5_ := am_ (Kd.R_mono (ok' := fun k_ => some k_ ≠ (v683 : Value).ownBlock) ho0 (fun k_ hk_ => Or.elim hk_ (fun hs_ => fun e_ => ((((IsS54.apart HI485.out HO684.out (by decide))).1 k_ e_.symm).1) hs_) (fun hn_ => (Kd.fresh' (Kd.R_lt (by (with_reducible repeat (first | apply Kd.R_alloc | apply Kd.R_drewN | apply Kd.R_drew)); exact HO684.out)) k_ hn_))))
   have n6_ := am_ (hb)
   clear BK469
   clear BK606
   clear HI476
   clear HI485
   clear HO684
   clear HB
   clear HO_6z
   have BK469 := n0_
   have BK606 := n1_
   have HI476 := n2_
   have HI485 := n3_
   have HO684 := n4_
   have HO689 := n5_
   have HB := n6_
   clear n0_ n1_ n2_ n3_ n4_ n5_ n6_
   refine hK.out _ _ ((bc BK606 3)) (fun hHeld => ?_)
   clear hK K
   refine norm_ (a' := ?_) ?_ ?_
   rotate_left
   ·show Act.put _ (some 306) _ = _
    simp only [Act.put, e1, e2, e3, i64_w, i32_w]
    rfl
   refine pure_ (i := 8) (N := some 307) (v := ?_) (a' := ?_) bb0_ rfl rfl (any_of HT_.out (by kernel_rfl)) (fun _ _ _ h => h) (Or.inl ⟨by rfl, ?_⟩) ?_ ?_
   rotate_left; · intro w'; go_simp; with_reducible rfl
   rotate_left; · simp only [Act.put, e1, e2, e3, i64_w, i32_w]; rfl
   refine done_ (done_of HT_.out (by kernel_rfl)) ?_
   try go_wp2
   go_meet
   case rel => exact ⟨_, (t682), (t685), (t687), (t690), (v683), (v688), H', ⟨by have := HK1.out; have := HJ22.out; have := HJ33.out; have := HJ129.out; first | omega | exact Nat.le_refl _⟩, ⟨by (with_reducible repeat (first | apply Kd.R_alloc | apply Kd.R_drewN | apply Kd.R_drew)); exact HO684.out⟩, ⟨by (with_reducible repeat (first | apply Kd.R_alloc | apply Kd.R_drewN | apply Kd.R_drew)); exact HO689.out⟩, ⟨aa_1⟩, ⟨aa_5⟩, ⟨aa_2⟩, ⟨aa_4⟩, ⟨aa_17⟩⟩
  as_aux_lemma =>
  rw [if_pos c227] at H
  have c227b0 : (t607 == 6) = true := beq_iff_eq.mpr c227
  have c227b1 : (t607 != 6) = false := bne_eq_false_iff_eq.mpr c227
  clear c227
  replace H := bm_ H
  obtain ⟨⟨t665, t666, t669⟩, A2280, H⟩ := H
  replace H : (if t665 = true then (gangwaylaw9_MemExact.l1 kj129 x6_1 0 0 a0_0 a0_1 a0_2 l0_3 x4z_1 x5z_1 t666 t669 ((rd_T48 l0_3 x6_1).f0) ((rd_T48 l0_3 x6_1).f1) ((rd_T48 l0_3 x6_1).f2) ((rd_T48 l0_3 x6_1).f3) ((rd_T48 l0_3 x6_1).f4) ((rd_T48 l0_3 x6_1).f5)) else (j7 kj129 x6_1 21 a0_0 a0_1 a0_2 l0_3 x4z_1 x5z_1 t666 t669 ((rd_T48 l0_3 x6_1).f0) ((rd_T48 l0_3 x6_1).f1) ((rd_T48 l0_3 x6_1).f2) ((rd_T48 l0_3 x6_1).f3) ((rd_T48 l0_3 x6_1).f4) ((rd_T48 l0_3 x6_1).f5))) = some r := H
  have A228 := am_ A2280
  clear A2280
  have HC229 := am_ H
  clear H
  have hnb230 := NB606_469.out
  have hnc230 := NB469_606.out
  have hnb231 := NB606_476.out
  have hnc231 := NB476_606.out
  have hnb232 := NB606_485.out
  have hnc232 := NB485_606.out
  have hcz233_0 : wc.cell? ⟨gb606, 0, none⟩ = some (.int .i64 ((rd_T48 l0_3 x6_1).f0)) := bc BK606 0
  have hcz233_1 : wc.cell? ⟨gb606, 1, none⟩ = some (.int .i64 ((rd_T48 l0_3 x6_1).f1)) := bc BK606 1
  have hcz233_2 : wc.cell? ⟨gb606, 2, none⟩ = some (.int .i64 ((rd_T48 l0_3 x6_1).f2)) := bc BK606 2
  have hcz233_3 : wc.cell? ⟨gb606, 3, none⟩ = some (.int .i64 ((rd_T48 l0_3 x6_1).f3)) := bc BK606 3
  have hcz233_4 : wc.cell? ⟨gb606, 4, none⟩ = some (.int .u64 ((rd_T48 l0_3 x6_1).f4)) := bc BK606 4
  have hcz233_5 : wc.cell? ⟨gb606, 5, none⟩ = some (.slice A605_5 ((rd_T48 l0_3 x6_1).f5).length c605_5) := bc BK606 5
  go_upto_if 261 with (first | ((with_reducible refine gate_callee (f := 21) rfl ?_); refine goesL_ (some 261) rfl rfl Try.func21 (by kernel_rfl) rfl #[.pointer (some ⟨g485, 0, none⟩), .int .i64 ((rd_T48 l0_3 x6_1).f1), .int .i64 (((rd_T48 l0_3 x6_1).f5).length : Int)] rfl aa_0 ?_; (with_reducible refine (gangwayref9_Mem_Has.calls g485 (fun k_ => some k_ = (u6z : Value).ownBlock) u6z x6z_1 x7z_1 ((rd_T48 l0_3 x6_1).f1) (((rd_T48 l0_3 x6_1).f5).length : Int) t665 t666 t669 w _ ?side1 ?side2 ?side3 A228.out).mono ?_); (case side1 => exact aa_4); (case side2 => exact aa_17); (case side3 => exact Kd.R_tight rfl HO_6z.out); rintro e w234 ⟨v667, rfl, ho0, hi, hb, hkp⟩; refine ⟨_, rfl, ?_⟩; have n0_ := am_ (Kd.R_mono (ok' := fun k_ => some k_ ≠ (v667 : Value).ownBlock) (Kd.R_keptB ((IsS54.apart HI485.out HO_4z.out (by decide))) hkp (fun k_ hk_ hs_ => Or.elim hs_ (fun hs_ => (hk_.1) hs_) (fun e_ => (hk_.2) e_))) (fun k_ hk_ => fun e_ => Or.elim (ho0.1 k_ e_.symm) (fun hs_ => hk_.2.1 (.inl hs_)) (fun hn_ => Nat.not_le.2 hk_.2.2 hn_))); have n1_ := am_ (bkept BK469 aa_1 hkp (fun hs_ => Or.elim hs_ (fun hs_ => (fun e_ => (Kd.R_ne HO_6z.out BK469.out (by decide)) e_) hs_) (fun e_ => NB469_485.out e_))); have n2_ := am_ (bkept BK606 aa_5 hkp (fun hs_ => Or.elim hs_ (fun hs_ => (fun e_ => (Kd.R_ne HO_6z.out BK606.out (by decide)) e_) hs_) (fun e_ => NB606_485.out e_))); have n3_ := am_ (IsS61.kept aa_2 hkp (fun hs_ => Or.elim hs_ (fun hs_ => (fun e_ => (IsS61.own_ne HI476.out HO_6z.out (by decide)) e_) hs_) (fun e_ => NB476_485.out e_))); have n4_ := am_ (hi); have n5_ := am_ (Kd.R_mono (ok' := fun k_ => some k_ ≠ (u4z : Value).ownBlock) ho0 (fun k_ hk_ => Or.elim hk_ (fun hs_ => fun e_ => ((((IsS54.apart HI485.out HO_4z.out (by decide))).1 k_ e_.symm).1) hs_) (fun hn_ => (Kd.fresh' (Kd.R_lt aa_9) k_ hn_)))); have n6_ := am_ (hb); clear HO_4z; clear BK469; clear BK606; clear HI476; clear HI485; clear HB; clear HO_6z; have HO_4z := n0_; have BK469 := n1_; have BK606 := n2_; have HI476 := n3_; have HI485 := n4_; have HO668 := n5_; have HB := n6_; clear n0_ n1_ n2_ n3_ n4_ n5_ n6_; (try clear hb); (try clear hkp); (try clear ho0)))
  (try simp only [Act.put, e1, e2, e3])
  go_cut [19] (fun v19 wc => ∃ (kq : Nat) (x19_228 : Int) (x4z_228 : List Int) (x6z_228 : List Int) (u4z : Value) (u6z : Value), v19 = .int .i64 x19_228 ∧ Aside0 (j7 kq x6_1 x19_228 a0_0 a0_1 a0_2 l0_3 x4z_228 x5z_1 x6z_228 t669 ((rd_T48 l0_3 x6_1).f0) ((rd_T48 l0_3 x6_1).f1) ((rd_T48 l0_3 x6_1).f2) ((rd_T48 l0_3 x6_1).f3) ((rd_T48 l0_3 x6_1).f4) ((rd_T48 l0_3 x6_1).f5) = some r) ∧ Aside0 (kq ≤ kj129) ∧ Aside0 (Kd.R (Kd.int .u8) 5 wc w.heap.size (fun k_ => some k_ ≠ (u6z : Value).ownBlock) u4z x4z_228) ∧ Aside0 (Kd.R (Kd.int .u8) 5 wc w.heap.size (fun k_ => some k_ ≠ (u4z : Value).ownBlock) u6z x6z_228) ∧ Aside0 (wc.heap[gb469]? = some (.cells #[.int .i64 a0_0, .int .i64 a0_1, .int .i64 a0_2, (.slice (some ad605) l0_3.length c0_3)] 26 (0, 0))) ∧ Aside0 (wc.heap[gb606]? = some (.cells #[.int .i64 ((rd_T48 l0_3 x6_1).f0), .int .i64 ((rd_T48 l0_3 x6_1).f1), .int .i64 ((rd_T48 l0_3 x6_1).f2), .int .i64 ((rd_T48 l0_3 x6_1).f3), .int .u64 ((rd_T48 l0_3 x6_1).f4), (.slice A605_5 ((rd_T48 l0_3 x6_1).f5).length c605_5)] 48 (0, 0))) ∧ Aside0 (IsS61 w wc g476 u4z x5z_1) ∧ Aside0 (IsS54 w wc g485 u6z t669) ∧ Aside0 (Below w.heap.size w wc))
  case first =>
   as_aux_lemma =>
   have H := HC229.out
   clear HC229
   by_cases c235 : t665 = true
   rotate_left
   ·replace c235 := Bool.eq_false_iff.mpr c235
    subst c235
    have H1 : (j7 kj129 x6_1 21 a0_0 a0_1 a0_2 l0_3 x4z_1 x5z_1 t666 t669 ((rd_T48 l0_3 x6_1).f0) ((rd_T48 l0_3 x6_1).f1) ((rd_T48 l0_3 x6_1).f2) ((rd_T48 l0_3 x6_1).f3) ((rd_T48 l0_3 x6_1).f4) ((rd_T48 l0_3 x6_1).f5)) = some r := by rw [if_neg (show ¬ (false = true) by decide)] at H; exact H
    clear H
    have H := H1
    clear H1
    have H' := am_ H
    clear H
    go_wp2
    go_meet
    case rel => exact ⟨_, (21), (x4z_1), (t666), (u4z), (v667), aa_6, H', ⟨by have := HK1.out; have := HJ22.out; have := HJ33.out; have := HJ129.out; first | omega | exact Nat.le_refl _⟩, ⟨aa_9⟩, ⟨aa_19⟩, ⟨aa_1⟩, ⟨aa_5⟩, ⟨aa_2⟩, ⟨aa_4⟩, ⟨aa_17⟩⟩
   as_aux_lemma =>
   subst c235
   have H1 : (gangwaylaw9_MemExact.l1 kj129 x6_1 0 0 a0_0 a0_1 a0_2 l0_3 x4z_1 x5z_1 t666 t669 ((rd_T48 l0_3 x6_1).f0) ((rd_T48 l0_3 x6_1).f1) ((rd_T48 l0_3 x6_1).f2) ((rd_T48 l0_3 x6_1).f3) ((rd_T48 l0_3 x6_1).f4) ((rd_T48 l0_3 x6_1).f5)) = some r := by rw [if_pos rfl] at H; exact H
   clear H
   have H := H1
   clear H1
   have H' := am_ H
   clear H
   go_wp2
   go_loopg [20] kj129 (fun kq v20 w' => ∃ (x20_5 : Int) (x4z_5 : List Int) (x6z_5 : List Int) (u4z : Value) (u6z : Value), v20 = .int .i64 x20_5 ∧ Aside0 (gangwaylaw9_MemExact.l1 kq x6_1 0 x20_5 a0_0 a0_1 a0_2 l0_3 x4z_5 x5z_1 x6z_5 t669 ((rd_T48 l0_3 x6_1).f0) ((rd_T48 l0_3 x6_1).f1) ((rd_T48 l0_3 x6_1).f2) ((rd_T48 l0_3 x6_1).f3) ((rd_T48 l0_3 x6_1).f4) ((rd_T48 l0_3 x6_1).f5) = some r) ∧ Aside0 (kq ≤ kj129) ∧ Aside0 (Kd.R (Kd.int .u8) 5 w' w.heap.size (fun k_ => some k_ ≠ (u6z : Value).ownBlock) u4z x4z_5) ∧ Aside0 (Kd.R (Kd.int .u8) 5 w' w.heap.size (fun k_ => some k_ ≠ (u4z : Value).ownBlock) u6z x6z_5) ∧ Aside0 (w'.heap[gb469]? = some (.cells #[.int .i64 a0_0, .int .i64 a0_1, .int .i64 a0_2, (.slice (some ad605) l0_3.length c0_3)] 26 (0, 0))) ∧ Aside0 (w'.heap[gb606]? = some (.cells #[.int .i64 ((rd_T48 l0_3 x6_1).f0), .int .i64 ((rd_T48 l0_3 x6_1).f1), .int .i64 ((rd_T48 l0_3 x6_1).f2), .int .i64 ((rd_T48 l0_3 x6_1).f3), .int .u64 ((rd_T48 l0_3 x6_1).f4), (.slice A605_5 ((rd_T48 l0_3 x6_1).f5).length c605_5)] 48 (0, 0))) ∧ Aside0 (IsS61 w w' g476 u4z x5z_1) ∧ Aside0 (IsS54 w w' g485 u6z t669) ∧ Aside0 (Below w.heap.size w w'))
   case atStart => exact ⟨(0), (x4z_1), (t666), (u4z), (v667), aa_6, H', ⟨Nat.le_refl _⟩, ⟨aa_9⟩, ⟨aa_19⟩, ⟨aa_1⟩, ⟨aa_5⟩, ⟨aa_2⟩, ⟨aa_4⟩, ⟨aa_17⟩⟩
   case round =>
   as_aux_lemma =>
   clear H'
   try clear c156
   try clear c156b0
   try clear c156b1
   try clear c227b0
   try clear c227b1
   try clear c235
   try clear hcz233_0
   try clear hcz233_1
   try clear hcz233_2
   try clear hcz233_3
   try clear hcz233_4
   try clear hcz233_5
   obtain ⟨x20_5, x4z_5, x6z_5, u4z, u6z, rfl, HA, HK5, HO_4z, HO_6z, BK469, BK606, HI476, HI485, HB⟩ := hrel
   cases gk with
   | zero => exact absurd HA.out (by simp [gangwaylaw9_MemExact.l1])
   | succ k5 =>
   have H := HA.out
   clear HA
   simp only [gangwaylaw9_MemExact.l1] at H
   by_cases c236 : x20_5 < (((rd_T48 l0_3 x6_1).f5).length : Int)
   rotate_left
   ·rw [if_neg c236] at H
    have c236b0 : decide (x20_5 < (((rd_T48 l0_3 x6_1).f5).length : Int)) = false := decide_eq_false c236
    clear c236
    (first | rw [c236b0] | (simp only [i64_w, i32_w]; rw [c236b0]) | skip)
    have H' := am_ H
    clear H
    have hnb248 := NB606_469.out
    have hnc248 := NB469_606.out
    have hnb249 := NB606_476.out
    have hnc249 := NB476_606.out
    have hnb250 := NB606_485.out
    have hnc250 := NB485_606.out
    have hcz251_0 : wr.cell? ⟨gb606, 0, none⟩ = some (.int .i64 ((rd_T48 l0_3 x6_1).f0)) := bc BK606 0
    have hcz251_1 : wr.cell? ⟨gb606, 1, none⟩ = some (.int .i64 ((rd_T48 l0_3 x6_1).f1)) := bc BK606 1
    have hcz251_2 : wr.cell? ⟨gb606, 2, none⟩ = some (.int .i64 ((rd_T48 l0_3 x6_1).f2)) := bc BK606 2
    have hcz251_3 : wr.cell? ⟨gb606, 3, none⟩ = some (.int .i64 ((rd_T48 l0_3 x6_1).f3)) := bc BK606 3
    have hcz251_4 : wr.cell? ⟨gb606, 4, none⟩ = some (.int .u64 ((rd_T48 l0_3 x6_1).f4)) := bc BK606 4
    have hcz251_5 : wr.cell? ⟨gb606, 5, none⟩ = some (.slice A605_5 ((rd_T48 l0_3 x6_1).f5).length c605_5) := bc BK606 5
    go_wp2
    go_meet
    case rel => exact ⟨_, (0), (x4z_5), (x6z_5), (u4z), (u6z), aa_6, H', ⟨by have := HK1.out; have := HJ22.out; have := HJ33.out; have := HJ129.out; have := HK5.out; first | omega | exact Nat.le_refl _⟩, ⟨aa_9⟩, ⟨aa_7⟩, ⟨aa_1⟩, ⟨aa_5⟩, ⟨aa_2⟩, ⟨aa_4⟩, ⟨aa_17⟩⟩
   as_aux_lemma =>
   rw [if_pos c236] at H
   have c236b0 : decide (x20_5 < (((rd_T48 l0_3 x6_1).f5).length : Int)) = true := decide_eq_true c236
   clear c236
   (first | rw [c236b0] | (simp only [i64_w, i32_w]; rw [c236b0]) | skip)
   by_cases c237 : 0 ≤ x20_5
   rotate_left
   ·rw [if_neg c237] at H
    exact absurd H (by simp)
   as_aux_lemma =>
   rw [if_pos c237] at H
   have c237b0 : decide (0 ≤ x20_5) = true := decide_eq_true c237
   clear c237
   obtain ⟨ji238, hji238⟩ : ∃ j_ : Int, (wrap64 (((rd_T48 l0_3 x6_1).f1) + x20_5)) = j_ := ⟨_, rfl⟩
   replace H : (if 0 ≤ (ji238) then (if (ji238) < (x6z_5.length : Int) then (gangwaylaw9_MemExact.l1 k5 x6_1 0 (wrap64 (x20_5 + 1)) a0_0 a0_1 a0_2 l0_3 x4z_5 x5z_1 (x6z_5.set ((ji238) : Int).toNat (rd ((rd_T48 l0_3 x6_1).f5) x20_5)) t669 ((rd_T48 l0_3 x6_1).f0) ((rd_T48 l0_3 x6_1).f1) ((rd_T48 l0_3 x6_1).f2) ((rd_T48 l0_3 x6_1).f3) ((rd_T48 l0_3 x6_1).f4) ((rd_T48 l0_3 x6_1).f5)) else (none)) else (none)) = some r := by first | (rw [hji238] at H; exact H) | (simp only [hji238] at H ⊢; exact H)
   have hji238w : (IntKind.i64.wrap (((rd_T48 l0_3 x6_1).f1) + x20_5)) = ji238 := (i64_w _).trans hji238
   by_cases c239 : 0 ≤ (ji238)
   rotate_left
   ·rw [if_neg c239] at H
    exact absurd H (by simp)
   as_aux_lemma =>
   rw [if_pos c239] at H
   have c239b0 : decide (0 ≤ (ji238)) = true := decide_eq_true c239
   clear c239
   by_cases c240 : (ji238) < (x6z_5.length : Int)
   rotate_left
   ·rw [if_neg c240] at H
    exact absurd H (by simp)
   as_aux_lemma =>
   rw [if_pos c240] at H
   have c240b0 : decide ((ji238) < (x6z_5.length : Int)) = true := decide_eq_true c240
   clear c240
   obtain ⟨y671, hy671⟩ : ∃ y_ : List Int, y_ = (x6z_5.set ((ji238) : Int).toNat (rd ((rd_T48 l0_3 x6_1).f5) x20_5)) := ⟨_, rfl⟩
   replace H : (gangwaylaw9_MemExact.l1 k5 x6_1 0 (wrap64 (x20_5 + 1)) a0_0 a0_1 a0_2 l0_3 x4z_5 x5z_1 y671 t669 ((rd_T48 l0_3 x6_1).f0) ((rd_T48 l0_3 x6_1).f1) ((rd_T48 l0_3 x6_1).f2) ((rd_T48 l0_3 x6_1).f3) ((rd_T48 l0_3 x6_1).f4) ((rd_T48 l0_3 x6_1).f5)) = some r := by first | (rw [hy671]; with_reducible exact H) | (have H2_ := (Option.bind_some _ _).symm.trans H; rw [hy671]; with_reducible exact H2_) | (have H2_ := (Option.bind_some _ _).symm.trans H; with_reducible exact H2_) | with_reducible exact H | (rw [hy671]; exact H) | exact H
   have Ny671 := am_ hy671
   clear hy671
   have H' := am_ H
   clear H
   have hnb242 := NB606_469.out
   have hnc242 := NB469_606.out
   have hnb243 := NB606_476.out
   have hnc243 := NB476_606.out
   have hnb244 := NB606_485.out
   have hnc244 := NB485_606.out
   have hcz245_0 : wr.cell? ⟨gb606, 0, none⟩ = some (.int .i64 ((rd_T48 l0_3 x6_1).f0)) := bc BK606 0
   have hcz245_1 : wr.cell? ⟨gb606, 1, none⟩ = some (.int .i64 ((rd_T48 l0_3 x6_1).f1)) := bc BK606 1
   have hcz245_2 : wr.cell? ⟨gb606, 2, none⟩ = some (.int .i64 ((rd_T48 l0_3 x6_1).f2)) := bc BK606 2
   have hcz245_3 : wr.cell? ⟨gb606, 3, none⟩ = some (.int .i64 ((rd_T48 l0_3 x6_1).f3)) := bc BK606 3
   have hcz245_4 : wr.cell? ⟨gb606, 4, none⟩ = some (.int .u64 ((rd_T48 l0_3 x6_1).f4)) := bc BK606 4
   have hcz245_5 : wr.cell? ⟨gb606, 5, none⟩ = some (.slice A605_5 ((rd_T48 l0_3 x6_1).f5).length c605_5) := bc BK606 5
   try go_wp2
   have n0_ := am_ (Kd.R_drew HO_4z.out)
   have n1_ := am_ (Kd.R_drew HO_6z.out)
   have n2_ := am_ (blk_drew BK469.out)
   have n3_ := am_ (blk_drew BK606.out)
   have n4_ := am_ (IsS61.drew HI476.out)
   have n5_ := am_ (IsS54.drew HI485.out)
   have n6_ := am_ (below_drew1 HB.out)
   clear HO_4z
   clear HO_6z
   clear BK469
   clear BK606
   clear HI476
   clear HI485
   clear HB
   have HO_4z := n0_
   have HO_6z := n1_
   have BK469 := n2_
   have BK606 := n3_
   have HI476 := n4_
   have HI485 := n5_
   have HB := n6_
   clear n0_ n1_ n2_ n3_ n4_ n5_ n6_
   have p670 : 0 ≤ (x20_5 : Int) := of_decide_eq_true aa_16
   have q670 : x20_5 < (((rd_T48 l0_3 x6_1).f5).length : Int) := of_decide_eq_true aa_16
   obtain ⟨ad670, e670, hx670_0⟩ := Kd.at_int HR605_5.out x20_5 p670 q670
   have hw670_0 := hx670_0
   cases e670
   replace hx670_0 := up HB hx670_0
   replace p670 := eq_true p670
   replace q670 := eq_true q670
   have p241 : 0 ≤ ((ji238) : Int) := of_decide_eq_true aa_16
   have q241 : ((ji238) : Int) < ((x6z_5.length : Int) : Int) := of_decide_eq_true aa_16
   obtain ⟨go241, co241, eo241, gb241, gl241, cl241, HG241⟩ := Kd.R_form HO_6z.out (by omega)
   (first | cases eo241 | (injection eo241 with ea_ en_ ec_; (first | subst ea_ | (injection ea_ with ea_; subst ea_)); subst ec_; clear en_))
   have GB241 := am_ gb241
   have GG241 := am_ HG241
   clear gb241 gl241 HG241
   obtain ⟨hx241_0, hf241_0⟩ := Kd.R_celln 0 HO_6z.out ((ji238) : Int) p241 q241
   replace p241 := eq_true p241
   replace q241 := eq_true q241
   have HN476_go241 := am_ (show g476 ≠ go241 from by have h_ := IsS61.own_ne HI476.out HO_6z.out (by decide); intro e_; exact h_ (by rw [e_]; rfl))
   have HN485_go241 := am_ (show g485 ≠ go241 from by have h_ := IsS54.own_ne HI485.out HO_6z.out (by decide); intro e_; exact h_ (by rw [e_]; rfl))
   have HP247 := Kd.R_putn HO_6z.out ((ji238) : Int) (rd ((rd_T48 l0_3 x6_1).f5) x20_5)
   rw [← Ny671.out] at HP247
   have HQ247 := am_ HP247
   clear HP247
   refine start_ (n := 15) (S := fun w' => w'.cell? ⟨g485, 0, none⟩ = some (.slice (some ⟨go241, 0, none⟩) x6z_5.length co241) ∧ w'.cell? ⟨g485, 1, none⟩ = some (.int .i64 t669) ∧ w'.cell? ⟨gb606, 0, none⟩ = some (.int .i64 ((rd_T48 l0_3 x6_1).f0)) ∧ w'.cell? ⟨gb606, 1, none⟩ = some (.int .i64 ((rd_T48 l0_3 x6_1).f1)) ∧ w'.cell? ⟨gb606, 5, none⟩ = some (.slice (some ad670) ((rd_T48 l0_3 x6_1).f5).length c605_5) ∧ w'.cell? (ad670.add (x20_5).toNat) = some (.int .u8 (rd ((rd_T48 l0_3 x6_1).f5) x20_5))) (ds := [14]) bb39_ (by kernel_rfl) rfl rfl ⟨(blk_cell HI485.out.1 0).trans rfl, (blk_cell HI485.out.1 1).trans rfl, bc BK606 0, bc BK606 1, bc BK606 5, (up HB hw670_0 :)⟩ (fun hHeld => ?_); refine with_tabW gangwaylaw9_MemExact.tab55 gangwaylaw9_MemExact.bits55 (fun HT_ HW_ => ?_)
   generalize wr.drew = w246 at HO_4z HO_6z BK469 BK606 HI476 HI485 HB GG241 HQ247 hf241_0 hx241_0 hx670_0 hHeld ⊢
   refine pure_ (i := 0) (N := some 269) (v := ?_) (a' := ?_) bb38_ rfl rfl (any_of HT_.out (by kernel_rfl)) (fun _ _ _ h => h) (Or.inl ⟨by rfl, ?_⟩) ?_ ?_
   rotate_left; · intro w'; go_simp; with_reducible rfl
   rotate_left; · simp only [Act.put, e1, e2, e3, i64_w, i32_w]; rfl
   refine pure_ (i := 1) (N := some 270) (v := ?_) (a' := ?_) bb37_ rfl rfl (any_of HT_.out (by kernel_rfl)) (fun _ _ _ h => h) (Or.inl ⟨by rfl, ?_⟩) ?_ ?_
   rotate_left; · intro w'; go_simp; with_reducible rfl
   rotate_left; · simp only [Act.put, e1, e2, e3, i64_w, i32_w]; rfl
   refine pure_ (i := 2) (N := some 271) (v := ?_) (a' := ?_) bb36_ rfl rfl (any_of HT_.out (by kernel_rfl)) (fun _ _ _ h => h) (Or.inl ⟨by rfl, ?_⟩) ?_ ?_
   rotate_left; · intro w'; go_simp; with_reducible rfl
   rotate_left; · simp only [Act.put, e1, e2, e3, i64_w, i32_w]; rfl
   refine pure_ (i := 4) (N := some 273) (v := ?_) (a' := ?_) bb35_ rfl rfl (any_of HT_.out (by kernel_rfl)) (fun _ _ _ h => h) (Or.inl ⟨by rfl, ?_⟩) ?_ ?_
   rotate_left; · intro w'; go_simp; with_reducible rfl
   rotate_left; · simp only [Act.put, e1, e2, e3, i64_w, i32_w]; rfl
   refine pure_ (i := 6) (N := some 275) (v := ?_) (a' := ?_) bb34_ rfl rfl (any_of HT_.out (by kernel_rfl)) (fun _ _ _ h => h) (Or.inl ⟨by rfl, ?_⟩) ?_ ?_
   rotate_left; · intro w'; go_simp; with_reducible rfl
   rotate_left; · simp only [Act.put, e1, e2, e3, i64_w, i32_w]; rfl
   refine pure_ (i := 8) (N := some 277) (v := ?_) (a' := ?_) bb33_ rfl rfl (any_of HT_.out (by kernel_rfl)) (fun _ _ _ h => h) (Or.inl ⟨by rfl, ?_⟩) ?_ ?_
   rotate_left; · intro w'; go_simp; with_reducible rfl
   rotate_left; · simp only [Act.put, e1, e2, e3, i64_w, i32_w]; rfl
   refine pure_ (i := 10) (N := some 279) (v := ?_) (a' := ?_) bb32_ rfl rfl (any_of HT_.out (by kernel_rfl)) (fun _ _ _ h => h) (Or.inl ⟨by rfl, ?_⟩) ?_ ?_
   rotate_left; · intro w'; go_simp; with_reducible rfl
   rotate_left; · simp only [Act.put, e1, e2, e3, i64_w, i32_w]; rfl
   refine take_ (i := 3) (N := some 272) (v := ?_) (a' := ?_) bb31_ rfl rfl (take_ofW HT_.out HW_.out (by kernel_rfl)) (fun _ _ _ h => h) (Or.inl ⟨by rfl, ?_⟩) hHeld ?_ ?_
   rotate_left; · rintro w' ⟨s0, s1, s2, s3, s4, s5⟩; go_simp; with_reducible rfl
   rotate_left; · simp only [Act.put, e1, e2, e3, i64_w, i32_w]; rfl
   refine take_ (i := 5) (N := some 274) (v := ?_) (a' := ?_) bb30_ rfl rfl (take_ofW HT_.out HW_.out (by kernel_rfl)) (fun _ _ _ h => h) (Or.inl ⟨by rfl, ?_⟩) hHeld ?_ ?_
   rotate_left; · rintro w' ⟨s0, s1, s2, s3, s4, s5⟩; go_simp; with_reducible rfl
   rotate_left; · simp only [Act.put, e1, e2, e3, i64_w, i32_w]; rfl
   refine pure_ (i := 7) (N := some 276) (v := ?_) (a' := ?_) bb29_ rfl rfl (any_of HT_.out (by kernel_rfl)) (fun _ _ _ h => h) (Or.inl ⟨by rfl, ?_⟩) ?_ ?_
   rotate_left; · intro w'; go_simp; with_reducible rfl
   rotate_left; · simp only [Act.put, e1, e2, e3, i64_w, i32_w]; rfl
   refine take_ (i := 9) (N := some 278) (v := ?_) (a' := ?_) bb28_ rfl rfl (take_ofW HT_.out HW_.out (by kernel_rfl)) (fun _ _ _ h => h) (Or.inl ⟨by rfl, ?_⟩) hHeld ?_ ?_
   rotate_left; · rintro w' ⟨s0, s1, s2, s3, s4, s5⟩; go_simp; with_reducible rfl
   rotate_left; · simp only [Act.put, e1, e2, e3, i64_w, i32_w]; rfl
   refine pure_ (i := 11) (N := some 280) (v := ?_) (a' := ?_) bb27_ rfl rfl (any_of HT_.out (by kernel_rfl)) (fun _ _ _ h => h) (Or.inl ⟨by rfl, ?_⟩) ?_ ?_
   rotate_left; · intro w'; go_simp; with_reducible rfl
   rotate_left; · simp only [Act.put, e1, e2, e3, i64_w, i32_w]; rfl
   refine take_ (i := 12) (N := some 281) (v := ?_) (a' := ?_) bb26_ rfl rfl (take_ofW HT_.out HW_.out (by kernel_rfl)) (fun _ _ _ h => h) (Or.inl ⟨by rfl, ?_⟩) hHeld ?_ ?_
   rotate_left; · rintro w' ⟨s0, s1, s2, s3, s4, s5⟩; go_simp; with_reducible rfl
   rotate_left; · simp only [Act.put, e1, e2, e3, i64_w, i32_w]; rfl
   refine pure_ (i := 13) (N := some 282) (v := ?_) (a' := ?_) bb25_ rfl rfl (any_of HT_.out (by kernel_rfl)) (fun _ _ _ h => h) (Or.inl ⟨by rfl, ?_⟩) ?_ ?_
   rotate_left; · intro w'; go_simp; with_reducible rfl
   rotate_left; · simp only [Act.put, e1, e2, e3, i64_w, i32_w]; rfl
   refine last_ (i := 14) (N := none) bb23_ rfl rfl (one_of HT_.out (by kernel_rfl)) (by decide) (fun K hK => ?_)
   refine skip_ (w1 := ?_) (by rfl) rfl ?_ ?_
   rotate_left
   ·go_simp
    rfl
   refine hK.out _ _ ?_
   clear hK K
   refine done_ (done_of HT_.out (by kernel_rfl)) ?_
   try go_wp2
   go_roundg k5
   case measure => have := HK1.out; have := HJ22.out; have := HJ33.out; have := HJ129.out; have := HK5.out; omega
   case rel => exact ⟨(wrap64 (x20_5 + 1)), (x4z_5), (y671), (u4z), (.slice (some ⟨go241, 0, none⟩) x6z_5.length co241), aa_6, H', ⟨by have := HK1.out; have := HJ22.out; have := HJ33.out; have := HJ129.out; have := HK5.out; omega⟩, ⟨by (with_reducible repeat (first | apply Kd.R_alloc | apply Kd.R_drewN | apply Kd.R_drew)); exact Kd.R_mono (Kd.R_far (p := ⟨go241, ((ji238) : Int).toNat, none⟩) (Kd.R_mono HO_4z.out (fun k_ hk => (⟨hk, fun e_ => hk (by rw [e_]; rfl)⟩ : _ ∧ k_ ≠ go241))) (fun _ hk => hk.2) (.int .u8 (rd ((rd_T48 l0_3 x6_1).f5) x20_5))) (fun _ hk => hk.1)⟩, ⟨by (with_reducible repeat (first | apply Kd.R_alloc | apply Kd.R_drewN | apply Kd.R_drew)); exact HQ247.out⟩, ⟨by (with_reducible repeat (first | refine blk_drewN ?_ _ | refine blk_drew ?_ | refine blk_alloc ?_ _)); refine blk_far ?_ (by have h_ := Kd.R_ne HO_6z.out BK469.out (by decide); intro e_; exact h_ (by rw [e_]; rfl)) _; (with_reducible repeat (first | refine blk_drewN ?_ _ | refine blk_drew ?_ | refine blk_alloc ?_ _)); exact BK469.out⟩, ⟨by (with_reducible repeat (first | refine blk_drewN ?_ _ | refine blk_drew ?_ | refine blk_alloc ?_ _)); refine blk_far ?_ (by have h_ := Kd.R_ne HO_6z.out BK606.out (by decide); intro e_; exact h_ (by rw [e_]; rfl)) _; (with_reducible repeat (first | refine blk_drewN ?_ _ | refine blk_drew ?_ | refine blk_alloc ?_ _)); exact BK606.out⟩, ⟨by repeat (first | (with_reducible first | exact HI476.out | apply IsS61.alloc | apply IsS61.drewN | apply IsS61.drew | apply IsS61.set_0 | apply IsS61.set_1 | refine IsS61.far ?_ HN476_go241.out _ | refine IsS61.far ?_ NB476_469.out _ | refine IsS61.far ?_ NB476_606.out _) | exact HI476.out)⟩, ⟨by repeat (first | (with_reducible first | exact HI485.out | apply IsS54.alloc | apply IsS54.drewN | apply IsS54.drew | apply IsS54.set_0 | apply IsS54.set_1 | refine IsS54.far ?_ HN485_go241.out _ | refine IsS54.far ?_ NB485_469.out _ | refine IsS54.far ?_ NB485_606.out _) | exact HI485.out)⟩, ⟨by repeat (first | (with_reducible first | exact HB.out | apply below_alloc | apply pw_below_drewN | apply below_drew1 | refine below_set ?_ GB241.out | refine below_set ?_ (IsS61.ge HI476.out) | refine below_set ?_ (IsS54.ge HI485.out) | refine below_set ?_ GE469.out | refine below_set ?_ GE606.out) | exact HB.out)⟩⟩
  case rest =>
  as_aux_lemma =>
  clear HC229
  try clear c156
  try clear c156b0
  try clear c156b1
  try clear c227b0
  try clear c227b1
  try clear hcz233_0
  try clear hcz233_1
  try clear hcz233_2
  try clear hcz233_3
  try clear hcz233_4
  try clear hcz233_5
  obtain ⟨kq, x19_228, x4z_228, x6z_228, u4z, u6z, rfl, HA, HJ228, HO_4z, HO_6z, BK469, BK606, HI476, HI485, HB⟩ := hcut
  cases kq with
  | zero => exact absurd HA.out (by simp [j7])
  | succ kj228 =>
  have H := HA.out
  clear HA
  simp only [j7] at H
  replace H := bm_ H
  obtain ⟨t672, A2520, H⟩ := H
  replace H : ((mem_Memory_Write.f x4z_228 x5z_1 ((rd_T48 l0_3 x6_1).f1) t672).bind fun bt675 => ((gangwaylaw0_Bytes.f kj228 t672).bind fun _ => ((gangwaylaw9_num.f bt675.1).bind fun t680 => (if t680 = x19_228 then (j9 kj228 x6_1 a0_0 a0_1 a0_2 l0_3 bt675.2.1 bt675.2.2 x6z_228 t669) else (none))))) = some r := H
  have A252 := am_ A2520
  clear A2520
  replace H := bm_ H
  obtain ⟨⟨t675, t676, t679⟩, A2530, H⟩ := H
  replace H : ((gangwaylaw0_Bytes.f kj228 t672).bind fun _ => ((gangwaylaw9_num.f t675).bind fun t680 => (if t680 = x19_228 then (j9 kj228 x6_1 a0_0 a0_1 a0_2 l0_3 t676 t679 x6z_228 t669) else (none)))) = some r := H
  have A253 := am_ A2530
  clear A2530
  replace H := bm_ H
  obtain ⟨_, A2540, H⟩ := H
  replace H : ((gangwaylaw9_num.f t675).bind fun t680 => (if t680 = x19_228 then (j9 kj228 x6_1 a0_0 a0_1 a0_2 l0_3 t676 t679 x6z_228 t669) else (none))) = some r := H
  have A254 := am_ A2540
  clear A2540
  replace H := bm_ H
  obtain ⟨t680, A2550, H⟩ := H
  replace H : (if t680 = x19_228 then (j9 kj228 x6_1 a0_0 a0_1 a0_2 l0_3 t676 t679 x6z_228 t669) else (none)) = some r := H
  have A255 := am_ A2550
  clear A2550
  by_cases c256 : t680 = x19_228
  rotate_left
  ·rw [if_neg c256] at H
   exact absurd H (by simp)
  rw [if_pos c256] at H
  have c256b0 : (t680 == x19_228) = true := beq_iff_eq.mpr c256
  have c256b1 : (t680 != x19_228) = false := bne_eq_false_iff_eq.mpr c256
  clear c256
  have H' := am_ H
  clear H
  have hnb257 := NB606_469.out
  have hnc257 := NB469_606.out
  have hnb258 := NB606_476.out
  have hnc258 := NB476_606.out
  have hnb259 := NB606_485.out
  have hnc259 := NB485_606.out
  have hcz260_0 : wc.cell? ⟨gb606, 0, none⟩ = some (.int .i64 ((rd_T48 l0_3 x6_1).f0)) := bc BK606 0
  have hcz260_1 : wc.cell? ⟨gb606, 1, none⟩ = some (.int .i64 ((rd_T48 l0_3 x6_1).f1)) := bc BK606 1
  have hcz260_2 : wc.cell? ⟨gb606, 2, none⟩ = some (.int .i64 ((rd_T48 l0_3 x6_1).f2)) := bc BK606 2
  have hcz260_3 : wc.cell? ⟨gb606, 3, none⟩ = some (.int .i64 ((rd_T48 l0_3 x6_1).f3)) := bc BK606 3
  have hcz260_4 : wc.cell? ⟨gb606, 4, none⟩ = some (.int .u64 ((rd_T48 l0_3 x6_1).f4)) := bc BK606 4
  have hcz260_5 : wc.cell? ⟨gb606, 5, none⟩ = some (.slice A605_5 ((rd_T48 l0_3 x6_1).f5).length c605_5) := bc BK606 5
  go_wp2_with (first | ((with_reducible refine gate_callee (f := 24) rfl ?_); refine goesL_ (some 285) rfl rfl Try.func24 (by kernel_rfl) rfl #[.slice A605_5 ((rd_T48 l0_3 x6_1).f5).length c605_5] rfl aa_0 ?_; (with_reducible refine (gangwayref0_CopyBytes.calls kj228 _ _ ((rd_T48 l0_3 x6_1).f5) t672 _ ?side1 ?side2 A252.out).mono ?_); (case side1 => repeat (first | exact (Kd.C_below HR605_5.out HB.out) | (with_reducible refine Kd.C_alloc ?_ _) | (with_reducible refine Kd.C_drewN ?_ _) | (with_reducible refine Kd.C_drew ?_))); (case side2 => exact HC605_5.out); rintro e w261 ⟨v673, rfl, ho0, hb⟩; refine ⟨_, rfl, ?_⟩; have n0_ := am_ (Kd.R_elder' aa_9 (Kd.R_base ho0) hb); have n1_ := am_ (Kd.R_elder' aa_7 (Kd.R_base ho0) hb); have n2_ := am_ (Kd.R_lower (Kd.R_new' (Kd.R_new' ho0 (Kd.R_lt aa_9)) (Kd.R_lt aa_7)) (below_size (by repeat (first | (with_reducible first | exact HB.out | apply below_alloc | apply pw_below_drewN | apply below_drew1 | refine below_set ?_ (IsS61.ge HI476.out) | refine below_set ?_ (IsS54.ge HI485.out) | refine below_set ?_ GE469.out | refine below_set ?_ GE606.out) | exact HB.out)))); have n3_ := am_ (bbelow BK469 aa_1 hb); have n4_ := am_ (bbelow BK606 aa_5 hb); have n5_ := am_ (IsS61.below aa_2 hb); have n6_ := am_ (IsS54.below aa_4 hb); have n7_ := am_ (below_step (by repeat (first | (with_reducible first | exact HB.out | apply below_alloc | apply pw_below_drewN | apply below_drew1 | refine below_set ?_ (IsS61.ge HI476.out) | refine below_set ?_ (IsS54.ge HI485.out) | refine below_set ?_ GE469.out | refine below_set ?_ GE606.out) | exact HB.out)) hb); clear HO_4z; clear HO_6z; clear BK469; clear BK606; clear HI476; clear HI485; clear HB; have HO_4z := n0_; have HO_6z := n1_; have HO674 := n2_; have BK469 := n3_; have BK606 := n4_; have HI476 := n5_; have HI485 := n6_; have HB := n7_; clear n0_ n1_ n2_ n3_ n4_ n5_ n6_ n7_; (try clear hb); (try clear hb2); (try clear hk); (try clear hi); (try clear ho0); have hcz262_0 : w261.cell? ⟨gb606, 0, none⟩ = some (.int .i64 ((rd_T48 l0_3 x6_1).f0)) := (bc BK606 0); have hcz262_1 : w261.cell? ⟨gb606, 1, none⟩ = some (.int .i64 ((rd_T48 l0_3 x6_1).f1)) := (bc BK606 1); have hcz262_2 : w261.cell? ⟨gb606, 2, none⟩ = some (.int .i64 ((rd_T48 l0_3 x6_1).f2)) := (bc BK606 2); have hcz262_3 : w261.cell? ⟨gb606, 3, none⟩ = some (.int .i64 ((rd_T48 l0_3 x6_1).f3)) := (bc BK606 3); have hcz262_4 : w261.cell? ⟨gb606, 4, none⟩ = some (.int .u64 ((rd_T48 l0_3 x6_1).f4)) := (bc BK606 4); have hcz262_5 : w261.cell? ⟨gb606, 5, none⟩ = some (.slice A605_5 ((rd_T48 l0_3 x6_1).f5).length c605_5) := (bc BK606 5); obtain ⟨Ao263, co263, eo263⟩ := Kd.R_slice HO674.out; subst eo263) | ((with_reducible refine gate_callee (f := 15) rfl ?_); refine goesL_ (some 290) rfl rfl Try.func15 (by kernel_rfl) rfl #[.pointer (some ⟨g476, 0, none⟩), .int .i64 ((rd_T48 l0_3 x6_1).f1), .slice Ao263 t672.length co263] rfl aa_0 ?_; (with_reducible refine (mem_Memory_Write.calls g476 (fun k_ => some k_ = (u4z : Value).ownBlock) u4z x4z_228 x5z_1 ((rd_T48 l0_3 x6_1).f1) _ _ t672 t675 t676 t679 w _ ?side1 ?side2 ?side3 ?side4 ?side5 A253.out).mono ?_); (case side1 => exact aa_2); (case side2 => exact aa_17); (case side3 => exact Kd.R_tight rfl HO_4z.out); (case side4 => exact Kd.C_kept_own ((IsS61.apart HI476.out HO674.out (by decide))) (fun k_ hk_ hs_ => Or.elim hs_ (fun hs_ => (hk_.1.1.2) hs_) (fun e_ => (hk_.2) e_))); (case side5 => exact (Kd.R_reads' HO674.out).2.1); rintro e w264 ⟨v677, rfl, ho0, hi, hb, hkp⟩; refine ⟨_, rfl, ?_⟩; have n0_ := am_ (Kd.R_mono (ok' := fun k_ => some k_ ≠ (.slice Ao263 t672.length co263 : Value).ownBlock ∧ some k_ ≠ (v677 : Value).ownBlock) (Kd.R_keptB ((IsS61.apart HI476.out HO_6z.out (by decide))) hkp (fun k_ hk_ hs_ => Or.elim hs_ (fun hs_ => (hk_.1.1) hs_) (fun e_ => (hk_.2) e_))) (fun k_ hk_ => ⟨hk_.1.1.2, fun e_ => Or.elim (ho0.1 k_ e_.symm) (fun hs_ => hk_.2.1 (.inl hs_)) (fun hn_ => Nat.not_le.2 hk_.2.2 hn_)⟩)); have n1_ := am_ (bkept BK469 aa_1 hkp (fun hs_ => Or.elim hs_ (fun hs_ => (fun e_ => (Kd.R_ne HO_4z.out BK469.out (by decide)) e_) hs_) (fun e_ => NB469_476.out e_))); have n2_ := am_ (bkept BK606 aa_5 hkp (fun hs_ => Or.elim hs_ (fun hs_ => (fun e_ => (Kd.R_ne HO_4z.out BK606.out (by decide)) e_) hs_) (fun e_ => NB606_476.out e_))); have n3_ := am_ (hi); have n4_ := am_ (IsS54.kept aa_4 hkp (fun hs_ => Or.elim hs_ (fun hs_ => (fun e_ => (IsS54.own_ne HI485.out HO_4z.out (by decide)) e_) hs_) (fun e_ => NB485_476.out e_))); have n5_ := am_ (Kd.R_mono (ok' := fun k_ => some k_ ≠ (u6z : Value).ownBlock ∧ some k_ ≠ (v677 : Value).ownBlock) (Kd.R_keptB ((IsS61.apart HI476.out HO674.out (by decide))) hkp (fun k_ hk_ hs_ => Or.elim hs_ (fun hs_ => (hk_.1.1.2) hs_) (fun e_ => (hk_.2) e_))) (fun k_ hk_ => ⟨hk_.1.1.2, fun e_ => Or.elim (ho0.1 k_ e_.symm) (fun hs_ => hk_.2.1 (.inl hs_)) (fun hn_ => Nat.not_le.2 hk_.2.2 hn_)⟩)); have n6_ := am_ (Kd.R_mono (ok' := fun k_ => some k_ ≠ (u6z : Value).ownBlock ∧ some k_ ≠ (.slice Ao263 t672.length co263 : Value).ownBlock) ho0 (fun k_ hk_ => ⟨Or.elim hk_ (fun hs_ => fun e_ => ((((IsS61.apart HI476.out HO_6z.out (by decide))).1 k_ e_.symm).1.1) hs_) (fun hn_ => (Kd.fresh' (Kd.R_lt aa_7) k_ hn_)), Or.elim hk_ (fun hs_ => fun e_ => ((((IsS61.apart HI476.out HO674.out (by decide))).1 k_ e_.symm).1.1.2) hs_) (fun hn_ => (Kd.fresh' (Kd.R_lt (by (with_reducible repeat (first | apply Kd.R_alloc | apply Kd.R_drewN | apply Kd.R_drew)); exact HO674.out)) k_ hn_))⟩)); have n7_ := am_ (hb); clear HO_6z; clear BK469; clear BK606; clear HI476; clear HI485; clear HO674; clear HB; clear HO_4z; have HO_6z := n0_; have BK469 := n1_; have BK606 := n2_; have HI476 := n3_; have HI485 := n4_; have HO674 := n5_; have HO678 := n6_; have HB := n7_; clear n0_ n1_ n2_ n3_ n4_ n5_ n6_ n7_; (try clear hb); (try clear hkp); (try clear ho0)) | ((with_reducible refine gate_callee (f := 23) rfl ?_); refine goesL_ (some 292) rfl rfl Try.func23 (by kernel_rfl) rfl #[.slice Ao263 t672.length co263] rfl aa_0 ?_; (with_reducible refine (gangwaylaw0_Bytes.calls kj228 (fun k_ => some k_ = (.slice Ao263 t672.length co263 : Value).ownBlock) (.slice Ao263 t672.length co263) t672  w _ ?side1 ?side2 A254.out).mono ?_); (case side1 => exact aa_17); (case side2 => exact Kd.R_tight rfl HO674.out); rintro e w265 ⟨rfl, hb, hkp⟩; refine ⟨_, rfl, ?_⟩; have n0_ := am_ (Kd.R_mono (ok' := fun k_ => some k_ ≠ (v677 : Value).ownBlock) (Kd.R_keptB (HO_6z.out) hkp (fun k_ hk_ hs_ => (hk_.1) hs_)) (fun k_ hk_ => hk_.1.2)); have n1_ := am_ (bkept BK469 aa_1 hkp (fun hs_ => (fun e_ => (Kd.R_ne HO674.out BK469.out (by decide)) e_) hs_)); have n2_ := am_ (bkept BK606 aa_5 hkp (fun hs_ => (fun e_ => (Kd.R_ne HO674.out BK606.out (by decide)) e_) hs_)); have n3_ := am_ (IsS61.kept aa_2 hkp (fun hs_ => (fun e_ => (IsS61.own_ne HI476.out HO674.out (by decide)) e_) hs_)); have n4_ := am_ (IsS54.kept aa_4 hkp (fun hs_ => (fun e_ => (IsS54.own_ne HI485.out HO674.out (by decide)) e_) hs_)); have n5_ := am_ (Kd.R_mono (ok' := fun k_ => some k_ ≠ (u6z : Value).ownBlock) (Kd.R_keptB (HO678.out) hkp (fun k_ hk_ hs_ => (hk_.2) hs_)) (fun k_ hk_ => hk_.1.1)); have n6_ := am_ (hb); clear HO_6z; clear BK469; clear BK606; clear HI476; clear HI485; clear HO678; clear HB; clear HO674; have HO_6z := n0_; have BK469 := n1_; have BK606 := n2_; have HI476 := n3_; have HI485 := n4_; have HO678 := n5_; have HB := n6_; clear n0_ n1_ n2_ n3_ n4_ n5_ n6_; (try clear hb); (try clear hkp)) | ((with_reducible refine gate_callee (f := 8) rfl ?_); refine goesL_ (some 294) rfl rfl Try.func8 (by kernel_rfl) rfl #[.int .i64 t675] rfl aa_0 ?_; (with_reducible refine (gangwaylaw9_num.calls t675 t680 _ A255.out).mono ?_); rintro e w' ⟨rfl, ⟨nd, rfl⟩⟩; refine ⟨_, rfl, ?_⟩))
  go_meet
  case rel => exact ⟨_, (t676), (t679), (x6z_228), (t669), (v677), (u6z), H', ⟨by have := HK1.out; have := HJ22.out; have := HJ33.out; have := HJ129.out; have := HJ228.out; first | omega | exact Nat.le_refl _⟩, ⟨by (with_reducible repeat (first | apply Kd.R_alloc | apply Kd.R_drewN | apply Kd.R_drew)); exact HO678.out⟩, ⟨aa_7⟩, ⟨aa_1⟩, ⟨aa_5⟩, ⟨aa_2⟩, ⟨aa_4⟩, ⟨aa_17⟩⟩
 case rest =>
 as_aux_lemma =>
 clear HC125
 obtain ⟨kq, x4z_124, x5z_124, x6z_124, x7z_124, u4z, u6z, HA, HJ124, HO_4z, HO_6z, BK469, BK606, HI476, HI485, HB⟩ := hcut
 cases kq with
 | zero => exact absurd HA.out (by simp [j9])
 | succ kj124 =>
 have H := HA.out
 clear HA
 simp only [j9] at H
 replace H := bm_ H
 obtain ⟨⟨t702, t703, t706⟩, A2950, H⟩ := H
 replace H : ((gangwayref9_Mem_Size.f x6z_124 x7z_124).bind fun bt707 => (if t702 = bt707.1 then (gangwaylaw9_MemExact.l0 kj124 (wrap64 (x6_1 + 1)) a0_0 a0_1 a0_2 l0_3 t703 t706 bt707.2.1 bt707.2.2) else (none))) = some r := H
 have A295 := am_ A2950
 clear A2950
 replace H := bm_ H
 obtain ⟨⟨t707, t708, t711⟩, A2960, H⟩ := H
 replace H : (if t702 = t707 then (gangwaylaw9_MemExact.l0 kj124 (wrap64 (x6_1 + 1)) a0_0 a0_1 a0_2 l0_3 t703 t706 t708 t711) else (none)) = some r := H
 have A296 := am_ A2960
 clear A2960
 by_cases c297 : t702 = t707
 rotate_left
 ·rw [if_neg c297] at H
  exact absurd H (by simp)
 rw [if_pos c297] at H
 have c297b0 : (t702 == t707) = true := beq_iff_eq.mpr c297
 have c297b1 : (t702 != t707) = false := bne_eq_false_iff_eq.mpr c297
 clear c297
 have H' := am_ H
 clear H
 go_wp2_with (first | ((with_reducible refine gate_callee (f := 9) rfl ?_); refine goesL_ (some 309) rfl rfl Try.func9 (by kernel_rfl) rfl #[.pointer (some ⟨g476, 0, none⟩)] rfl aa_0 ?_; (with_reducible refine (mem_Memory_Size.calls g476 (fun k_ => some k_ = (u4z : Value).ownBlock) u4z x4z_124 x5z_124 t702 t703 t706 w _ ?side1 ?side2 ?side3 A295.out).mono ?_); (case side1 => exact aa_2); (case side2 => exact aa_17); (case side3 => exact Kd.R_tight rfl HO_4z.out); rintro e w298 ⟨v704, rfl, ho0, hi, hb, hkp⟩; refine ⟨_, rfl, ?_⟩; have n0_ := am_ (Kd.R_mono (ok' := fun k_ => some k_ ≠ (v704 : Value).ownBlock) (Kd.R_keptB ((IsS61.apart HI476.out HO_6z.out (by decide))) hkp (fun k_ hk_ hs_ => Or.elim hs_ (fun hs_ => (hk_.1) hs_) (fun e_ => (hk_.2) e_))) (fun k_ hk_ => fun e_ => Or.elim (ho0.1 k_ e_.symm) (fun hs_ => hk_.2.1 (.inl hs_)) (fun hn_ => Nat.not_le.2 hk_.2.2 hn_))); have n1_ := am_ (bkept BK469 aa_1 hkp (fun hs_ => Or.elim hs_ (fun hs_ => (fun e_ => (Kd.R_ne HO_4z.out BK469.out (by decide)) e_) hs_) (fun e_ => NB469_476.out e_))); have n2_ := am_ (bkept BK606 aa_5 hkp (fun hs_ => Or.elim hs_ (fun hs_ => (fun e_ => (Kd.R_ne HO_4z.out BK606.out (by decide)) e_) hs_) (fun e_ => NB606_476.out e_))); have n3_ := am_ (hi); have n4_ := am_ (IsS54.kept aa_4 hkp (fun hs_ => Or.elim hs_ (fun hs_ => (fun e_ => (IsS54.own_ne HI485.out HO_4z.out (by decide)) e_) hs_) (fun e_ => NB485_476.out e_))); have n5_ := am_ (Kd.R_mono (ok' := fun k_ => some k_ ≠ (u6z : Value).ownBlock) ho0 (fun k_ hk_ => Or.elim hk_ (fun hs_ => fun e_ => ((((IsS61.apart HI476.out HO_6z.out (by decide))).1 k_ e_.symm).1) hs_) (fun hn_ => (Kd.fresh' (Kd.R_lt aa_7) k_ hn_)))); have n6_ := am_ (hb); clear HO_6z; clear BK469; clear BK606; clear HI476; clear HI485; clear HB; clear HO_4z; have HO_6z := n0_; have BK469 := n1_; have BK606 := n2_; have HI476 := n3_; have HI485 := n4_; have HO705 := n5_; have HB := n6_; clear n0_ n1_ n2_ n3_ n4_ n5_ n6_; (try clear hb); (try clear hkp); (try clear ho0)) | ((with_reducible refine gate_callee (f := 27) rfl ?_); refine goesL_ (some 311) rfl rfl Try.func27 (by kernel_rfl) rfl #[.pointer (some ⟨g485, 0, none⟩)] rfl aa_0 ?_; (with_reducible refine (gangwayref9_Mem_Size.calls g485 (fun k_ => some k_ = (u6z : Value).ownBlock) u6z x6z_124 x7z_124 t707 t708 t711 w _ ?side1 ?side2 ?side3 A296.out).mono ?_); (case side1 => exact aa_4); (case side2 => exact aa_17); (case side3 => exact Kd.R_tight rfl HO_6z.out); rintro e w299 ⟨v709, rfl, ho0, hi, hb, hkp⟩; refine ⟨_, rfl, ?_⟩; have n0_ := am_ (bkept BK469 aa_1 hkp (fun hs_ => Or.elim hs_ (fun hs_ => (fun e_ => (Kd.R_ne HO_6z.out BK469.out (by decide)) e_) hs_) (fun e_ => NB469_485.out e_))); have n1_ := am_ (bkept BK606 aa_5 hkp (fun hs_ => Or.elim hs_ (fun hs_ => (fun e_ => (Kd.R_ne HO_6z.out BK606.out (by decide)) e_) hs_) (fun e_ => NB606_485.out e_))); have n2_ := am_ (IsS61.kept aa_2 hkp (fun hs_ => Or.elim hs_ (fun hs_ => (fun e_ => (IsS61.own_ne HI476.out HO_6z.out (by decide)) e_) hs_) (fun e_ => NB476_485.out e_))); have n3_ := am_ (hi); have n4_ := am_ (Kd.R_mono (ok' := fun k_ => some k_ ≠ (v709 : Value).ownBlock) (Kd.R_keptB ((IsS54.apart HI485.out HO705.out (by decide))) hkp (fun k_ hk_ hs_ => Or.elim hs_ (fun hs_ => (hk_.1) hs_) (fun e_ => (hk_.2) e_))) (fun k_ hk_ => fun e_ => Or.elim (ho0.1 k_ e_.symm) (fun hs_ => hk_.2.1 (.inl hs_)) (fun hn_ => Nat.not_le.2 hk_.2.2 hn_))); have n5_ := am_ (Kd.R_mono (ok' := fun k_ => some k_ ≠ (v704 : Value).ownBlock) ho0 (fun k_ hk_ => Or.elim hk_ (fun hs_ => fun e_ => ((((IsS54.apart HI485.out HO705.out (by decide))).1 k_ e_.symm).1) hs_) (fun hn_ => (Kd.fresh' (Kd.R_lt (by (with_reducible repeat (first | apply Kd.R_alloc | apply Kd.R_drewN | apply Kd.R_drew)); exact HO705.out)) k_ hn_)))); have n6_ := am_ (hb); clear BK469; clear BK606; clear HI476; clear HI485; clear HO705; clear HB; clear HO_6z; have BK469 := n0_; have BK606 := n1_; have HI476 := n2_; have HI485 := n3_; have HO705 := n4_; have HO710 := n5_; have HB := n6_; clear n0_ n1_ n2_ n3_ n4_ n5_ n6_; (try clear hb); (try clear hkp); (try clear ho0)))
 go_roundg kj124
 case measure => have := HK1.out; have := HJ22.out; have := HJ33.out; have := HJ124.out; omega
 case rel => exact ⟨(wrap64 (x6_1 + 1)), (t703), (t706), (t708), (t711), (v704), (v709), aa_6, H', ⟨by have := HK1.out; have := HJ22.out; have := HJ33.out; have := HJ124.out; omega⟩, ⟨by (with_reducible repeat (first | apply Kd.R_alloc | apply Kd.R_drewN | apply Kd.R_drew)); exact HO705.out⟩, ⟨by (with_reducible repeat (first | apply Kd.R_alloc | apply Kd.R_drewN | apply Kd.R_drew)); exact HO710.out⟩, ⟨aa_1⟩, ⟨aa_2⟩, ⟨aa_4⟩, ⟨aa_17⟩⟩
/-- THE ONE PURE STATEMENT of gangwaylaw9_MemExact: yours. -/
def gangwaylaw9_MemExact.Pure : Prop := ∀ (x0 : S26), okT26 x0 → ∃ k, gangwaylaw9_MemExact.f k x0.f0.f0 x0.f0.f1 x0.f1 x0.f2 = some true
theorem gangwaylaw9_MemExact.walk (P : gangwaylaw9_MemExact.Pure) (w : World) (x0 : S26) (A0_3 : Option Addr) (c0_3 : Nat) (hr0_3 : Kd.C k48 w A0_3 x0.f2.length x0.f2) (hc0_3 : x0.f2.length ≤ c0_3) (hok0 : okT26 x0) :
  Calls Try.prog 5 #[.agg #[.int .i64 x0.f0.f0, .int .i64 x0.f0.f1, .int .i64 x0.f1, .slice A0_3 x0.f2.length c0_3]] w fun e w' => e = .returned (.bool true) ∧ Below w.heap.size w w' := by
 obtain ⟨k, h⟩ := P x0 hok0
 refine (gangwaylaw9_MemExact.calls k x0.f0.f0 x0.f0.f1 x0.f1 _ _ x0.f2 true w hr0_3 hc0_3 h).mono ?_
 rintro e w' ⟨rfl, hd⟩
 exact ⟨rfl, hd⟩

end Go.Proofs.Ytjmajhalgdeicaa.PAll
