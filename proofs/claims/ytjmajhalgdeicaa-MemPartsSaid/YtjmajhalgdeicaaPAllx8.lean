/- Printed by a copy of the printer that was turned for this claim: functions as plain Lean functions, with proofs that their calls come to these; or words that such proofs use. -/
import Derived.Test.YtjmajhalgdeicaaPAllx0
import Derived.Test.YtjmajhalgdeicaaPAllx1
import Derived.Test.YtjmajhalgdeicaaPAllx2
import Derived.Test.YtjmajhalgdeicaaPAllx4
import Derived.Test.YtjmajhalgdeicaaPAllx5
namespace Go.Proofs.Ytjmajhalgdeicaa.PAll
open Go.RowKit Go.Proofs.YtjmajhalgdeicaaW.PrintWords Go.Proofs.YtjmajhalgdeicaaW.PrintLast Go.Proofs.YtjmajhalgdeicaaW.PrintMore
attribute [local go_sem] max2_int min2_int max_two min_two max_three min_three max_four min_four   -- for this text's walks alone
set_option linter.unusedVariables false
set_option linter.unusedSimpArgs false

/-! ### gangwaylaw9_MemParts: function 6 -/
abbrev gangwaylaw9_MemParts.t : Bool := true
abbrev gangwaylaw9_MemParts.f_ : Bool := false
def gangwaylaw9_MemParts.bb0_ : Array Bool := #[t, t, t, t, t, t, t, t, t, t, t, t, t, t, t, t, t, t, t, t, t, t, t, t, t, t, t, t, t, t, t, t, t, t, t, t, t, t, t, t, t, t, t, t, t, t, t, t, t, t, t, t, t]
def gangwaylaw9_MemParts.bb1_ : Array Bool := #[t, t, t, t, t, t, t, t, t, t, t, t, t, t, t, t, t, t, t, t, t, t, t, t, t, t, t, t, t, t, t, t, t, t, t, t, t, t, t, t, t, t, t, t, t, t, t, t, t, t, t, t, f_]
def gangwaylaw9_MemParts.bb2_ : Array Bool := #[t, t, t, t, t, t, t, t, t, t, t, t, t, t, t, t, t, t, t, t, t, t, t, t, t, t, t, t, t, t, t, t, t, t, t, t, t, t, t, t, t, t, t, t, t, t, t, t, t, t, t, f_, f_]
def gangwaylaw9_MemParts.bb3_ : Array Bool := #[t, t, t, t, t, t, t, t, t, t, t, t, t, t, t, t, t, t, t, t, t, t, t, t, t, t, t, t, t, t, t, t, t, t, t, t, t, t, t, t, t, t, t, t, t, t, t, t, t, t, f_, f_, f_]
def gangwaylaw9_MemParts.bb4_ : Array Bool := #[t, t, t, t, t, t, t, t, t, t, t, t, t, t, t, t, t, t, t, t, t, t, t, t, t, t, t, t, t, t, t, t, t, t, t, t, t, t, t, t, t, t, t, t, t, t, t, t, t, f_, f_, f_, f_]
def gangwaylaw9_MemParts.bb5_ : Array Bool := #[t, t, t, t, t, t, t, t, t, t, t, t, t, t, t, t, t, t, t, t, t, t, t, t, t, t, t, t, t, t, t, t, t, t, t, t, t, t, t, t, t, t, t, t, t, t, t, t, f_, f_, f_, f_, f_]
def gangwaylaw9_MemParts.bb6_ : Array Bool := #[t, t, t, t, t, t, t, t, t, t, t, t, t, t, t, t, t, t, t, t, t, t, t, t, t, t, t, t, t, t, t, t, t, t, t, t, t, t, t, t, t, t, t, t, t, t, t, f_, f_, f_, f_, f_, f_]
def gangwaylaw9_MemParts.bb7_ : Array Bool := #[t, t, t, t, t, t, t, t, t, t, t, t, t, t, t, t, t, t, t, t, t, t, t, t, t, t, t, t, t, t, t, t, t, t, t, t, t, t, t, t, t, t, t, t, t, t, f_, f_, f_, f_, f_, f_, f_]
def gangwaylaw9_MemParts.bb8_ : Array Bool := #[t, t, t, t, t, t, t, t, t, t, t, t, t, t, t, t, t, t, t, t, t, t, t, t, t, t, t, t, t, t, t, t, t, t, t, t, t, t, t, t, t, t, t, t, t, f_, f_, f_, f_, f_, f_, f_, f_]
def gangwaylaw9_MemParts.bb9_ : Array Bool := #[t, t, t, t, t, t, t, t, t, t, t, t, t, t, t, t, t, t, t, t, t, t, t, t, t, t, t, t, t, t, t, t, t, t, t, t, t, t, t, t, t, t, t, t, f_, f_, f_, f_, f_, f_, f_, f_, f_]
def gangwaylaw9_MemParts.bb10_ : Array Bool := #[t, t, t, t, t, t, t, t, t, t, t, t, t, t, t, t, t, t, t, t, t, t, t, t, t, t, t, t, t, t, t, t, t, t, t, t, t, t, t, t, t, t, t, f_, f_, f_, f_, f_, f_, f_, f_, f_, f_]
def gangwaylaw9_MemParts.bb11_ : Array Bool := #[t, t, t, t, t, t, t, t, t, t, t, t, t, t, t, t, t, t, t, t, t, t, t, t, t, t, t, t, t, t, t, t, t, t, t, t, t, t, t, t, t, t, f_, f_, f_, f_, f_, f_, f_, f_, f_, f_, f_]
def gangwaylaw9_MemParts.bb12_ : Array Bool := #[t, t, t, t, t, t, t, t, t, t, t, t, t, t, t, t, t, t, t, t, t, t, t, t, t, t, t, t, t, t, t, t, t, t, t, t, t, t, t, t, t, f_, f_, f_, f_, f_, f_, f_, f_, f_, f_, f_, f_]
def gangwaylaw9_MemParts.bb13_ : Array Bool := #[t, t, t, t, t, t, t, t, t, t, t, t, t, t, t, t, t, t, t, t, t, t, t, t, t, t, t, t, t, t, t, t, t, t, t, t, t, t, t, t, f_, f_, f_, f_, f_, f_, f_, f_, f_, f_, f_, f_, f_]
def gangwaylaw9_MemParts.bb14_ : Array Bool := #[t, t, t, t, t, t, t, t, t, t, t, t, t, t, t, t, t, t, t, t, t, t, t, t, t, t, t, t, t, t, t, t, t, t, t, t, t, t, t, f_, f_, f_, f_, f_, f_, f_, f_, f_, f_, f_, f_, f_, f_]
def gangwaylaw9_MemParts.bb15_ : Array Bool := #[t, t, t, t, t, t, t, t, t, t, t, t, t, t, t, t, t, t, t, t, t, t, t, t, t, t, t, t, t, t, t, t, t, t, f_, t, t, t, t, f_, f_, f_, f_, f_, f_, f_, f_, f_, f_, f_, f_, f_, f_]
def gangwaylaw9_MemParts.bb16_ : Array Bool := #[t, t, t, t, t, t, t, t, t, t, t, t, t, t, t, t, t, t, t, t, t, t, t, t, t, t, t, t, t, t, t, t, t, t, t, t, t, t, f_, f_, f_, f_, f_, f_, f_, f_, f_, f_, f_, f_, f_, f_, f_]
def gangwaylaw9_MemParts.bb17_ : Array Bool := #[t, t, t, t, t, t, t, t, t, t, t, t, t, t, t, t, t, t, t, t, t, t, t, t, t, t, t, t, t, t, t, t, t, t, f_, t, t, t, f_, f_, f_, f_, f_, f_, f_, f_, f_, f_, f_, f_, f_, f_, f_]
def gangwaylaw9_MemParts.bb18_ : Array Bool := #[t, t, t, t, t, t, t, t, t, t, t, t, t, t, t, t, t, t, t, t, t, t, t, t, t, t, t, t, t, t, t, t, t, t, t, t, t, f_, f_, f_, f_, f_, f_, f_, f_, f_, f_, f_, f_, f_, f_, f_, f_]
def gangwaylaw9_MemParts.bb19_ : Array Bool := #[t, t, t, t, t, t, t, t, t, t, t, t, t, t, t, t, t, t, t, t, t, t, t, t, t, t, t, t, t, t, t, t, t, t, f_, t, t, f_, f_, f_, f_, f_, f_, f_, f_, f_, f_, f_, f_, f_, f_, f_, f_]
def gangwaylaw9_MemParts.bb20_ : Array Bool := #[t, t, t, t, t, t, t, t, t, t, t, t, t, t, t, t, t, t, t, t, t, t, t, t, t, t, t, t, t, t, t, t, t, t, t, t, f_, f_, f_, f_, f_, f_, f_, f_, f_, f_, f_, f_, f_, f_, f_, f_, f_]
def gangwaylaw9_MemParts.bb21_ : Array Bool := #[t, t, t, t, t, t, t, t, t, t, t, t, t, t, t, t, t, t, t, t, t, t, t, t, t, t, t, t, t, t, t, t, t, t, f_, t, f_, f_, f_, f_, f_, f_, f_, f_, f_, f_, f_, f_, f_, f_, f_, f_, f_]
def gangwaylaw9_MemParts.bb22_ : Array Bool := #[t, t, t, t, t, t, t, t, t, t, t, t, t, t, t, t, t, t, t, t, t, t, t, t, t, t, t, t, t, t, t, t, t, t, t, f_, f_, f_, f_, f_, f_, f_, f_, f_, f_, f_, f_, f_, f_, f_, f_, f_, f_]
def gangwaylaw9_MemParts.bb23_ : Array Bool := #[t, t, t, t, t, t, t, t, t, t, t, t, t, t, t, t, t, t, t, t, t, t, t, t, t, t, t, t, t, t, t, t, t, t, f_, f_, f_, f_, f_, f_, f_, f_, f_, f_, f_, f_, f_, f_, f_, f_, f_, f_, f_]
def gangwaylaw9_MemParts.bb24_ : Array Bool := #[t, t, t, t, t, t, t, t, t, t, t, t, t, t, t, t, t, t, t, t, t, t, t, t, t, t, t, t, t, t, t, t, t, f_, f_, f_, f_, f_, f_, f_, f_, f_, f_, f_, f_, f_, f_, f_, f_, f_, f_, f_, f_]
def gangwaylaw9_MemParts.bb25_ : Array Bool := #[t, t, t, t, t, t, t, t, t, t, t, t, t, t, t, t, t, t, t, t, t, t, t, t, t, t, t, t, t, t, t, t, f_, f_, f_, f_, f_, f_, f_, f_, f_, f_, f_, f_, f_, f_, f_, f_, f_, f_, f_, f_, f_]
def gangwaylaw9_MemParts.bb26_ : Array Bool := #[t, t, t, t, t, t, t, t, t, t, t, t, t, t, t, t, t, t, t, t, t, t, t, t, t, t, t, t, t, t, t, f_, f_, f_, f_, f_, f_, f_, f_, f_, f_, f_, f_, f_, f_, f_, f_, f_, f_, f_, f_, f_, f_]
def gangwaylaw9_MemParts.bb27_ : Array Bool := #[t, t, t, t, t, t, t, t, t, t, t, t, t, t, t, t, t, t, t, t, t, t, t, t, t, t, t, t, t, t, f_, f_, f_, f_, f_, f_, f_, f_, f_, f_, f_, f_, f_, f_, f_, f_, f_, f_, f_, f_, f_, f_, f_]
def gangwaylaw9_MemParts.bb28_ : Array Bool := #[t, t, t, t, t, t, t, t, t, t, t, t, t, t, t, t, t, t, t, t, t, t, t, t, t, t, t, t, t, f_, f_, f_, f_, f_, f_, f_, f_, f_, f_, f_, f_, f_, f_, f_, f_, f_, f_, f_, f_, f_, f_, f_, f_]
def gangwaylaw9_MemParts.bb29_ : Array Bool := #[t, t, t, t, t, t, t, t, t, t, t, t, t, t, t, t, t, t, t, t, t, t, t, t, t, t, t, t, f_, f_, f_, f_, f_, f_, f_, f_, f_, f_, f_, f_, f_, f_, f_, f_, f_, f_, f_, f_, f_, f_, f_, f_, f_]
def gangwaylaw9_MemParts.bb30_ : Array Bool := #[t, t, t, t, t, t, t, t, t, t, t, t, t, t, t, t, t, t, t, t, t, t, t, t, t, t, t, f_, f_, f_, f_, f_, f_, f_, f_, f_, f_, f_, f_, f_, f_, f_, f_, f_, f_, f_, f_, f_, f_, f_, f_, f_, f_]
def gangwaylaw9_MemParts.bb31_ : Array Bool := #[t, t, t, t, t, t, t, t, t, t, t, t, t, t, t, t, t, t, t, t, t, t, t, t, t, t, f_, f_, f_, f_, f_, f_, f_, f_, f_, f_, f_, f_, f_, f_, f_, f_, f_, f_, f_, f_, f_, f_, f_, f_, f_, f_, f_]
def gangwaylaw9_MemParts.bb32_ : Array Bool := #[t, t, t, t, t, t, t, t, t, t, t, t, t, t, t, t, t, t, t, t, t, t, t, t, t, f_, f_, f_, f_, f_, f_, f_, f_, f_, f_, f_, f_, f_, f_, f_, f_, f_, f_, f_, f_, f_, f_, f_, f_, f_, f_, f_, f_]
def gangwaylaw9_MemParts.bb33_ : Array Bool := #[t, t, t, t, t, t, t, t, t, t, t, t, t, t, t, t, t, t, t, t, t, t, t, t, f_, f_, f_, f_, f_, f_, f_, f_, f_, f_, f_, f_, f_, f_, f_, f_, f_, f_, f_, f_, f_, f_, f_, f_, f_, f_, f_, f_, f_]
def gangwaylaw9_MemParts.bb34_ : Array Bool := #[t, t, t, t, t, t, t, t, t, t, t, t, t, t, t, t, t, t, t, t, t, t, t, f_, f_, f_, f_, f_, f_, f_, f_, f_, f_, f_, f_, f_, f_, f_, f_, f_, f_, f_, f_, f_, f_, f_, f_, f_, f_, f_, f_, f_, f_]
def gangwaylaw9_MemParts.bb35_ : Array Bool := #[t, t, t, t, t, t, t, t, t, t, t, t, t, t, t, t, t, t, t, t, t, t, f_, f_, f_, f_, f_, f_, f_, f_, f_, f_, f_, f_, f_, f_, f_, f_, f_, f_, f_, f_, f_, f_, f_, f_, f_, f_, f_, f_, f_, f_, f_]
def gangwaylaw9_MemParts.bb36_ : Array Bool := #[t, t, t, t, t, t, t, t, t, t, t, t, t, t, t, t, t, t, t, t, t, f_, f_, f_, f_, f_, f_, f_, f_, f_, f_, f_, f_, f_, f_, f_, f_, f_, f_, f_, f_, f_, f_, f_, f_, f_, f_, f_, f_, f_, f_, f_, f_]
def gangwaylaw9_MemParts.bb37_ : Array Bool := #[t, t, t, t, t, t, t, t, t, t, t, t, t, t, t, t, t, t, t, t, f_, f_, f_, f_, f_, f_, f_, f_, f_, f_, f_, f_, f_, f_, f_, f_, f_, f_, f_, f_, f_, f_, f_, f_, f_, f_, f_, f_, f_, f_, f_, f_, f_]
def gangwaylaw9_MemParts.bb38_ : Array Bool := #[t, t, t, t, t, t, t, t, t, t, t, t, t, t, t, t, t, t, t, f_, f_, f_, f_, f_, f_, f_, f_, f_, f_, f_, f_, f_, f_, f_, f_, f_, f_, f_, f_, f_, f_, f_, f_, f_, f_, f_, f_, f_, f_, f_, f_, f_, f_]
def gangwaylaw9_MemParts.bb39_ : Array Bool := #[t, t, t, t, t, t, t, t, t, t, t, t, t, t, t, t, t, t, f_, f_, f_, f_, f_, f_, f_, f_, f_, f_, f_, f_, f_, f_, f_, f_, f_, f_, f_, f_, f_, f_, f_, f_, f_, f_, f_, f_, f_, f_, f_, f_, f_, f_, f_]
def gangwaylaw9_MemParts.bb40_ : Array Bool := #[t, t, t, t, t, t, t, t, t, t, t, t, t, t, t, t, t, f_, f_, f_, f_, f_, f_, f_, f_, f_, f_, f_, f_, f_, f_, f_, f_, f_, f_, f_, f_, f_, f_, f_, f_, f_, f_, f_, f_, f_, f_, f_, f_, f_, f_, f_, f_]
def gangwaylaw9_MemParts.bb41_ : Array Bool := #[t, t, t, t, t, t, t, t, t, t, t, t, t, t, t, t, f_, f_, f_, f_, f_, f_, f_, f_, f_, f_, f_, f_, f_, f_, f_, f_, f_, f_, f_, f_, f_, f_, f_, f_, f_, f_, f_, f_, f_, f_, f_, f_, f_, f_, f_, f_, f_]
def gangwaylaw9_MemParts.bb42_ : Array Bool := #[t, t, t, t, t, t, t, t, t, t, t, t, t, t, t, f_, f_, f_, f_, f_, f_, f_, f_, f_, f_, f_, f_, f_, f_, f_, f_, f_, f_, f_, f_, f_, f_, f_, f_, f_, f_, f_, f_, f_, f_, f_, f_, f_, f_, f_, f_, f_, f_]
def gangwaylaw9_MemParts.bb43_ : Array Bool := #[t, t, t, t, t, t, t, t, t, t, t, t, t, t, f_, f_, f_, f_, f_, f_, f_, f_, f_, f_, f_, f_, f_, f_, f_, f_, f_, f_, f_, f_, f_, f_, f_, f_, f_, f_, f_, f_, f_, f_, f_, f_, f_, f_, f_, f_, f_, f_, f_]
def gangwaylaw9_MemParts.bb44_ : Array Bool := #[t, t, t, t, t, t, t, t, t, t, t, t, t, f_, f_, f_, f_, f_, f_, f_, f_, f_, f_, f_, f_, f_, f_, f_, f_, f_, f_, f_, f_, f_, f_, f_, f_, f_, f_, f_, f_, f_, f_, f_, f_, f_, f_, f_, f_, f_, f_, f_, f_]
def gangwaylaw9_MemParts.bb45_ : Array Bool := #[t, t, t, t, t, t, t, t, t, t, t, t, f_, f_, f_, f_, f_, f_, f_, f_, f_, f_, f_, f_, f_, f_, f_, f_, f_, f_, f_, f_, f_, f_, f_, f_, f_, f_, f_, f_, f_, f_, f_, f_, f_, f_, f_, f_, f_, f_, f_, f_, f_]
def gangwaylaw9_MemParts.bb46_ : Array Bool := #[t, t, t, t, t, t, t, t, t, t, t, f_, f_, f_, f_, f_, f_, f_, f_, f_, f_, f_, f_, f_, f_, f_, f_, f_, f_, f_, f_, f_, f_, f_, f_, f_, f_, f_, f_, f_, f_, f_, f_, f_, f_, f_, f_, f_, f_, f_, f_, f_, f_]
def gangwaylaw9_MemParts.bb47_ : Array Bool := #[t, t, t, t, t, t, t, t, t, t, f_, f_, f_, f_, f_, f_, f_, f_, f_, f_, f_, f_, f_, f_, f_, f_, f_, f_, f_, f_, f_, f_, f_, f_, f_, f_, f_, f_, f_, f_, f_, f_, f_, f_, f_, f_, f_, f_, f_, f_, f_, f_, f_]
def gangwaylaw9_MemParts.bb48_ : Array Bool := #[t, t, t, t, t, t, t, t, t, f_, f_, f_, f_, f_, f_, f_, f_, f_, f_, f_, f_, f_, f_, f_, f_, f_, f_, f_, f_, f_, f_, f_, f_, f_, f_, f_, f_, f_, f_, f_, f_, f_, f_, f_, f_, f_, f_, f_, f_, f_, f_, f_, f_]
def gangwaylaw9_MemParts.bb49_ : Array Bool := #[t, t, t, t, t, t, t, t, f_, f_, f_, f_, f_, f_, f_, f_, f_, f_, f_, f_, f_, f_, f_, f_, f_, f_, f_, f_, f_, f_, f_, f_, f_, f_, f_, f_, f_, f_, f_, f_, f_, f_, f_, f_, f_, f_, f_, f_, f_, f_, f_, f_, f_]
def gangwaylaw9_MemParts.bb50_ : Array Bool := #[t, t, t, t, t, t, t, f_, f_, f_, f_, f_, f_, f_, f_, f_, f_, f_, f_, f_, f_, f_, f_, f_, f_, f_, f_, f_, f_, f_, f_, f_, f_, f_, f_, f_, f_, f_, f_, f_, f_, f_, f_, f_, f_, f_, f_, f_, f_, f_, f_, f_, f_]
def gangwaylaw9_MemParts.bb51_ : Array Bool := #[t, t, t, t, t, t, f_, f_, f_, f_, f_, f_, f_, f_, f_, f_, f_, f_, f_, f_, f_, f_, f_, f_, f_, f_, f_, f_, f_, f_, f_, f_, f_, f_, f_, f_, f_, f_, f_, f_, f_, f_, f_, f_, f_, f_, f_, f_, f_, f_, f_, f_, f_]
def gangwaylaw9_MemParts.bb52_ : Array Bool := #[t, t, t, t, t, f_, f_, f_, f_, f_, f_, f_, f_, f_, f_, f_, f_, f_, f_, f_, f_, f_, f_, f_, f_, f_, f_, f_, f_, f_, f_, f_, f_, f_, f_, f_, f_, f_, f_, f_, f_, f_, f_, f_, f_, f_, f_, f_, f_, f_, f_, f_, f_]
def gangwaylaw9_MemParts.bb53_ : Array Bool := #[t, t, t, t, f_, f_, f_, f_, f_, f_, f_, f_, f_, f_, f_, f_, f_, f_, f_, f_, f_, f_, f_, f_, f_, f_, f_, f_, f_, f_, f_, f_, f_, f_, f_, f_, f_, f_, f_, f_, f_, f_, f_, f_, f_, f_, f_, f_, f_, f_, f_, f_, f_]
def gangwaylaw9_MemParts.bb54_ : Array Bool := #[t, t, t, f_, f_, f_, f_, f_, f_, f_, f_, f_, f_, f_, f_, f_, f_, f_, f_, f_, f_, f_, f_, f_, f_, f_, f_, f_, f_, f_, f_, f_, f_, f_, f_, f_, f_, f_, f_, f_, f_, f_, f_, f_, f_, f_, f_, f_, f_, f_, f_, f_, f_]
def gangwaylaw9_MemParts.bb55_ : Array Bool := #[t, t, f_, f_, f_, f_, f_, f_, f_, f_, f_, f_, f_, f_, f_, f_, f_, f_, f_, f_, f_, f_, f_, f_, f_, f_, f_, f_, f_, f_, f_, f_, f_, f_, f_, f_, f_, f_, f_, f_, f_, f_, f_, f_, f_, f_, f_, f_, f_, f_, f_, f_, f_]
def gangwaylaw9_MemParts.bb56_ : Array Bool := #[t, f_, f_, f_, f_, f_, f_, f_, f_, f_, f_, f_, f_, f_, f_, f_, f_, f_, f_, f_, f_, f_, f_, f_, f_, f_, f_, f_, f_, f_, f_, f_, f_, f_, f_, f_, f_, f_, f_, f_, f_, f_, f_, f_, f_, f_, f_, f_, f_, f_, f_, f_, f_]
def gangwaylaw9_MemParts.bb57_ : Array Bool := #[f_, f_, f_, f_, f_, f_, f_, f_, f_, f_, f_, f_, f_, f_, f_, f_, f_, f_, f_, f_, f_, f_, f_, f_, f_, f_, f_, f_, f_, f_, f_, f_, f_, f_, f_, f_, f_, f_, f_, f_, f_, f_, f_, f_, f_, f_, f_, f_, f_, f_, f_, f_, f_]
theorem gangwaylaw9_MemParts.bc {w : World} {g : Nat} {cs : Array Value} {t : TypeId} (h : Aside0 (w.heap[g]? = some (.cells cs t (0, 0)))) (i : Nat) {v : Value} (e : cs[i]? = some v := by rfl) : w.cell? ⟨g, i, none⟩ = some v := (blk_cell h.out i).trans e
theorem gangwaylaw9_MemParts.bkept {W0 W W2 : World} {g : Nat} {o : Obj} {S : Nat → Prop} (_b : Aside0 (W0.heap[g]? = some o)) (h : W.heap[g]? = some o) (hk : Kept W W2 S) (hn : ¬ S g) : W2.heap[g]? = some o := blk_kept h hk hn
theorem gangwaylaw9_MemParts.bbelow {W0 w w1 : World} {g : Nat} {o : Obj} (_b : Aside0 (W0.heap[g]? = some o)) (h : w.heap[g]? = some o) (hb : Below w.heap.size w w1) : w1.heap[g]? = some o := blk_below h hb
theorem gangwaylaw9_MemParts.e1 {α : Type _} (xs : List α) (i : Nat) (a : α) : xs.toArray.setIfInBounds i a = (xs.set i a).toArray := by simp
theorem gangwaylaw9_MemParts.e2 {α : Type _} (x a : α) (xs : List α) : (x :: xs).set 0 a = a :: xs := rfl
theorem gangwaylaw9_MemParts.e3 {α : Type _} (x a : α) (xs : List α) (n : Nat) : (x :: xs).set (n + 1) a = x :: xs.set n a := rfl
theorem gangwaylaw9_MemParts.up {w w' : World} {a : Addr} {v : Value} (hb : Aside0 (Below w.heap.size w w')) (h : w.cell? a = some v) : w'.cell? a = some v := (hb.out.cell (World.block_lt_of_cell? w _ h)).trans h
mutual
def gangwaylaw9_MemParts.l0 : Nat → Int → Int → Int → Int → List (S48) → List Int → Int → Option (Bool)
 | 0, _, _, _, _, _, _, _ => none
 | k + 1, x5, x562000, x562001, x562002, x562003, x568000, x568001 => if x5 < (x562003.length : Int) then (gangwaylaw9_MemParts.j2 k x5 (decide (x5 < 30)) x562000 x562001 x562002 x562003 x568000 x568001) else (gangwaylaw9_MemParts.j2 k x5 false x562000 x562001 x562002 x562003 x568000 x568001)
def gangwaylaw9_MemParts.j2 : Nat → Int → Bool → Int → Int → Int → List (S48) → List Int → Int → Option (Bool)
 | 0, _, _, _, _, _, _, _, _ => none
 | k + 1, x5, x50, x562000, x562001, x562002, x562003, x568000, x568001 => if x50 = true then (if 0 ≤ x5 then (if x5 < (x562003.length : Int) then ((some (([1, 2, 4, 8] : List Int) : List Int)).bind fun y591 => ((gangwaylaw0_Within.f ((rd_T48 x562003 x5).f3) 4).bind fun t594 => (if 0 ≤ t594 then (if t594 < (y591.length : Int) then ((gangwaylaw0_Within.f ((rd_T48 x562003 x5).f1) 65526).bind fun t596 => ((mem_Memory_Read.f x568000 x568001 (wrap64 ((wrap64 (1 + t596)) - 1)) 10).bind fun bt597 => ((mem_Memory_Store.f bt597.2.2.1 bt597.2.2.2 (wrap64 ((wrap64 (1 + t596)) - 1)) 1 (rd y591 t594) ((rd_T48 x562003 x5).f4)).bind fun bt605 => ((mem_Memory_Load.f k bt605.2.1 bt605.2.2 0 (wrap64 (1 + t596)) (rd y591 t594)).bind fun bt610 => ((mem_Memory_Read.f bt610.2.2.1 bt610.2.2.2 (wrap64 ((wrap64 (1 + t596)) - 1)) 10).bind fun bt616 => ((gangwaylaw9_num.f bt597.2.1).bind fun t624 => (if t624 = 0 then ((gangwaylaw9_num.f bt605.1).bind fun t625 => (if t625 = 0 then ((gangwaylaw9_num.f bt610.2.1).bind fun t626 => (if t626 = 0 then ((gangwaylaw9_num.f bt616.2.1).bind fun t627 => (if t627 = 0 then (if (bt597.1.length : Int) = 10 then (if (bt616.1.length : Int) = 10 then (if (rd y591 t594) < 8 then (if 0 ≤ (wrap64 (8 * (rd y591 t594))) then (if bt610.1 = (Go.bits .and .u64 ((rd_T48 x562003 x5).f4) (IntKind.u64.wrap ((shl .u64 1 (wrap64 (8 * (rd y591 t594)))) - 1))) then (if (rd y591 t594) = 8 then (gangwaylaw9_MemParts.j3 k x5 (rd y591 t594) bt597.1 bt616.1 (bt610.1 != ((rd_T48 x562003 x5).f4)) x562000 x562001 x562002 x562003 bt616.2.2.1 bt616.2.2.2 ((rd_T48 x562003 x5).f0) ((rd_T48 x562003 x5).f1) ((rd_T48 x562003 x5).f2) ((rd_T48 x562003 x5).f3) ((rd_T48 x562003 x5).f4) ((rd_T48 x562003 x5).f5)) else (gangwaylaw9_MemParts.j3 k x5 (rd y591 t594) bt597.1 bt616.1 false x562000 x562001 x562002 x562003 bt616.2.2.1 bt616.2.2.2 ((rd_T48 x562003 x5).f0) ((rd_T48 x562003 x5).f1) ((rd_T48 x562003 x5).f2) ((rd_T48 x562003 x5).f3) ((rd_T48 x562003 x5).f4) ((rd_T48 x562003 x5).f5))) else (none)) else (none)) else (if (rd y591 t594) = 8 then (gangwaylaw9_MemParts.j3 k x5 (rd y591 t594) bt597.1 bt616.1 (bt610.1 != ((rd_T48 x562003 x5).f4)) x562000 x562001 x562002 x562003 bt616.2.2.1 bt616.2.2.2 ((rd_T48 x562003 x5).f0) ((rd_T48 x562003 x5).f1) ((rd_T48 x562003 x5).f2) ((rd_T48 x562003 x5).f3) ((rd_T48 x562003 x5).f4) ((rd_T48 x562003 x5).f5)) else (gangwaylaw9_MemParts.j3 k x5 (rd y591 t594) bt597.1 bt616.1 false x562000 x562001 x562002 x562003 bt616.2.2.1 bt616.2.2.2 ((rd_T48 x562003 x5).f0) ((rd_T48 x562003 x5).f1) ((rd_T48 x562003 x5).f2) ((rd_T48 x562003 x5).f3) ((rd_T48 x562003 x5).f4) ((rd_T48 x562003 x5).f5)))) else (none)) else (none)) else (none))) else (none))) else (none))) else (none)))))))) else (none)) else (none)))) else (none)) else (none)) else ((mem_Memory_Load.f k x568000 x568001 65535 0 1).bind fun bt580 => ((gangwaylaw9_num.f bt580.2.1).bind fun t586 => (if t586 = 0 then (if bt580.1 = 0 then ((gangwaylaw9_wakes.f k).bind fun t587 => (some t587)) else (if (x562003.length : Int) > 0 then ((gangwaylaw9_wakes.f k).bind fun t588 => (some t588)) else (none))) else (none))))
def gangwaylaw9_MemParts.j3 : Nat → Int → Int → List Int → List Int → Bool → Int → Int → Int → List (S48) → List Int → Int → Int → Int → Int → Int → Int → List Int → Option (Bool)
 | 0, _, _, _, _, _, _, _, _, _, _, _, _, _, _, _, _, _ => none
 | k + 1, x5, x7, x9, x14, x148, x562000, x562001, x562002, x562003, x568000, x568001, x591000, x591001, x591002, x591003, x591004, x591005 => if x148 = true then (none) else (gangwaylaw9_MemParts.l1 k x5 x7 x9 x14 0 x562000 x562001 x562002 x562003 x568000 x568001 x591000 x591001 x591002 x591003 x591004 x591005)
def gangwaylaw9_MemParts.l1 : Nat → Int → Int → List Int → List Int → Int → Int → Int → Int → List (S48) → List Int → Int → Int → Int → Int → Int → Int → List Int → Option (Bool)
 | 0, _, _, _, _, _, _, _, _, _, _, _, _, _, _, _, _, _ => none
 | k + 1, x5, x7, x9, x14, x16, x562000, x562001, x562002, x562003, x568000, x568001, x591000, x591001, x591002, x591003, x591004, x591005 => if x16 < 10 then (if 0 ≤ x16 then (if x16 < (x9.length : Int) then (if x16 ≥ 1 then (gangwaylaw9_MemParts.j5 k x5 x7 x9 x14 x16 (rd x9 x16) (decide (x16 ≤ x7)) x562000 x562001 x562002 x562003 x568000 x568001 x591000 x591001 x591002 x591003 x591004 x591005) else (gangwaylaw9_MemParts.j5 k x5 x7 x9 x14 x16 (rd x9 x16) false x562000 x562001 x562002 x562003 x568000 x568001 x591000 x591001 x591002 x591003 x591004 x591005)) else (none)) else (none)) else ((mem_Memory_Store.f x568000 x568001 (wrap64 (65536 - x7)) 1 x7 x591004).bind fun bt631 => ((gangwaylaw9_num.f bt631.1).bind fun t636 => (if t636 = 21 then ((mem_Memory_Store.f bt631.2.1 bt631.2.2 4294967295 4294967295 x7 x591004).bind fun bt637 => ((gangwaylaw9_num.f bt637.1).bind fun t642 => (if t642 = 21 then ((mem_Memory_Write.f bt637.2.1 bt637.2.2 65535 (([1, 2] : List Int))).bind fun bt646 => ((gangwaylaw9_num.f bt646.1).bind fun t651 => (if t651 = 21 then (gangwaylaw9_MemParts.l0 k (wrap64 (x5 + 1)) x562000 x562001 x562002 x562003 bt646.2.1 bt646.2.2) else (none)))) else (none)))) else (none))))
def gangwaylaw9_MemParts.j5 : Nat → Int → Int → List Int → List Int → Int → Int → Bool → Int → Int → Int → List (S48) → List Int → Int → Int → Int → Int → Int → Int → List Int → Option (Bool)
 | 0, _, _, _, _, _, _, _, _, _, _, _, _, _, _, _, _, _, _, _ => none
 | k + 1, x5, x7, x9, x14, x16, x17, x163, x562000, x562001, x562002, x562003, x568000, x568001, x591000, x591001, x591002, x591003, x591004, x591005 => if x163 = true then (if 0 ≤ (wrap64 (8 * (wrap64 (x16 - 1)))) then (if 0 ≤ x16 then (if x16 < (x14.length : Int) then (if (rd x14 x16) = ((shr .u64 x591004 (wrap64 (8 * (wrap64 (x16 - 1))))) % 256) then (gangwaylaw9_MemParts.l1 k x5 x7 x9 x14 (wrap64 (x16 + 1)) x562000 x562001 x562002 x562003 x568000 x568001 x591000 x591001 x591002 x591003 x591004 x591005) else (none)) else (none)) else (none)) else (none)) else (if 0 ≤ x16 then (if x16 < (x14.length : Int) then (if (rd x14 x16) = x17 then (gangwaylaw9_MemParts.l1 k x5 x7 x9 x14 (wrap64 (x16 + 1)) x562000 x562001 x562002 x562003 x568000 x568001 x591000 x591001 x591002 x591003 x591004 x591005) else (none)) else (none)) else (none))
end
def gangwaylaw9_MemParts.f (k : Nat) (a0_0 : Int) (a0_1 : Int) (a0_2 : Int) (l0_3 : List (S48)) : Option (Bool) := (mem_New.f k 1 (-1) 1).bind fun bt562 => (if bt562.1 = true then ((gangwaylaw9_num.f bt562.2.2.2).bind fun t569 => (if t569 = 0 then ((mem_Memory_Grow.f bt562.2.1 bt562.2.2.1 1).bind fun bt570 => (if bt570.1 = (-1) then ((mem_Memory_Grow.f bt570.2.1 bt570.2.2 0).bind fun bt575 => (if bt575.1 = 1 then (gangwaylaw9_MemParts.l0 k 0 a0_0 a0_1 a0_2 l0_3 bt575.2.1 bt575.2.2) else (none))) else (none))) else (none))) else (none))
theorem gangwaylaw9_MemParts.mono_l : ∀ k, (∀ y0 y1 y2 y3 y4 y5 y6, LeO (gangwaylaw9_MemParts.l0 k y0 y1 y2 y3 y4 y5 y6) (gangwaylaw9_MemParts.l0 (k + 1) y0 y1 y2 y3 y4 y5 y6)) ∧ (∀ y0 y1 y2 y3 y4 y5 y6 y7, LeO (gangwaylaw9_MemParts.j2 k y0 y1 y2 y3 y4 y5 y6 y7) (gangwaylaw9_MemParts.j2 (k + 1) y0 y1 y2 y3 y4 y5 y6 y7)) ∧ (∀ y0 y1 y2 y3 y4 y5 y6 y7 y8 y9 y10 y11 y12 y13 y14 y15 y16, LeO (gangwaylaw9_MemParts.j3 k y0 y1 y2 y3 y4 y5 y6 y7 y8 y9 y10 y11 y12 y13 y14 y15 y16) (gangwaylaw9_MemParts.j3 (k + 1) y0 y1 y2 y3 y4 y5 y6 y7 y8 y9 y10 y11 y12 y13 y14 y15 y16)) ∧ (∀ y0 y1 y2 y3 y4 y5 y6 y7 y8 y9 y10 y11 y12 y13 y14 y15 y16, LeO (gangwaylaw9_MemParts.l1 k y0 y1 y2 y3 y4 y5 y6 y7 y8 y9 y10 y11 y12 y13 y14 y15 y16) (gangwaylaw9_MemParts.l1 (k + 1) y0 y1 y2 y3 y4 y5 y6 y7 y8 y9 y10 y11 y12 y13 y14 y15 y16)) ∧ (∀ y0 y1 y2 y3 y4 y5 y6 y7 y8 y9 y10 y11 y12 y13 y14 y15 y16 y17 y18, LeO (gangwaylaw9_MemParts.j5 k y0 y1 y2 y3 y4 y5 y6 y7 y8 y9 y10 y11 y12 y13 y14 y15 y16 y17 y18) (gangwaylaw9_MemParts.j5 (k + 1) y0 y1 y2 y3 y4 y5 y6 y7 y8 y9 y10 y11 y12 y13 y14 y15 y16 y17 y18))
 | 0 => ⟨fun _ _ _ _ _ _ _ r h => by simp [gangwaylaw9_MemParts.l0] at h, fun _ _ _ _ _ _ _ _ r h => by simp [gangwaylaw9_MemParts.j2] at h, fun _ _ _ _ _ _ _ _ _ _ _ _ _ _ _ _ _ r h => by simp [gangwaylaw9_MemParts.j3] at h, fun _ _ _ _ _ _ _ _ _ _ _ _ _ _ _ _ _ r h => by simp [gangwaylaw9_MemParts.l1] at h, fun _ _ _ _ _ _ _ _ _ _ _ _ _ _ _ _ _ _ _ r h => by simp [gangwaylaw9_MemParts.j5] at h⟩
 | k + 1 => by
  obtain ⟨ih0, ih1, ih2, ih3, ih4⟩ := gangwaylaw9_MemParts.mono_l k
  refine ⟨?_, ?_, ?_, ?_, ?_⟩
  ·intro y0 y1 y2 y3 y4 y5 y6
   unfold gangwaylaw9_MemParts.l0
   repeat' first
   | (with_reducible apply ih0)
   | (with_reducible apply ih1)
   | (with_reducible apply ih2)
   | (with_reducible apply ih3)
   | (with_reducible apply ih4)
   | (with_reducible exact gangwaylaw9_wakes.mono _)
   | (with_reducible exact mem_Memory_Load.mono _ _ _ _ _ _)
   | (with_reducible exact mem_New.mono _ _ _ _)
   | (with_reducible exact LeO.refl _)
   | (with_reducible exact LeO.none _)
   | (with_reducible refine LeO.ite ?_ ?_)
   | (with_reducible refine LeO.bind ?_ (fun _ => ?_))
   | apply ih0
   | apply ih1
   | apply ih2
   | apply ih3
   | apply ih4
   | exact gangwaylaw9_wakes.mono _
   | exact mem_Memory_Load.mono _ _ _ _ _ _
   | exact mem_New.mono _ _ _ _
   | exact LeO.none _
   | refine LeO.ite ?_ ?_
   | refine LeO.bind ?_ (fun _ => ?_)
  ·intro y0 y1 y2 y3 y4 y5 y6 y7
   unfold gangwaylaw9_MemParts.j2
   repeat' first
   | (with_reducible apply ih0)
   | (with_reducible apply ih1)
   | (with_reducible apply ih2)
   | (with_reducible apply ih3)
   | (with_reducible apply ih4)
   | (with_reducible exact gangwaylaw9_wakes.mono _)
   | (with_reducible exact mem_Memory_Load.mono _ _ _ _ _ _)
   | (with_reducible exact mem_New.mono _ _ _ _)
   | (with_reducible exact LeO.refl _)
   | (with_reducible exact LeO.none _)
   | (with_reducible refine LeO.ite ?_ ?_)
   | (with_reducible refine LeO.bind ?_ (fun _ => ?_))
   | apply ih0
   | apply ih1
   | apply ih2
   | apply ih3
   | apply ih4
   | exact gangwaylaw9_wakes.mono _
   | exact mem_Memory_Load.mono _ _ _ _ _ _
   | exact mem_New.mono _ _ _ _
   | exact LeO.none _
   | refine LeO.ite ?_ ?_
   | refine LeO.bind ?_ (fun _ => ?_)
  ·intro y0 y1 y2 y3 y4 y5 y6 y7 y8 y9 y10 y11 y12 y13 y14 y15 y16
   unfold gangwaylaw9_MemParts.j3
   repeat' first
   | (with_reducible apply ih0)
   | (with_reducible apply ih1)
   | (with_reducible apply ih2)
   | (with_reducible apply ih3)
   | (with_reducible apply ih4)
   | (with_reducible exact gangwaylaw9_wakes.mono _)
   | (with_reducible exact mem_Memory_Load.mono _ _ _ _ _ _)
   | (with_reducible exact mem_New.mono _ _ _ _)
   | (with_reducible exact LeO.refl _)
   | (with_reducible exact LeO.none _)
   | (with_reducible refine LeO.ite ?_ ?_)
   | (with_reducible refine LeO.bind ?_ (fun _ => ?_))
   | apply ih0
   | apply ih1
   | apply ih2
   | apply ih3
   | apply ih4
   | exact gangwaylaw9_wakes.mono _
   | exact mem_Memory_Load.mono _ _ _ _ _ _
   | exact mem_New.mono _ _ _ _
   | exact LeO.none _
   | refine LeO.ite ?_ ?_
   | refine LeO.bind ?_ (fun _ => ?_)
  ·intro y0 y1 y2 y3 y4 y5 y6 y7 y8 y9 y10 y11 y12 y13 y14 y15 y16
   unfold gangwaylaw9_MemParts.l1
   repeat' first
   | (with_reducible apply ih0)
   | (with_reducible apply ih1)
   | (with_reducible apply ih2)
   | (with_reducible apply ih3)
   | (with_reducible apply ih4)
   | (with_reducible exact gangwaylaw9_wakes.mono _)
   | (with_reducible exact mem_Memory_Load.mono _ _ _ _ _ _)
   | (with_reducible exact mem_New.mono _ _ _ _)
   | (with_reducible exact LeO.refl _)
   | (with_reducible exact LeO.none _)
   | (with_reducible refine LeO.ite ?_ ?_)
   | (with_reducible refine LeO.bind ?_ (fun _ => ?_))
   | apply ih0
   | apply ih1
   | apply ih2
   | apply ih3
   | apply ih4
   | exact gangwaylaw9_wakes.mono _
   | exact mem_Memory_Load.mono _ _ _ _ _ _
   | exact mem_New.mono _ _ _ _
   | exact LeO.none _
   | refine LeO.ite ?_ ?_
   | refine LeO.bind ?_ (fun _ => ?_)
  ·intro y0 y1 y2 y3 y4 y5 y6 y7 y8 y9 y10 y11 y12 y13 y14 y15 y16 y17 y18
   unfold gangwaylaw9_MemParts.j5
   repeat' first
   | (with_reducible apply ih0)
   | (with_reducible apply ih1)
   | (with_reducible apply ih2)
   | (with_reducible apply ih3)
   | (with_reducible apply ih4)
   | (with_reducible exact gangwaylaw9_wakes.mono _)
   | (with_reducible exact mem_Memory_Load.mono _ _ _ _ _ _)
   | (with_reducible exact mem_New.mono _ _ _ _)
   | (with_reducible exact LeO.refl _)
   | (with_reducible exact LeO.none _)
   | (with_reducible refine LeO.ite ?_ ?_)
   | (with_reducible refine LeO.bind ?_ (fun _ => ?_))
   | apply ih0
   | apply ih1
   | apply ih2
   | apply ih3
   | apply ih4
   | exact gangwaylaw9_wakes.mono _
   | exact mem_Memory_Load.mono _ _ _ _ _ _
   | exact mem_New.mono _ _ _ _
   | exact LeO.none _
   | refine LeO.ite ?_ ?_
   | refine LeO.bind ?_ (fun _ => ?_)
theorem gangwaylaw9_MemParts.mono : ∀ a0 a1 a2 a3 k, LeO (gangwaylaw9_MemParts.f k a0 a1 a2 a3) (gangwaylaw9_MemParts.f (k + 1) a0 a1 a2 a3) := by
 intro a0 a1 a2 a3 k
 obtain ⟨ih0, ih1, ih2, ih3, ih4⟩ := gangwaylaw9_MemParts.mono_l k
 unfold gangwaylaw9_MemParts.f
 repeat' first
   | (with_reducible apply ih0)
   | (with_reducible apply ih1)
   | (with_reducible apply ih2)
   | (with_reducible apply ih3)
   | (with_reducible apply ih4)
   | (with_reducible exact gangwaylaw9_wakes.mono _)
   | (with_reducible exact mem_Memory_Load.mono _ _ _ _ _ _)
   | (with_reducible exact mem_New.mono _ _ _ _)
   | (with_reducible exact LeO.refl _)
   | (with_reducible exact LeO.none _)
   | (with_reducible refine LeO.ite ?_ ?_)
   | (with_reducible refine LeO.bind ?_ (fun _ => ?_))
   | apply ih0
   | apply ih1
   | apply ih2
   | apply ih3
   | apply ih4
   | exact gangwaylaw9_wakes.mono _
   | exact mem_Memory_Load.mono _ _ _ _ _ _
   | exact mem_New.mono _ _ _ _
   | exact LeO.none _
   | refine LeO.ite ?_ ?_
   | refine LeO.bind ?_ (fun _ => ?_)
def gangwaylaw9_MemParts.T14 : Bool × List (List Nat × List Nat) := (true, [([], []), ([0], [0]), ([1], [1]), ([2, 1], [2]), ([3], [3]), ([4, 3, 3], [3, 4]), ([5, 3], [3, 5]), ([3, 6], [3, 6]), ([7, 5], [7]), ([8], [8]), ([9, 8, 8], [8, 9]), ([10, 8], [8, 10]), ([8, 11], [8, 11]), ([12, 10], [12]), ([13], [13]), ([14, 13, 13], [13, 14]), ([15, 13], [13, 15]), ([13, 16], [13, 16]), ([17, 15], [17]), ([18], [18]), ([19, 18], [18, 19]), ([20, 18], [18, 20]), ([18, 21], [18, 21]), ([22, 18], [22]), ([23], [23]), ([24, 23], [23, 24]), ([25, 23], [23, 25]), ([23, 26], [23, 26]), ([27, 23], [27]), ([28], [28]), ([29, 28], [28, 29]), ([30, 28, 28], [28, 30]), ([31], [31]), ([31], [31]), ([33, 31], [31, 33]), ([31], [31]), ([35, 31], [31, 35]), ([36, 31], [31, 36]), ([37, 31], [31, 37]), ([34, 38, 31], [31, 34, 38]), ([32, 39, 31], [31, 32, 39]), ([31, 40, 28], [28, 31, 40]), ([28, 41], [28, 41]), ([42, 31], [42]), ([43], [43]), ([44, 43], [43, 44]), ([45, 43, 43], [43, 45]), ([46], [46]), ([46], [46]), ([48, 46], [46, 48]), ([47, 49, 46], [46, 47, 49]), ([46, 50, 43], [43, 46, 50]), ([43, 51], [43, 51])])
def gangwaylaw9_MemParts.B14 : List Nat := [0, 1, 3, 7, 15, 31, 63, 127, 255, 511, 1023, 2047, 4095, 8191, 16383, 32767, 65535, 131071, 262143, 524287, 1048575, 2097151, 4194303, 8388607, 16777215, 33554431, 67108863, 134217727, 268435455, 536870911, 1073741823, 2147483647, 4294967295, 4294967295, 12884901887, 4294967295, 38654705663, 107374182399, 244813135871, 545460846591, 1099511627775, 2199023255551, 4398046511103, 8796093022207, 17592186044415, 35184372088831, 70368744177663, 140737488355327, 140737488355327, 422212465065983, 1125899906842623, 2251799813685247, 4503599627370495]
theorem gangwaylaw9_MemParts.tab14 : rtab .any (opsOf Try.f6 14) = gangwaylaw9_MemParts.T14 := by kernel_rfl
theorem gangwaylaw9_MemParts.bits14 : waitsOk gangwaylaw9_MemParts.T14.2 gangwaylaw9_MemParts.B14 = true := by kernel_rfl
set_option maxHeartbeats 100000000 in
set_option maxRecDepth 100000 in
theorem gangwaylaw9_MemParts.calls (k : Nat) (a0_0 : Int) (a0_1 : Int) (a0_2 : Int) (A0_3 : Option Addr) (c0_3 : Nat) (l0_3 : List (S48)) (r : Bool) (w : World) (hr0_3 : Kd.C k48 w A0_3 l0_3.length l0_3) (hc0_3 : l0_3.length ≤ c0_3) (h : gangwaylaw9_MemParts.f k a0_0 a0_1 a0_2 l0_3 = some r) :
  Calls Try.prog 6 #[.agg #[.int .i64 a0_0, .int .i64 a0_1, .int .i64 a0_2, .slice A0_3 l0_3.length c0_3]] w fun e w' => e = .returned (.bool r) ∧ Below w.heap.size w w' := by
 have hu26 := Try.underlying26
 have hu23 := Try.underlying23
 have hu48 := Try.underlying48
 have HR0_3 := Aside0.mk hr0_3
 have HC0_3 := Aside0.mk hc0_3
 clear hr0_3 hc0_3
 have HB := Aside0.mk (Below.refl w.heap.size w)
 have H : ((mem_New.f k 1 (-1) 1).bind fun bt562 => (if bt562.1 = true then ((gangwaylaw9_num.f bt562.2.2.2).bind fun t569 => (if t569 = 0 then ((mem_Memory_Grow.f bt562.2.1 bt562.2.2.1 1).bind fun bt570 => (if bt570.1 = (-1) then ((mem_Memory_Grow.f bt570.2.1 bt570.2.2 0).bind fun bt575 => (if bt575.1 = 1 then (gangwaylaw9_MemParts.l0 k 0 a0_0 a0_1 a0_2 l0_3 bt575.2.1 bt575.2.2) else (none))) else (none))) else (none))) else (none))) = some r := h
 clear h
 replace H := Option.bind_eq_some_iff.mp H
 obtain ⟨⟨t562, t563, t566, t568⟩, A20, H⟩ := H
 replace H : (if t562 = true then ((gangwaylaw9_num.f t568).bind fun t569 => (if t569 = 0 then ((mem_Memory_Grow.f t563 t566 1).bind fun bt570 => (if bt570.1 = (-1) then ((mem_Memory_Grow.f bt570.2.1 bt570.2.2 0).bind fun bt575 => (if bt575.1 = 1 then (gangwaylaw9_MemParts.l0 k 0 a0_0 a0_1 a0_2 l0_3 bt575.2.1 bt575.2.2) else (none))) else (none))) else (none))) else (none)) = some r := H
 have A2 := Aside0.mk A20
 clear A20
 by_cases c3 : t562 = true
 ·subst c3
  have H1 : ((gangwaylaw9_num.f t568).bind fun t569 => (if t569 = 0 then ((mem_Memory_Grow.f t563 t566 1).bind fun bt570 => (if bt570.1 = (-1) then ((mem_Memory_Grow.f bt570.2.1 bt570.2.2 0).bind fun bt575 => (if bt575.1 = 1 then (gangwaylaw9_MemParts.l0 k 0 a0_0 a0_1 a0_2 l0_3 bt575.2.1 bt575.2.2) else (none))) else (none))) else (none))) = some r := by rw [if_pos rfl] at H; exact H
  clear H
  have H := H1
  clear H1
  replace H := Option.bind_eq_some_iff.mp H
  obtain ⟨t569, A40, H⟩ := H
  replace H : (if t569 = 0 then ((mem_Memory_Grow.f t563 t566 1).bind fun bt570 => (if bt570.1 = (-1) then ((mem_Memory_Grow.f bt570.2.1 bt570.2.2 0).bind fun bt575 => (if bt575.1 = 1 then (gangwaylaw9_MemParts.l0 k 0 a0_0 a0_1 a0_2 l0_3 bt575.2.1 bt575.2.2) else (none))) else (none))) else (none)) = some r := H
  have A4 := Aside0.mk A40
  clear A40
  by_cases c5 : t569 = 0
  ·rw [if_pos c5] at H
   have c5b0 : (t569 == 0) = true := beq_iff_eq.mpr c5
   have c5b1 : (t569 != 0) = false := bne_eq_false_iff_eq.mpr c5
   clear c5
   replace H := Option.bind_eq_some_iff.mp H
   obtain ⟨⟨t570, t571, t574⟩, A60, H⟩ := H
   replace H : (if t570 = (-1) then ((mem_Memory_Grow.f t571 t574 0).bind fun bt575 => (if bt575.1 = 1 then (gangwaylaw9_MemParts.l0 k 0 a0_0 a0_1 a0_2 l0_3 bt575.2.1 bt575.2.2) else (none))) else (none)) = some r := H
   have A6 := Aside0.mk A60
   clear A60
   by_cases c7 : t570 = (-1)
   ·rw [if_pos c7] at H
    have c7b0 : (t570 == (-1)) = true := beq_iff_eq.mpr c7
    have c7b1 : (t570 != (-1)) = false := bne_eq_false_iff_eq.mpr c7
    clear c7
    replace H := Option.bind_eq_some_iff.mp H
    obtain ⟨⟨t575, t576, t579⟩, A80, H⟩ := H
    replace H : (if t575 = 1 then (gangwaylaw9_MemParts.l0 k 0 a0_0 a0_1 a0_2 l0_3 t576 t579) else (none)) = some r := H
    have A8 := Aside0.mk A80
    clear A80
    by_cases c9 : t575 = 1
    ·rw [if_pos c9] at H
     have c9b0 : (t575 == 1) = true := beq_iff_eq.mpr c9
     have c9b1 : (t575 != 1) = false := bne_eq_false_iff_eq.mpr c9
     clear c9
     have H' := Aside0.mk H
     clear H
     go_enter Try.func6, Try.ntmps6
     go_wp2_with (first | ((with_reducible refine gate_dst (N := 1) rfl ?_); (try (refine gate_guard (by rfl) ?_; dsimp only)); refine box_event ?hg (N := 1) ?hd (cs := #[.int .i64 a0_0, .int .i64 a0_1, .int .i64 a0_2, .slice A0_3 l0_3.length c0_3]) (t := 26) ?hr ?_; (case hd => rfl); (case hg => rfl); (case hr => first | (go_simp; done) | (go_simp; rfl)); intro gb561 hg w10 hbox hb; have n0_ := Aside0.mk (below_step (by repeat (first | (with_reducible first | exact HB.out | apply below_alloc | apply pw_below_drewN | apply below_drew1) | exact HB.out)) hb); have n1_ := Aside0.mk (hbox); have n2_ := Aside0.mk ((by rw [hg]; exact (below_size (by repeat (first | (with_reducible first | exact HB.out | apply below_alloc | apply pw_below_drewN | apply below_drew1) | exact HB.out))) : w.heap.size ≤ gb561)); have n3_ := Aside0.mk ((by rw [hg]; exact (below_size (by repeat (first | (with_reducible first | exact HB.out | apply below_alloc | apply pw_below_drewN | apply below_drew1) | exact HB.out))) : w.heap.size ≤ gb561)); clear HB; have HB := n0_; have BK561 := n1_; have GW561 := n2_; have GE561 := n3_; clear n0_ n1_ n2_ n3_; clear hb hbox hg) | ((with_reducible refine gate_callee (f := 7) rfl ?_); refine goesL_ (some 22) rfl rfl Try.func7 (by kernel_rfl) rfl #[.agg #[.int .i64 1, .int .i64 (-1)], .int .i64 1] rfl (by (try simp only [List.map_toArray, List.map_cons, List.map_nil]); first | done | rfl | (simp only [List.length_drop, List.length_take]; rfl)) ?_; (with_reducible refine (mem_New.calls k 1 (-1) 1 true t563 t566 t568 _ A2.out).mono ?_); rintro e w11 ⟨v564, pz567, rfl, ho0, hz567, hb⟩; refine ⟨_, rfl, ?_⟩; have n0_ := Aside0.mk (Kd.R_lower ho0 (below_size (by repeat (first | (with_reducible first | exact HB.out | apply below_alloc | apply pw_below_drewN | apply below_drew1 | refine below_set ?_ GE561.out) | exact HB.out)))); have n1_ := Aside0.mk (bbelow BK561 (by (with_reducible repeat (first | refine blk_drewN ?_ _ | refine blk_drew ?_ | refine blk_alloc ?_ _)); exact BK561.out) hb); have n2_ := Aside0.mk ((show (true = true → ∃ g_ : Nat, pz567 = .pointer (some ⟨g_, 0, none⟩) ∧ IsS61 w w11 g_ v564 t566 ∧ gb561 ≠ g_) ∧ (true = false → pz567 = .pointer none) from ⟨fun h_ => (hz567.1 h_).elim fun g_ hg_ => ⟨g_, hg_.1, hg_.2.lower ((below_size (by repeat (first | (with_reducible first | exact HB.out | apply below_alloc | apply pw_below_drewN | apply below_drew1 | refine below_set ?_ GE561.out) | exact HB.out)))), Nat.ne_of_lt (Nat.lt_of_lt_of_le (blk_lt (g := gb561) (o := .cells #[.int .i64 a0_0, .int .i64 a0_1, .int .i64 a0_2, .slice A0_3 l0_3.length c0_3] 26 (0, 0)) (by (with_reducible repeat (first | refine blk_drewN ?_ _ | refine blk_drew ?_ | refine blk_alloc ?_ _)); exact BK561.out)) hg_.2.ge)⟩, hz567.2⟩)); have n3_ := Aside0.mk (below_step (by repeat (first | (with_reducible first | exact HB.out | apply below_alloc | apply pw_below_drewN | apply below_drew1 | refine below_set ?_ GE561.out) | exact HB.out)) hb); clear BK561; clear HB; have HO565 := n0_; have BK561 := n1_; have HZ567 := n2_; have HB := n3_; clear n0_ n1_ n2_ n3_; (try clear hb); (try clear hb2); (try clear hk); (try clear hi); (try clear ho0); obtain ⟨g567, e_, hi_, hn0_⟩ := HZ567.out.1 rfl; subst e_; have HI567 := Aside0.mk hi_; clear hi_ HZ567; have NB561_567 := Aside0.mk hn0_; have NB567_561 := Aside0.mk (Ne.symm hn0_); clear hn0_) | ((with_reducible refine gate_callee (f := 8) rfl ?_); refine goesL_ (some 26) rfl rfl Try.func8 (by kernel_rfl) rfl #[.int .i64 t568] rfl (by (try simp only [List.map_toArray, List.map_cons, List.map_nil]); first | done | rfl | (simp only [List.length_drop, List.length_take]; rfl)) ?_; (with_reducible refine (gangwaylaw9_num.calls t568 t569 _ A4.out).mono ?_); rintro e w' ⟨rfl, ⟨nd, rfl⟩⟩; refine ⟨_, rfl, ?_⟩) | (go_at_call 10; (with_reducible refine (mem_Memory_Grow.calls g567 (fun k_ => some k_ = (v564 : Value).ownBlock) v564 t563 t566 1 t570 t571 t574 w _ ?side1 ?side2 ?side3 A6.out).mono ?_); (case side1 => repeat (first | (with_reducible first | exact HI567.out | apply IsS61.alloc | apply IsS61.drewN | apply IsS61.drew | apply IsS61.set_0 | apply IsS61.set_1 | refine IsS61.far ?_ NB567_561.out _) | exact HI567.out)); (case side2 => repeat (first | (with_reducible first | exact HB.out | apply below_alloc | apply pw_below_drewN | apply below_drew1 | refine below_set ?_ (IsS61.ge HI567.out) | refine below_set ?_ GE561.out) | exact HB.out)); (case side3 => exact Kd.R_tight rfl HO565.out); rintro e w12 ⟨v572, rfl, ho0, hi, hb, hkp⟩; have n0_ := Aside0.mk (bkept BK561 (by (with_reducible repeat (first | refine blk_drewN ?_ _ | refine blk_drew ?_ | refine blk_alloc ?_ _)); exact BK561.out) hkp (fun hs_ => Or.elim hs_ (fun hs_ => (fun e_ => (Kd.R_ne HO565.out BK561.out (by decide)) e_) hs_) (fun e_ => NB561_567.out e_))); have n1_ := Aside0.mk (hi); have n2_ := Aside0.mk (Kd.R_mono (ok' := fun k_ => True) ho0 (fun k_ hk_ => trivial)); have n3_ := Aside0.mk (hb); clear BK561; clear HI567; clear HB; clear HO565; have BK561 := n0_; have HI567 := n1_; have HO573 := n2_; have HB := n3_; clear n0_ n1_ n2_ n3_; (try clear hb); (try clear hkp); (try clear ho0)) | (go_at_call 10; (with_reducible refine (mem_Memory_Grow.calls g567 (fun k_ => some k_ = (v572 : Value).ownBlock) v572 t571 t574 0 t575 t576 t579 w _ ?side1 ?side2 ?side3 A8.out).mono ?_); (case side1 => repeat (first | (with_reducible first | exact HI567.out | apply IsS61.alloc | apply IsS61.drewN | apply IsS61.drew | apply IsS61.set_0 | apply IsS61.set_1 | refine IsS61.far ?_ NB567_561.out _) | exact HI567.out)); (case side2 => repeat (first | (with_reducible first | exact HB.out | apply below_alloc | apply pw_below_drewN | apply below_drew1 | refine below_set ?_ (IsS61.ge HI567.out) | refine below_set ?_ GE561.out) | exact HB.out)); (case side3 => exact Kd.R_tight rfl HO573.out); rintro e w13 ⟨v577, rfl, ho0, hi, hb, hkp⟩; have n0_ := Aside0.mk (bkept BK561 (by (with_reducible repeat (first | refine blk_drewN ?_ _ | refine blk_drew ?_ | refine blk_alloc ?_ _)); exact BK561.out) hkp (fun hs_ => Or.elim hs_ (fun hs_ => (fun e_ => (Kd.R_ne HO573.out BK561.out (by decide)) e_) hs_) (fun e_ => NB561_567.out e_))); have n1_ := Aside0.mk (hi); have n2_ := Aside0.mk (Kd.R_mono (ok' := fun k_ => True) ho0 (fun k_ hk_ => trivial)); have n3_ := Aside0.mk (hb); clear BK561; clear HI567; clear HB; clear HO573; have BK561 := n0_; have HI567 := n1_; have HO578 := n2_; have HB := n3_; clear n0_ n1_ n2_ n3_; (try clear hb); (try clear hkp); (try clear ho0)))
     go_loopg [5] k (fun kq v5 w' => ∃ (x5_1 : Int) (x568000_1 : List Int) (x568001_1 : Int) (u568000 : Value), v5 = .int .i64 x5_1 ∧ Aside0 (gangwaylaw9_MemParts.l0 kq x5_1 a0_0 a0_1 a0_2 l0_3 x568000_1 x568001_1 = some r) ∧ Aside0 (kq ≤ k) ∧ Aside0 (Kd.R (Kd.int .u8) 5 w' w.heap.size (fun _ => True) u568000 x568000_1) ∧ Aside0 (w'.heap[gb561]? = some (.cells #[.int .i64 a0_0, .int .i64 a0_1, .int .i64 a0_2, (.slice A0_3 l0_3.length c0_3)] 26 (0, 0))) ∧ Aside0 (IsS61 w w' g567 u568000 x568001_1) ∧ Aside0 (Below w.heap.size w w'))
     case atStart => exact ⟨(0), (t576), (t579), (v577), (by first | rfl | (simp; done) | (simp [*]; done)), H', ⟨Nat.le_refl _⟩, ⟨by (with_reducible repeat (first | apply Kd.R_alloc | apply Kd.R_drewN | apply Kd.R_drew)); exact HO578.out⟩, ⟨by (with_reducible repeat (first | refine blk_drewN ?_ _ | refine blk_drew ?_ | refine blk_alloc ?_ _)); exact BK561.out⟩, ⟨by repeat (first | (with_reducible first | exact HI567.out | apply IsS61.alloc | apply IsS61.drewN | apply IsS61.drew | apply IsS61.set_0 | apply IsS61.set_1 | refine IsS61.far ?_ NB567_561.out _) | exact HI567.out)⟩, ⟨by repeat (first | (with_reducible first | exact HB.out | apply below_alloc | apply pw_below_drewN | apply below_drew1 | refine below_set ?_ (IsS61.ge HI567.out) | refine below_set ?_ GE561.out) | exact HB.out)⟩⟩
     case round =>
      clear H'
      try clear c3
      try clear c5b0
      try clear c5b1
      try clear c7b0
      try clear c7b1
      try clear c9b0
      try clear c9b1
      obtain ⟨x5_1, x568000_1, x568001_1, u568000, rfl, HA, HK1, HO_568000, BK561, HI567, HB⟩ := hrel
      cases gk with
      | zero => exact absurd HA.out (by simp [gangwaylaw9_MemParts.l0])
      | succ k1 =>
       have H := HA.out
       clear HA
       simp only [gangwaylaw9_MemParts.l0] at H
       have HC14 := Aside0.mk H
       clear H
       go_upto_region 5 with (fail)
       go_cut [50] (fun v50 wc => ∃ (kq : Nat) (x50_13 : Bool), v50 = .bool x50_13 ∧ Aside0 (j2 kq x5_1 x50_13 a0_0 a0_1 a0_2 l0_3 x568000_1 x568001_1 = some r) ∧ Aside0 (kq ≤ k1) ∧ Aside0 (Kd.R (Kd.int .u8) 5 wc w.heap.size (fun _ => True) u568000 x568000_1) ∧ Aside0 (wc.heap[gb561]? = some (.cells #[.int .i64 a0_0, .int .i64 a0_1, .int .i64 a0_2, (.slice A0_3 l0_3.length c0_3)] 26 (0, 0))) ∧ Aside0 (IsS61 w wc g567 u568000 x568001_1) ∧ Aside0 (Below w.heap.size w wc))
       case first =>
        have H := HC14.out
        clear HC14
        by_cases c15 : x5_1 < (l0_3.length : Int)
        ·rw [if_pos c15] at H
         have c15b0 : decide (x5_1 < (l0_3.length : Int)) = true := decide_eq_true c15
         clear c15
         (first | rw [c15b0] | (simp only [i64_w, i32_w]; rw [c15b0]) | skip)
         have H' := Aside0.mk H
         clear H
         have hnb16 := NB561_567.out
         have hnc16 := NB567_561.out
         have hcz17_0 : wr.cell? ⟨gb561, 0, none⟩ = some (.int .i64 a0_0) := bc BK561 0
         have hcz17_1 : wr.cell? ⟨gb561, 1, none⟩ = some (.int .i64 a0_1) := bc BK561 1
         have hcz17_2 : wr.cell? ⟨gb561, 2, none⟩ = some (.int .i64 a0_2) := bc BK561 2
         have hcz17_3 : wr.cell? ⟨gb561, 3, none⟩ = some (.slice A0_3 l0_3.length c0_3) := bc BK561 3
         have hfz17_0 := blk_frozen BK561.out 0
         have hfz17_1 := blk_frozen BK561.out 1
         have hfz17_2 := blk_frozen BK561.out 2
         have hfz17_3 := blk_frozen BK561.out 3
         go_wp2
         go_meet
         case rel => exact ⟨_, (decide (x5_1 < 30)), (by first | rfl | (simp; done) | (simp [*]; done)), H', ⟨by have := HK1.out; first | omega | exact Nat.le_refl _⟩, ⟨by (with_reducible repeat (first | apply Kd.R_alloc | apply Kd.R_drewN | apply Kd.R_drew)); exact HO_568000.out⟩, ⟨by (with_reducible repeat (first | refine blk_drewN ?_ _ | refine blk_drew ?_ | refine blk_alloc ?_ _)); exact BK561.out⟩, ⟨by repeat (first | (with_reducible first | exact HI567.out | apply IsS61.alloc | apply IsS61.drewN | apply IsS61.drew | apply IsS61.set_0 | apply IsS61.set_1 | refine IsS61.far ?_ NB567_561.out _) | exact HI567.out)⟩, ⟨by repeat (first | (with_reducible first | exact HB.out | apply below_alloc | apply pw_below_drewN | apply below_drew1 | refine below_set ?_ (IsS61.ge HI567.out) | refine below_set ?_ GE561.out) | exact HB.out)⟩⟩
        ·rw [if_neg c15] at H
         have c15b0 : decide (x5_1 < (l0_3.length : Int)) = false := decide_eq_false c15
         clear c15
         (first | rw [c15b0] | (simp only [i64_w, i32_w]; rw [c15b0]) | skip)
         have H' := Aside0.mk H
         clear H
         have hnb18 := NB561_567.out
         have hnc18 := NB567_561.out
         have hcz19_0 : wr.cell? ⟨gb561, 0, none⟩ = some (.int .i64 a0_0) := bc BK561 0
         have hcz19_1 : wr.cell? ⟨gb561, 1, none⟩ = some (.int .i64 a0_1) := bc BK561 1
         have hcz19_2 : wr.cell? ⟨gb561, 2, none⟩ = some (.int .i64 a0_2) := bc BK561 2
         have hcz19_3 : wr.cell? ⟨gb561, 3, none⟩ = some (.slice A0_3 l0_3.length c0_3) := bc BK561 3
         have hfz19_0 := blk_frozen BK561.out 0
         have hfz19_1 := blk_frozen BK561.out 1
         have hfz19_2 := blk_frozen BK561.out 2
         have hfz19_3 := blk_frozen BK561.out 3
         go_wp2
         go_meet
         case rel => exact ⟨_, (false), (by first | rfl | (simp; done) | (simp [*]; done)), H', ⟨by have := HK1.out; first | omega | exact Nat.le_refl _⟩, ⟨by (with_reducible repeat (first | apply Kd.R_alloc | apply Kd.R_drewN | apply Kd.R_drew)); exact HO_568000.out⟩, ⟨by (with_reducible repeat (first | refine blk_drewN ?_ _ | refine blk_drew ?_ | refine blk_alloc ?_ _)); exact BK561.out⟩, ⟨by repeat (first | (with_reducible first | exact HI567.out | apply IsS61.alloc | apply IsS61.drewN | apply IsS61.drew | apply IsS61.set_0 | apply IsS61.set_1 | refine IsS61.far ?_ NB567_561.out _) | exact HI567.out)⟩, ⟨by repeat (first | (with_reducible first | exact HB.out | apply below_alloc | apply pw_below_drewN | apply below_drew1 | refine below_set ?_ (IsS61.ge HI567.out) | refine below_set ?_ GE561.out) | exact HB.out)⟩⟩
       case rest =>
        clear HC14
        obtain ⟨kq, x50_13, rfl, HA, HJ13, HO_568000, BK561, HI567, HB⟩ := hcut
        cases kq with
        | zero => exact absurd HA.out (by simp [j2])
        | succ kj13 =>
         have H := HA.out
         clear HA
         simp only [j2] at H
         by_cases c20 : x50_13 = true
         ·subst c20
          have H1 : (if 0 ≤ x5_1 then (if x5_1 < (l0_3.length : Int) then ((some (([1, 2, 4, 8] : List Int) : List Int)).bind fun y591 => ((gangwaylaw0_Within.f ((rd_T48 l0_3 x5_1).f3) 4).bind fun t594 => (if 0 ≤ t594 then (if t594 < (y591.length : Int) then ((gangwaylaw0_Within.f ((rd_T48 l0_3 x5_1).f1) 65526).bind fun t596 => ((mem_Memory_Read.f x568000_1 x568001_1 (wrap64 ((wrap64 (1 + t596)) - 1)) 10).bind fun bt597 => ((mem_Memory_Store.f bt597.2.2.1 bt597.2.2.2 (wrap64 ((wrap64 (1 + t596)) - 1)) 1 (rd y591 t594) ((rd_T48 l0_3 x5_1).f4)).bind fun bt605 => ((mem_Memory_Load.f kj13 bt605.2.1 bt605.2.2 0 (wrap64 (1 + t596)) (rd y591 t594)).bind fun bt610 => ((mem_Memory_Read.f bt610.2.2.1 bt610.2.2.2 (wrap64 ((wrap64 (1 + t596)) - 1)) 10).bind fun bt616 => ((gangwaylaw9_num.f bt597.2.1).bind fun t624 => (if t624 = 0 then ((gangwaylaw9_num.f bt605.1).bind fun t625 => (if t625 = 0 then ((gangwaylaw9_num.f bt610.2.1).bind fun t626 => (if t626 = 0 then ((gangwaylaw9_num.f bt616.2.1).bind fun t627 => (if t627 = 0 then (if (bt597.1.length : Int) = 10 then (if (bt616.1.length : Int) = 10 then (if (rd y591 t594) < 8 then (if 0 ≤ (wrap64 (8 * (rd y591 t594))) then (if bt610.1 = (Go.bits .and .u64 ((rd_T48 l0_3 x5_1).f4) (IntKind.u64.wrap ((shl .u64 1 (wrap64 (8 * (rd y591 t594)))) - 1))) then (if (rd y591 t594) = 8 then (j3 kj13 x5_1 (rd y591 t594) bt597.1 bt616.1 (bt610.1 != ((rd_T48 l0_3 x5_1).f4)) a0_0 a0_1 a0_2 l0_3 bt616.2.2.1 bt616.2.2.2 ((rd_T48 l0_3 x5_1).f0) ((rd_T48 l0_3 x5_1).f1) ((rd_T48 l0_3 x5_1).f2) ((rd_T48 l0_3 x5_1).f3) ((rd_T48 l0_3 x5_1).f4) ((rd_T48 l0_3 x5_1).f5)) else (j3 kj13 x5_1 (rd y591 t594) bt597.1 bt616.1 false a0_0 a0_1 a0_2 l0_3 bt616.2.2.1 bt616.2.2.2 ((rd_T48 l0_3 x5_1).f0) ((rd_T48 l0_3 x5_1).f1) ((rd_T48 l0_3 x5_1).f2) ((rd_T48 l0_3 x5_1).f3) ((rd_T48 l0_3 x5_1).f4) ((rd_T48 l0_3 x5_1).f5))) else (none)) else (none)) else (if (rd y591 t594) = 8 then (j3 kj13 x5_1 (rd y591 t594) bt597.1 bt616.1 (bt610.1 != ((rd_T48 l0_3 x5_1).f4)) a0_0 a0_1 a0_2 l0_3 bt616.2.2.1 bt616.2.2.2 ((rd_T48 l0_3 x5_1).f0) ((rd_T48 l0_3 x5_1).f1) ((rd_T48 l0_3 x5_1).f2) ((rd_T48 l0_3 x5_1).f3) ((rd_T48 l0_3 x5_1).f4) ((rd_T48 l0_3 x5_1).f5)) else (j3 kj13 x5_1 (rd y591 t594) bt597.1 bt616.1 false a0_0 a0_1 a0_2 l0_3 bt616.2.2.1 bt616.2.2.2 ((rd_T48 l0_3 x5_1).f0) ((rd_T48 l0_3 x5_1).f1) ((rd_T48 l0_3 x5_1).f2) ((rd_T48 l0_3 x5_1).f3) ((rd_T48 l0_3 x5_1).f4) ((rd_T48 l0_3 x5_1).f5)))) else (none)) else (none)) else (none))) else (none))) else (none))) else (none)))))))) else (none)) else (none)))) else (none)) else (none)) = some r := by rw [if_pos rfl] at H; exact H
          clear H
          have H := H1
          clear H1
          by_cases c21 : 0 ≤ x5_1
          ·rw [if_pos c21] at H
           have c21b0 : decide (0 ≤ x5_1) = true := decide_eq_true c21
           clear c21
           by_cases c22 : x5_1 < (l0_3.length : Int)
           ·rw [if_pos c22] at H
            have c22b0 : decide (x5_1 < (l0_3.length : Int)) = true := decide_eq_true c22
            clear c22
            obtain ⟨y591, hy591⟩ : ∃ y_ : List Int, y_ = (([1, 2, 4, 8] : List Int)) := ⟨_, rfl⟩
            replace H : ((gangwaylaw0_Within.f ((rd_T48 l0_3 x5_1).f3) 4).bind fun t594 => (if 0 ≤ t594 then (if t594 < (y591.length : Int) then ((gangwaylaw0_Within.f ((rd_T48 l0_3 x5_1).f1) 65526).bind fun t596 => ((mem_Memory_Read.f x568000_1 x568001_1 (wrap64 ((wrap64 (1 + t596)) - 1)) 10).bind fun bt597 => ((mem_Memory_Store.f bt597.2.2.1 bt597.2.2.2 (wrap64 ((wrap64 (1 + t596)) - 1)) 1 (rd y591 t594) ((rd_T48 l0_3 x5_1).f4)).bind fun bt605 => ((mem_Memory_Load.f kj13 bt605.2.1 bt605.2.2 0 (wrap64 (1 + t596)) (rd y591 t594)).bind fun bt610 => ((mem_Memory_Read.f bt610.2.2.1 bt610.2.2.2 (wrap64 ((wrap64 (1 + t596)) - 1)) 10).bind fun bt616 => ((gangwaylaw9_num.f bt597.2.1).bind fun t624 => (if t624 = 0 then ((gangwaylaw9_num.f bt605.1).bind fun t625 => (if t625 = 0 then ((gangwaylaw9_num.f bt610.2.1).bind fun t626 => (if t626 = 0 then ((gangwaylaw9_num.f bt616.2.1).bind fun t627 => (if t627 = 0 then (if (bt597.1.length : Int) = 10 then (if (bt616.1.length : Int) = 10 then (if (rd y591 t594) < 8 then (if 0 ≤ (wrap64 (8 * (rd y591 t594))) then (if bt610.1 = (Go.bits .and .u64 ((rd_T48 l0_3 x5_1).f4) (IntKind.u64.wrap ((shl .u64 1 (wrap64 (8 * (rd y591 t594)))) - 1))) then (if (rd y591 t594) = 8 then (j3 kj13 x5_1 (rd y591 t594) bt597.1 bt616.1 (bt610.1 != ((rd_T48 l0_3 x5_1).f4)) a0_0 a0_1 a0_2 l0_3 bt616.2.2.1 bt616.2.2.2 ((rd_T48 l0_3 x5_1).f0) ((rd_T48 l0_3 x5_1).f1) ((rd_T48 l0_3 x5_1).f2) ((rd_T48 l0_3 x5_1).f3) ((rd_T48 l0_3 x5_1).f4) ((rd_T48 l0_3 x5_1).f5)) else (j3 kj13 x5_1 (rd y591 t594) bt597.1 bt616.1 false a0_0 a0_1 a0_2 l0_3 bt616.2.2.1 bt616.2.2.2 ((rd_T48 l0_3 x5_1).f0) ((rd_T48 l0_3 x5_1).f1) ((rd_T48 l0_3 x5_1).f2) ((rd_T48 l0_3 x5_1).f3) ((rd_T48 l0_3 x5_1).f4) ((rd_T48 l0_3 x5_1).f5))) else (none)) else (none)) else (if (rd y591 t594) = 8 then (j3 kj13 x5_1 (rd y591 t594) bt597.1 bt616.1 (bt610.1 != ((rd_T48 l0_3 x5_1).f4)) a0_0 a0_1 a0_2 l0_3 bt616.2.2.1 bt616.2.2.2 ((rd_T48 l0_3 x5_1).f0) ((rd_T48 l0_3 x5_1).f1) ((rd_T48 l0_3 x5_1).f2) ((rd_T48 l0_3 x5_1).f3) ((rd_T48 l0_3 x5_1).f4) ((rd_T48 l0_3 x5_1).f5)) else (j3 kj13 x5_1 (rd y591 t594) bt597.1 bt616.1 false a0_0 a0_1 a0_2 l0_3 bt616.2.2.1 bt616.2.2.2 ((rd_T48 l0_3 x5_1).f0) ((rd_T48 l0_3 x5_1).f1) ((rd_T48 l0_3 x5_1).f2) ((rd_T48 l0_3 x5_1).f3) ((rd_T48 l0_3 x5_1).f4) ((rd_T48 l0_3 x5_1).f5)))) else (none)) else (none)) else (none))) else (none))) else (none))) else (none)))))))) else (none)) else (none))) = some r := by first | (rw [hy591]; with_reducible exact H) | (have H2_ := (Option.bind_some _ _).symm.trans H; rw [hy591]; with_reducible exact H2_) | (have H2_ := (Option.bind_some _ _).symm.trans H; with_reducible exact H2_) | with_reducible exact H | (rw [hy591]; exact H) | exact H
            have Ny591 := Aside0.mk hy591
            clear hy591
            replace H := Option.bind_eq_some_iff.mp H
            obtain ⟨t594, A230, H⟩ := H
            replace H : (if 0 ≤ t594 then (if t594 < (y591.length : Int) then ((gangwaylaw0_Within.f ((rd_T48 l0_3 x5_1).f1) 65526).bind fun t596 => ((mem_Memory_Read.f x568000_1 x568001_1 (wrap64 ((wrap64 (1 + t596)) - 1)) 10).bind fun bt597 => ((mem_Memory_Store.f bt597.2.2.1 bt597.2.2.2 (wrap64 ((wrap64 (1 + t596)) - 1)) 1 (rd y591 t594) ((rd_T48 l0_3 x5_1).f4)).bind fun bt605 => ((mem_Memory_Load.f kj13 bt605.2.1 bt605.2.2 0 (wrap64 (1 + t596)) (rd y591 t594)).bind fun bt610 => ((mem_Memory_Read.f bt610.2.2.1 bt610.2.2.2 (wrap64 ((wrap64 (1 + t596)) - 1)) 10).bind fun bt616 => ((gangwaylaw9_num.f bt597.2.1).bind fun t624 => (if t624 = 0 then ((gangwaylaw9_num.f bt605.1).bind fun t625 => (if t625 = 0 then ((gangwaylaw9_num.f bt610.2.1).bind fun t626 => (if t626 = 0 then ((gangwaylaw9_num.f bt616.2.1).bind fun t627 => (if t627 = 0 then (if (bt597.1.length : Int) = 10 then (if (bt616.1.length : Int) = 10 then (if (rd y591 t594) < 8 then (if 0 ≤ (wrap64 (8 * (rd y591 t594))) then (if bt610.1 = (Go.bits .and .u64 ((rd_T48 l0_3 x5_1).f4) (IntKind.u64.wrap ((shl .u64 1 (wrap64 (8 * (rd y591 t594)))) - 1))) then (if (rd y591 t594) = 8 then (j3 kj13 x5_1 (rd y591 t594) bt597.1 bt616.1 (bt610.1 != ((rd_T48 l0_3 x5_1).f4)) a0_0 a0_1 a0_2 l0_3 bt616.2.2.1 bt616.2.2.2 ((rd_T48 l0_3 x5_1).f0) ((rd_T48 l0_3 x5_1).f1) ((rd_T48 l0_3 x5_1).f2) ((rd_T48 l0_3 x5_1).f3) ((rd_T48 l0_3 x5_1).f4) ((rd_T48 l0_3 x5_1).f5)) else (j3 kj13 x5_1 (rd y591 t594) bt597.1 bt616.1 false a0_0 a0_1 a0_2 l0_3 bt616.2.2.1 bt616.2.2.2 ((rd_T48 l0_3 x5_1).f0) ((rd_T48 l0_3 x5_1).f1) ((rd_T48 l0_3 x5_1).f2) ((rd_T48 l0_3 x5_1).f3) ((rd_T48 l0_3 x5_1).f4) ((rd_T48 l0_3 x5_1).f5))) else (none)) else (none)) else (if (rd y591 t594) = 8 then (j3 kj13 x5_1 (rd y591 t594) bt597.1 bt616.1 (bt610.1 != ((rd_T48 l0_3 x5_1).f4)) a0_0 a0_1 a0_2 l0_3 bt616.2.2.1 bt616.2.2.2 ((rd_T48 l0_3 x5_1).f0) ((rd_T48 l0_3 x5_1).f1) ((rd_T48 l0_3 x5_1).f2) ((rd_T48 l0_3 x5_1).f3) ((rd_T48 l0_3 x5_1).f4) ((rd_T48 l0_3 x5_1).f5)) else (j3 kj13 x5_1 (rd y591 t594) bt597.1 bt616.1 false a0_0 a0_1 a0_2 l0_3 bt616.2.2.1 bt616.2.2.2 ((rd_T48 l0_3 x5_1).f0) ((rd_T48 l0_3 x5_1).f1) ((rd_T48 l0_3 x5_1).f2) ((rd_T48 l0_3 x5_1).f3) ((rd_T48 l0_3 x5_1).f4) ((rd_T48 l0_3 x5_1).f5)))) else (none)) else (none)) else (none))) else (none))) else (none))) else (none)))))))) else (none)) else (none)) = some r := H
            have A23 := Aside0.mk A230
            clear A230
            by_cases c24 : 0 ≤ t594
            ·rw [if_pos c24] at H
             have c24b0 : decide (0 ≤ t594) = true := decide_eq_true c24
             clear c24
             by_cases c25 : t594 < (y591.length : Int)
             ·rw [if_pos c25] at H
              have c25b0 : decide (t594 < (y591.length : Int)) = true := decide_eq_true c25
              clear c25
              replace H := Option.bind_eq_some_iff.mp H
              obtain ⟨t596, A260, H⟩ := H
              replace H : ((mem_Memory_Read.f x568000_1 x568001_1 (wrap64 ((wrap64 (1 + t596)) - 1)) 10).bind fun bt597 => ((mem_Memory_Store.f bt597.2.2.1 bt597.2.2.2 (wrap64 ((wrap64 (1 + t596)) - 1)) 1 (rd y591 t594) ((rd_T48 l0_3 x5_1).f4)).bind fun bt605 => ((mem_Memory_Load.f kj13 bt605.2.1 bt605.2.2 0 (wrap64 (1 + t596)) (rd y591 t594)).bind fun bt610 => ((mem_Memory_Read.f bt610.2.2.1 bt610.2.2.2 (wrap64 ((wrap64 (1 + t596)) - 1)) 10).bind fun bt616 => ((gangwaylaw9_num.f bt597.2.1).bind fun t624 => (if t624 = 0 then ((gangwaylaw9_num.f bt605.1).bind fun t625 => (if t625 = 0 then ((gangwaylaw9_num.f bt610.2.1).bind fun t626 => (if t626 = 0 then ((gangwaylaw9_num.f bt616.2.1).bind fun t627 => (if t627 = 0 then (if (bt597.1.length : Int) = 10 then (if (bt616.1.length : Int) = 10 then (if (rd y591 t594) < 8 then (if 0 ≤ (wrap64 (8 * (rd y591 t594))) then (if bt610.1 = (Go.bits .and .u64 ((rd_T48 l0_3 x5_1).f4) (IntKind.u64.wrap ((shl .u64 1 (wrap64 (8 * (rd y591 t594)))) - 1))) then (if (rd y591 t594) = 8 then (j3 kj13 x5_1 (rd y591 t594) bt597.1 bt616.1 (bt610.1 != ((rd_T48 l0_3 x5_1).f4)) a0_0 a0_1 a0_2 l0_3 bt616.2.2.1 bt616.2.2.2 ((rd_T48 l0_3 x5_1).f0) ((rd_T48 l0_3 x5_1).f1) ((rd_T48 l0_3 x5_1).f2) ((rd_T48 l0_3 x5_1).f3) ((rd_T48 l0_3 x5_1).f4) ((rd_T48 l0_3 x5_1).f5)) else (j3 kj13 x5_1 (rd y591 t594) bt597.1 bt616.1 false a0_0 a0_1 a0_2 l0_3 bt616.2.2.1 bt616.2.2.2 ((rd_T48 l0_3 x5_1).f0) ((rd_T48 l0_3 x5_1).f1) ((rd_T48 l0_3 x5_1).f2) ((rd_T48 l0_3 x5_1).f3) ((rd_T48 l0_3 x5_1).f4) ((rd_T48 l0_3 x5_1).f5))) else (none)) else (none)) else (if (rd y591 t594) = 8 then (j3 kj13 x5_1 (rd y591 t594) bt597.1 bt616.1 (bt610.1 != ((rd_T48 l0_3 x5_1).f4)) a0_0 a0_1 a0_2 l0_3 bt616.2.2.1 bt616.2.2.2 ((rd_T48 l0_3 x5_1).f0) ((rd_T48 l0_3 x5_1).f1) ((rd_T48 l0_3 x5_1).f2) ((rd_T48 l0_3 x5_1).f3) ((rd_T48 l0_3 x5_1).f4) ((rd_T48 l0_3 x5_1).f5)) else (j3 kj13 x5_1 (rd y591 t594) bt597.1 bt616.1 false a0_0 a0_1 a0_2 l0_3 bt616.2.2.1 bt616.2.2.2 ((rd_T48 l0_3 x5_1).f0) ((rd_T48 l0_3 x5_1).f1) ((rd_T48 l0_3 x5_1).f2) ((rd_T48 l0_3 x5_1).f3) ((rd_T48 l0_3 x5_1).f4) ((rd_T48 l0_3 x5_1).f5)))) else (none)) else (none)) else (none))) else (none))) else (none))) else (none))))))) = some r := H
              have A26 := Aside0.mk A260
              clear A260
              replace H := Option.bind_eq_some_iff.mp H
              obtain ⟨⟨t597, t600, t601, t604⟩, A270, H⟩ := H
              replace H : ((mem_Memory_Store.f t601 t604 (wrap64 ((wrap64 (1 + t596)) - 1)) 1 (rd y591 t594) ((rd_T48 l0_3 x5_1).f4)).bind fun bt605 => ((mem_Memory_Load.f kj13 bt605.2.1 bt605.2.2 0 (wrap64 (1 + t596)) (rd y591 t594)).bind fun bt610 => ((mem_Memory_Read.f bt610.2.2.1 bt610.2.2.2 (wrap64 ((wrap64 (1 + t596)) - 1)) 10).bind fun bt616 => ((gangwaylaw9_num.f t600).bind fun t624 => (if t624 = 0 then ((gangwaylaw9_num.f bt605.1).bind fun t625 => (if t625 = 0 then ((gangwaylaw9_num.f bt610.2.1).bind fun t626 => (if t626 = 0 then ((gangwaylaw9_num.f bt616.2.1).bind fun t627 => (if t627 = 0 then (if (t597.length : Int) = 10 then (if (bt616.1.length : Int) = 10 then (if (rd y591 t594) < 8 then (if 0 ≤ (wrap64 (8 * (rd y591 t594))) then (if bt610.1 = (Go.bits .and .u64 ((rd_T48 l0_3 x5_1).f4) (IntKind.u64.wrap ((shl .u64 1 (wrap64 (8 * (rd y591 t594)))) - 1))) then (if (rd y591 t594) = 8 then (j3 kj13 x5_1 (rd y591 t594) t597 bt616.1 (bt610.1 != ((rd_T48 l0_3 x5_1).f4)) a0_0 a0_1 a0_2 l0_3 bt616.2.2.1 bt616.2.2.2 ((rd_T48 l0_3 x5_1).f0) ((rd_T48 l0_3 x5_1).f1) ((rd_T48 l0_3 x5_1).f2) ((rd_T48 l0_3 x5_1).f3) ((rd_T48 l0_3 x5_1).f4) ((rd_T48 l0_3 x5_1).f5)) else (j3 kj13 x5_1 (rd y591 t594) t597 bt616.1 false a0_0 a0_1 a0_2 l0_3 bt616.2.2.1 bt616.2.2.2 ((rd_T48 l0_3 x5_1).f0) ((rd_T48 l0_3 x5_1).f1) ((rd_T48 l0_3 x5_1).f2) ((rd_T48 l0_3 x5_1).f3) ((rd_T48 l0_3 x5_1).f4) ((rd_T48 l0_3 x5_1).f5))) else (none)) else (none)) else (if (rd y591 t594) = 8 then (j3 kj13 x5_1 (rd y591 t594) t597 bt616.1 (bt610.1 != ((rd_T48 l0_3 x5_1).f4)) a0_0 a0_1 a0_2 l0_3 bt616.2.2.1 bt616.2.2.2 ((rd_T48 l0_3 x5_1).f0) ((rd_T48 l0_3 x5_1).f1) ((rd_T48 l0_3 x5_1).f2) ((rd_T48 l0_3 x5_1).f3) ((rd_T48 l0_3 x5_1).f4) ((rd_T48 l0_3 x5_1).f5)) else (j3 kj13 x5_1 (rd y591 t594) t597 bt616.1 false a0_0 a0_1 a0_2 l0_3 bt616.2.2.1 bt616.2.2.2 ((rd_T48 l0_3 x5_1).f0) ((rd_T48 l0_3 x5_1).f1) ((rd_T48 l0_3 x5_1).f2) ((rd_T48 l0_3 x5_1).f3) ((rd_T48 l0_3 x5_1).f4) ((rd_T48 l0_3 x5_1).f5)))) else (none)) else (none)) else (none))) else (none))) else (none))) else (none)))))) = some r := H
              have A27 := Aside0.mk A270
              clear A270
              replace H := Option.bind_eq_some_iff.mp H
              obtain ⟨⟨t605, t606, t609⟩, A280, H⟩ := H
              replace H : ((mem_Memory_Load.f kj13 t606 t609 0 (wrap64 (1 + t596)) (rd y591 t594)).bind fun bt610 => ((mem_Memory_Read.f bt610.2.2.1 bt610.2.2.2 (wrap64 ((wrap64 (1 + t596)) - 1)) 10).bind fun bt616 => ((gangwaylaw9_num.f t600).bind fun t624 => (if t624 = 0 then ((gangwaylaw9_num.f t605).bind fun t625 => (if t625 = 0 then ((gangwaylaw9_num.f bt610.2.1).bind fun t626 => (if t626 = 0 then ((gangwaylaw9_num.f bt616.2.1).bind fun t627 => (if t627 = 0 then (if (t597.length : Int) = 10 then (if (bt616.1.length : Int) = 10 then (if (rd y591 t594) < 8 then (if 0 ≤ (wrap64 (8 * (rd y591 t594))) then (if bt610.1 = (Go.bits .and .u64 ((rd_T48 l0_3 x5_1).f4) (IntKind.u64.wrap ((shl .u64 1 (wrap64 (8 * (rd y591 t594)))) - 1))) then (if (rd y591 t594) = 8 then (j3 kj13 x5_1 (rd y591 t594) t597 bt616.1 (bt610.1 != ((rd_T48 l0_3 x5_1).f4)) a0_0 a0_1 a0_2 l0_3 bt616.2.2.1 bt616.2.2.2 ((rd_T48 l0_3 x5_1).f0) ((rd_T48 l0_3 x5_1).f1) ((rd_T48 l0_3 x5_1).f2) ((rd_T48 l0_3 x5_1).f3) ((rd_T48 l0_3 x5_1).f4) ((rd_T48 l0_3 x5_1).f5)) else (j3 kj13 x5_1 (rd y591 t594) t597 bt616.1 false a0_0 a0_1 a0_2 l0_3 bt616.2.2.1 bt616.2.2.2 ((rd_T48 l0_3 x5_1).f0) ((rd_T48 l0_3 x5_1).f1) ((rd_T48 l0_3 x5_1).f2) ((rd_T48 l0_3 x5_1).f3) ((rd_T48 l0_3 x5_1).f4) ((rd_T48 l0_3 x5_1).f5))) else (none)) else (none)) else (if (rd y591 t594) = 8 then (j3 kj13 x5_1 (rd y591 t594) t597 bt616.1 (bt610.1 != ((rd_T48 l0_3 x5_1).f4)) a0_0 a0_1 a0_2 l0_3 bt616.2.2.1 bt616.2.2.2 ((rd_T48 l0_3 x5_1).f0) ((rd_T48 l0_3 x5_1).f1) ((rd_T48 l0_3 x5_1).f2) ((rd_T48 l0_3 x5_1).f3) ((rd_T48 l0_3 x5_1).f4) ((rd_T48 l0_3 x5_1).f5)) else (j3 kj13 x5_1 (rd y591 t594) t597 bt616.1 false a0_0 a0_1 a0_2 l0_3 bt616.2.2.1 bt616.2.2.2 ((rd_T48 l0_3 x5_1).f0) ((rd_T48 l0_3 x5_1).f1) ((rd_T48 l0_3 x5_1).f2) ((rd_T48 l0_3 x5_1).f3) ((rd_T48 l0_3 x5_1).f4) ((rd_T48 l0_3 x5_1).f5)))) else (none)) else (none)) else (none))) else (none))) else (none))) else (none))))) = some r := H
              have A28 := Aside0.mk A280
              clear A280
              replace H := Option.bind_eq_some_iff.mp H
              obtain ⟨⟨t610, t611, t612, t615⟩, A290, H⟩ := H
              replace H : ((mem_Memory_Read.f t612 t615 (wrap64 ((wrap64 (1 + t596)) - 1)) 10).bind fun bt616 => ((gangwaylaw9_num.f t600).bind fun t624 => (if t624 = 0 then ((gangwaylaw9_num.f t605).bind fun t625 => (if t625 = 0 then ((gangwaylaw9_num.f t611).bind fun t626 => (if t626 = 0 then ((gangwaylaw9_num.f bt616.2.1).bind fun t627 => (if t627 = 0 then (if (t597.length : Int) = 10 then (if (bt616.1.length : Int) = 10 then (if (rd y591 t594) < 8 then (if 0 ≤ (wrap64 (8 * (rd y591 t594))) then (if t610 = (Go.bits .and .u64 ((rd_T48 l0_3 x5_1).f4) (IntKind.u64.wrap ((shl .u64 1 (wrap64 (8 * (rd y591 t594)))) - 1))) then (if (rd y591 t594) = 8 then (j3 kj13 x5_1 (rd y591 t594) t597 bt616.1 (t610 != ((rd_T48 l0_3 x5_1).f4)) a0_0 a0_1 a0_2 l0_3 bt616.2.2.1 bt616.2.2.2 ((rd_T48 l0_3 x5_1).f0) ((rd_T48 l0_3 x5_1).f1) ((rd_T48 l0_3 x5_1).f2) ((rd_T48 l0_3 x5_1).f3) ((rd_T48 l0_3 x5_1).f4) ((rd_T48 l0_3 x5_1).f5)) else (j3 kj13 x5_1 (rd y591 t594) t597 bt616.1 false a0_0 a0_1 a0_2 l0_3 bt616.2.2.1 bt616.2.2.2 ((rd_T48 l0_3 x5_1).f0) ((rd_T48 l0_3 x5_1).f1) ((rd_T48 l0_3 x5_1).f2) ((rd_T48 l0_3 x5_1).f3) ((rd_T48 l0_3 x5_1).f4) ((rd_T48 l0_3 x5_1).f5))) else (none)) else (none)) else (if (rd y591 t594) = 8 then (j3 kj13 x5_1 (rd y591 t594) t597 bt616.1 (t610 != ((rd_T48 l0_3 x5_1).f4)) a0_0 a0_1 a0_2 l0_3 bt616.2.2.1 bt616.2.2.2 ((rd_T48 l0_3 x5_1).f0) ((rd_T48 l0_3 x5_1).f1) ((rd_T48 l0_3 x5_1).f2) ((rd_T48 l0_3 x5_1).f3) ((rd_T48 l0_3 x5_1).f4) ((rd_T48 l0_3 x5_1).f5)) else (j3 kj13 x5_1 (rd y591 t594) t597 bt616.1 false a0_0 a0_1 a0_2 l0_3 bt616.2.2.1 bt616.2.2.2 ((rd_T48 l0_3 x5_1).f0) ((rd_T48 l0_3 x5_1).f1) ((rd_T48 l0_3 x5_1).f2) ((rd_T48 l0_3 x5_1).f3) ((rd_T48 l0_3 x5_1).f4) ((rd_T48 l0_3 x5_1).f5)))) else (none)) else (none)) else (none))) else (none))) else (none))) else (none)))) = some r := H
              have A29 := Aside0.mk A290
              clear A290
              replace H := Option.bind_eq_some_iff.mp H
              obtain ⟨⟨t616, t619, t620, t623⟩, A300, H⟩ := H
              replace H : ((gangwaylaw9_num.f t600).bind fun t624 => (if t624 = 0 then ((gangwaylaw9_num.f t605).bind fun t625 => (if t625 = 0 then ((gangwaylaw9_num.f t611).bind fun t626 => (if t626 = 0 then ((gangwaylaw9_num.f t619).bind fun t627 => (if t627 = 0 then (if (t597.length : Int) = 10 then (if (t616.length : Int) = 10 then (if (rd y591 t594) < 8 then (if 0 ≤ (wrap64 (8 * (rd y591 t594))) then (if t610 = (Go.bits .and .u64 ((rd_T48 l0_3 x5_1).f4) (IntKind.u64.wrap ((shl .u64 1 (wrap64 (8 * (rd y591 t594)))) - 1))) then (if (rd y591 t594) = 8 then (j3 kj13 x5_1 (rd y591 t594) t597 t616 (t610 != ((rd_T48 l0_3 x5_1).f4)) a0_0 a0_1 a0_2 l0_3 t620 t623 ((rd_T48 l0_3 x5_1).f0) ((rd_T48 l0_3 x5_1).f1) ((rd_T48 l0_3 x5_1).f2) ((rd_T48 l0_3 x5_1).f3) ((rd_T48 l0_3 x5_1).f4) ((rd_T48 l0_3 x5_1).f5)) else (j3 kj13 x5_1 (rd y591 t594) t597 t616 false a0_0 a0_1 a0_2 l0_3 t620 t623 ((rd_T48 l0_3 x5_1).f0) ((rd_T48 l0_3 x5_1).f1) ((rd_T48 l0_3 x5_1).f2) ((rd_T48 l0_3 x5_1).f3) ((rd_T48 l0_3 x5_1).f4) ((rd_T48 l0_3 x5_1).f5))) else (none)) else (none)) else (if (rd y591 t594) = 8 then (j3 kj13 x5_1 (rd y591 t594) t597 t616 (t610 != ((rd_T48 l0_3 x5_1).f4)) a0_0 a0_1 a0_2 l0_3 t620 t623 ((rd_T48 l0_3 x5_1).f0) ((rd_T48 l0_3 x5_1).f1) ((rd_T48 l0_3 x5_1).f2) ((rd_T48 l0_3 x5_1).f3) ((rd_T48 l0_3 x5_1).f4) ((rd_T48 l0_3 x5_1).f5)) else (j3 kj13 x5_1 (rd y591 t594) t597 t616 false a0_0 a0_1 a0_2 l0_3 t620 t623 ((rd_T48 l0_3 x5_1).f0) ((rd_T48 l0_3 x5_1).f1) ((rd_T48 l0_3 x5_1).f2) ((rd_T48 l0_3 x5_1).f3) ((rd_T48 l0_3 x5_1).f4) ((rd_T48 l0_3 x5_1).f5)))) else (none)) else (none)) else (none))) else (none))) else (none))) else (none))) = some r := H
              have A30 := Aside0.mk A300
              clear A300
              have HC31 := Aside0.mk H
              clear H
              have hnb32 := NB561_567.out
              have hnc32 := NB567_561.out
              have hcz33_0 : wc.cell? ⟨gb561, 0, none⟩ = some (.int .i64 a0_0) := bc BK561 0
              have hcz33_1 : wc.cell? ⟨gb561, 1, none⟩ = some (.int .i64 a0_1) := bc BK561 1
              have hcz33_2 : wc.cell? ⟨gb561, 2, none⟩ = some (.int .i64 a0_2) := bc BK561 2
              have hcz33_3 : wc.cell? ⟨gb561, 3, none⟩ = some (.slice A0_3 l0_3.length c0_3) := bc BK561 3
              have hfz33_0 := blk_frozen BK561.out 0
              have hfz33_1 := blk_frozen BK561.out 1
              have hfz33_2 := blk_frozen BK561.out 2
              have hfz33_3 := blk_frozen BK561.out 3
              have p589 : 0 ≤ (x5_1 : Int) := of_decide_eq_true (by first | (with_reducible assumption) | assumption)
              have q589 : x5_1 < (l0_3.length : Int) := of_decide_eq_true (by first | (with_reducible assumption) | assumption)
              obtain ⟨ad589, A589_5, c589_5, e589, hx589_0, hx589_1, hx589_2, hx589_3, hx589_4, hx589_5, hl589_5, hi589_5⟩ := at_T48 HR0_3.out x5_1 p589 q589
              cases e589
              replace hx589_0 := up HB hx589_0
              replace hx589_1 := up HB hx589_1
              replace hx589_2 := up HB hx589_2
              replace hx589_3 := up HB hx589_3
              replace hx589_4 := up HB hx589_4
              replace hx589_5 := up HB hx589_5
              have HR589_5 := Aside0.mk hi589_5
              have HC589_5 := Aside0.mk hl589_5
              clear hi589_5 hl589_5
              replace p589 := eq_true p589
              replace q589 := eq_true q589
              go_upto_region 14 with (first | ((with_reducible refine gate_dst (N := 6) rfl ?_); (try (refine gate_guard (by rfl) ?_; dsimp only)); refine box_event ?hg (N := 6) ?hd (cs := #[.int .i64 0, .int .i64 0, .int .i64 0, .int .i64 0, .int .u64 0, .slice none 0 0]) (t := 48) ?hr ?_; (case hd => rfl); (case hg => rfl); (case hr => first | (go_simp; done) | (go_simp; rfl)); intro gb590 hg w34 hbox hb; have n0_ := Aside0.mk (Kd.R_below (by (with_reducible repeat (first | apply Kd.R_alloc | apply Kd.R_drewN | apply Kd.R_drew)); exact HO_568000.out) hb); have n1_ := Aside0.mk (bbelow BK561 (by (with_reducible repeat (first | refine blk_drewN ?_ _ | refine blk_drew ?_ | refine blk_alloc ?_ _)); exact BK561.out) hb); have n2_ := Aside0.mk (IsS61.below (by repeat (first | (with_reducible first | exact HI567.out | apply IsS61.alloc | apply IsS61.drewN | apply IsS61.drew | apply IsS61.set_0 | apply IsS61.set_1 | refine IsS61.far ?_ NB567_561.out _) | exact HI567.out)) hb); have n3_ := Aside0.mk (below_step (by repeat (first | (with_reducible first | exact HB.out | apply below_alloc | apply pw_below_drewN | apply below_drew1 | refine below_set ?_ (IsS61.ge HI567.out) | refine below_set ?_ GE561.out) | exact HB.out)) hb); have n4_ := Aside0.mk (hbox); have n5_ := Aside0.mk ((by rw [hg]; exact (below_size (by repeat (first | (with_reducible first | exact HB.out | apply below_alloc | apply pw_below_drewN | apply below_drew1 | refine below_set ?_ (IsS61.ge HI567.out) | refine below_set ?_ GE561.out) | exact HB.out))) : w.heap.size ≤ gb590)); have n6_ := Aside0.mk ((by rw [hg]; exact (below_size (by repeat (first | (with_reducible first | exact HB.out | apply below_alloc | apply pw_below_drewN | apply below_drew1 | refine below_set ?_ (IsS61.ge HI567.out) | refine below_set ?_ GE561.out) | exact HB.out))) : w.heap.size ≤ gb590)); have n7_ := Aside0.mk ((by rw [hg]; exact Nat.ne_of_lt (blk_lt (g := gb561) (o := .cells #[.int .i64 a0_0, .int .i64 a0_1, .int .i64 a0_2, .slice (some ad589) l0_3.length c0_3] 26 (0, 0)) (by (with_reducible repeat (first | refine blk_drewN ?_ _ | refine blk_drew ?_ | refine blk_alloc ?_ _)); exact BK561.out)) : gb561 ≠ gb590)); have n8_ := Aside0.mk ((by rw [hg]; exact Nat.ne_of_gt (blk_lt (g := gb561) (o := .cells #[.int .i64 a0_0, .int .i64 a0_1, .int .i64 a0_2, .slice (some ad589) l0_3.length c0_3] 26 (0, 0)) (by (with_reducible repeat (first | refine blk_drewN ?_ _ | refine blk_drew ?_ | refine blk_alloc ?_ _)); exact BK561.out)) : gb590 ≠ gb561)); have n9_ := Aside0.mk ((by rw [hg]; exact Nat.ne_of_lt (IsS61.lt (show IsS61 w _ g567 u568000 x568001_1 from by repeat (first | (with_reducible first | exact HI567.out | apply IsS61.alloc | apply IsS61.drewN | apply IsS61.drew | apply IsS61.set_0 | apply IsS61.set_1 | refine IsS61.far ?_ NB567_561.out _) | exact HI567.out))) : g567 ≠ gb590)); have n10_ := Aside0.mk ((by rw [hg]; exact Nat.ne_of_gt (IsS61.lt (show IsS61 w _ g567 u568000 x568001_1 from by repeat (first | (with_reducible first | exact HI567.out | apply IsS61.alloc | apply IsS61.drewN | apply IsS61.drew | apply IsS61.set_0 | apply IsS61.set_1 | refine IsS61.far ?_ NB567_561.out _) | exact HI567.out))) : gb590 ≠ g567)); clear HO_568000; clear BK561; clear HI567; clear HB; have HO_568000 := n0_; have BK561 := n1_; have HI567 := n2_; have HB := n3_; have BK590 := n4_; have GW590 := n5_; have GE590 := n6_; have NB561_590 := n7_; have NB590_561 := n8_; have NB567_590 := n9_; have NB590_567 := n10_; clear n0_ n1_ n2_ n3_ n4_ n5_ n6_ n7_ n8_ n9_ n10_; clear hb hbox hg; have hnb35 := NB590_561.out; have hnc35 := NB561_590.out; have hnb36 := NB590_567.out; have hnc36 := NB567_590.out; have hcz37_0 : w34.cell? ⟨gb590, 0, none⟩ = some (.int .i64 0) := (bc BK590 0); have hcz37_1 : w34.cell? ⟨gb590, 1, none⟩ = some (.int .i64 0) := (bc BK590 1); have hcz37_2 : w34.cell? ⟨gb590, 2, none⟩ = some (.int .i64 0) := (bc BK590 2); have hcz37_3 : w34.cell? ⟨gb590, 3, none⟩ = some (.int .i64 0) := (bc BK590 3); have hcz37_4 : w34.cell? ⟨gb590, 4, none⟩ = some (.int .u64 0) := (bc BK590 4); have hcz37_5 : w34.cell? ⟨gb590, 5, none⟩ = some (.slice none 0 0) := (bc BK590 5); have hfz37_0 := blk_frozen BK590.out 0; have hfz37_1 := blk_frozen BK590.out 1; have hfz37_2 := blk_frozen BK590.out 2; have hfz37_3 := blk_frozen BK590.out 3; have hfz37_4 := blk_frozen BK590.out 4; have hfz37_5 := blk_frozen BK590.out 5) | ((with_reducible refine gate_dst (N := 58) rfl ?_); (try (refine gate_guard (by rfl) ?_; dsimp only)); refine Kd.R_lit (Kd.int .i64) _ 3 ?hg (N := 58) ?hd (xs := ([1, 2, 4, 8] : List Int)) (inner := [.int .i64 1, .int .i64 2, .int .i64 4, .int .i64 8]) (ok := fun _ => True) (okp := fun _ => True) ?hr ?hp (fun _ hk => hk) trivial (Below.refl _ _) (Nat.le_refl _) (by simp) ?_; (case hd => rfl); (case hg => rfl); (case hr => first | (go_simp; done) | (go_simp; rfl)); (case hp => exact (Reps.one (show Kd.M (Kd.int .i64) _ _ _ 1 [.int .i64 1] from rfl) (Reps.one (show Kd.M (Kd.int .i64) _ _ _ 2 [.int .i64 2] from rfl) (Reps.one (show Kd.M (Kd.int .i64) _ _ _ 4 [.int .i64 4] from rfl) (Reps.one (show Kd.M (Kd.int .i64) _ _ _ 8 [.int .i64 8] from rfl) (Reps.none _ _)))))); intro v592 w38 ho39 hb hg_ hnew_; clear hg_ hnew_; (first | rw [← Ny591.out] at ho39 | (simp only [Int.reduceToNat] at ho39; rw [← Ny591.out] at ho39)); have n0_ := Aside0.mk (Kd.R_below (by (with_reducible repeat (first | apply Kd.R_alloc | apply Kd.R_drewN | apply Kd.R_drew)); exact (Kd.R_mono (Kd.R_far (p := ⟨gb590, 5, none⟩) (Kd.R_far (p := ⟨gb590, 4, none⟩) (Kd.R_far (p := ⟨gb590, 3, none⟩) (Kd.R_far (p := ⟨gb590, 2, none⟩) (Kd.R_far (p := ⟨gb590, 1, none⟩) (Kd.R_far (p := ⟨gb590, 0, none⟩) (Kd.R_types HO_568000.out BK590.out (by decide)) (fun _ hk => hk.2) (.int .i64 ((rd_T48 l0_3 x5_1).f0))) (fun _ hk => hk.2) (.int .i64 ((rd_T48 l0_3 x5_1).f1))) (fun _ hk => hk.2) (.int .i64 ((rd_T48 l0_3 x5_1).f2))) (fun _ hk => hk.2) (.int .i64 ((rd_T48 l0_3 x5_1).f3))) (fun _ hk => hk.2) (.int .u64 ((rd_T48 l0_3 x5_1).f4))) (fun _ hk => hk.2) (.slice A589_5 ((rd_T48 l0_3 x5_1).f5).length c589_5)) (fun _ h_ => h_.1))) hb); have n1_ := Aside0.mk (Kd.R_lower ho39 (below_size (by repeat (first | (with_reducible first | exact HB.out | apply below_alloc | apply pw_below_drewN | apply below_drew1 | refine below_set ?_ (IsS61.ge HI567.out) | refine below_set ?_ GE561.out | refine below_set ?_ GE590.out) | exact HB.out)))); have n2_ := Aside0.mk (bbelow BK561 (by (with_reducible repeat (first | refine blk_drewN ?_ _ | refine blk_drew ?_ | refine blk_alloc ?_ _)); refine blk_far ?_ NB561_590.out _; (with_reducible repeat (first | refine blk_drewN ?_ _ | refine blk_drew ?_ | refine blk_alloc ?_ _)); refine blk_far ?_ NB561_590.out _; (with_reducible repeat (first | refine blk_drewN ?_ _ | refine blk_drew ?_ | refine blk_alloc ?_ _)); refine blk_far ?_ NB561_590.out _; (with_reducible repeat (first | refine blk_drewN ?_ _ | refine blk_drew ?_ | refine blk_alloc ?_ _)); refine blk_far ?_ NB561_590.out _; (with_reducible repeat (first | refine blk_drewN ?_ _ | refine blk_drew ?_ | refine blk_alloc ?_ _)); refine blk_far ?_ NB561_590.out _; (with_reducible repeat (first | refine blk_drewN ?_ _ | refine blk_drew ?_ | refine blk_alloc ?_ _)); refine blk_far ?_ NB561_590.out _; (with_reducible repeat (first | refine blk_drewN ?_ _ | refine blk_drew ?_ | refine blk_alloc ?_ _)); exact BK561.out) hb); have n3_ := Aside0.mk (IsS61.below (show IsS61 w ((((((w34.setCell ⟨gb590, 0, none⟩ (.int .i64 ((rd_T48 l0_3 x5_1).f0))).setCell ⟨gb590, 1, none⟩ (.int .i64 ((rd_T48 l0_3 x5_1).f1))).setCell ⟨gb590, 2, none⟩ (.int .i64 ((rd_T48 l0_3 x5_1).f2))).setCell ⟨gb590, 3, none⟩ (.int .i64 ((rd_T48 l0_3 x5_1).f3))).setCell ⟨gb590, 4, none⟩ (.int .u64 ((rd_T48 l0_3 x5_1).f4))).setCell ⟨gb590, 5, none⟩ (.slice A589_5 ((rd_T48 l0_3 x5_1).f5).length c589_5)) g567 u568000 x568001_1 from by repeat (first | (with_reducible first | exact HI567.out | apply IsS61.alloc | apply IsS61.drewN | apply IsS61.drew | apply IsS61.set_0 | apply IsS61.set_1 | refine IsS61.far ?_ NB567_561.out _ | refine IsS61.far ?_ NB567_590.out _) | exact HI567.out)) hb); have n4_ := Aside0.mk (blk_below (g := gb590) (o := .cells #[.int .i64 ((rd_T48 l0_3 x5_1).f0), .int .i64 ((rd_T48 l0_3 x5_1).f1), .int .i64 ((rd_T48 l0_3 x5_1).f2), .int .i64 ((rd_T48 l0_3 x5_1).f3), .int .u64 ((rd_T48 l0_3 x5_1).f4), .slice A589_5 ((rd_T48 l0_3 x5_1).f5).length c589_5] 48 (0, 0)) (by (with_reducible repeat (first | refine blk_drewN ?_ _ | refine blk_drew ?_ | refine blk_alloc ?_ _)); refine Go.Proofs.YtjmajhalgdeicaaO.puts (cs := #[.int .i64 0, .int .i64 0, .int .i64 0, .int .i64 0, .int .u64 0, .slice none 0 0]) [_, _, _, _, _, _] ?_ rfl; (with_reducible repeat (first | refine blk_drewN ?_ _ | refine blk_drew ?_ | refine blk_alloc ?_ _)); exact BK590.out) hb); have n5_ := Aside0.mk (below_step (by repeat (first | (with_reducible first | exact HB.out | apply below_alloc | apply pw_below_drewN | apply below_drew1 | refine below_set ?_ (IsS61.ge HI567.out) | refine below_set ?_ GE561.out | refine below_set ?_ GE590.out) | exact HB.out)) hb); clear HO_568000; clear BK561; clear HI567; clear BK590; clear HB; have HO_568000 := n0_; have HO593 := n1_; have BK561 := n2_; have HI567 := n3_; have BK590 := n4_; have HB := n5_; clear n0_ n1_ n2_ n3_ n4_ n5_; clear hb ho39; have hcz40_0 : w38.cell? ⟨gb590, 0, none⟩ = some (.int .i64 ((rd_T48 l0_3 x5_1).f0)) := (bc BK590 0); have hcz40_1 : w38.cell? ⟨gb590, 1, none⟩ = some (.int .i64 ((rd_T48 l0_3 x5_1).f1)) := (bc BK590 1); have hcz40_2 : w38.cell? ⟨gb590, 2, none⟩ = some (.int .i64 ((rd_T48 l0_3 x5_1).f2)) := (bc BK590 2); have hcz40_3 : w38.cell? ⟨gb590, 3, none⟩ = some (.int .i64 ((rd_T48 l0_3 x5_1).f3)) := (bc BK590 3); have hcz40_4 : w38.cell? ⟨gb590, 4, none⟩ = some (.int .u64 ((rd_T48 l0_3 x5_1).f4)) := (bc BK590 4); have hcz40_5 : w38.cell? ⟨gb590, 5, none⟩ = some (.slice A589_5 ((rd_T48 l0_3 x5_1).f5).length c589_5) := (bc BK590 5); have hfz40_0 := blk_frozen BK590.out 0; have hfz40_1 := blk_frozen BK590.out 1; have hfz40_2 := blk_frozen BK590.out 2; have hfz40_3 := blk_frozen BK590.out 3; have hfz40_4 := blk_frozen BK590.out 4; have hfz40_5 := blk_frozen BK590.out 5) | ((with_reducible refine gate_callee (f := 19) rfl ?_); refine goesL_ (some 61) rfl rfl Try.func19 (by kernel_rfl) rfl #[.int .i64 ((rd_T48 l0_3 x5_1).f3), .int .i64 4] rfl (by (try simp only [List.map_toArray, List.map_cons, List.map_nil]); first | done | rfl | (simp only [List.length_drop, List.length_take]; rfl)) ?_; (with_reducible refine (gangwaylaw0_Within.calls ((rd_T48 l0_3 x5_1).f3) 4 t594 _ A23.out).mono ?_); rintro e w' ⟨rfl, ⟨nd, rfl⟩⟩; refine ⟨_, rfl, ?_⟩; obtain ⟨Ao41, co41, eo41⟩ := Kd.R_slice HO593.out; subst eo41; have p595 : 0 ≤ (t594 : Int) := of_decide_eq_true (by first | (with_reducible assumption) | assumption); have q595 : t594 < (y591.length : Int) := of_decide_eq_true (by first | (with_reducible assumption) | assumption); obtain ⟨ad595, e595, hx595_0⟩ := Kd.at_int (Kd.R_reads' HO593.out).2.2 t594 p595 q595; cases e595; replace p595 := eq_true p595; replace q595 := eq_true q595) | ((with_reducible refine gate_callee (f := 19) rfl ?_); refine goesL_ (some 66) rfl rfl Try.func19 (by kernel_rfl) rfl #[.int .i64 ((rd_T48 l0_3 x5_1).f1), .int .i64 65526] rfl (by (try simp only [List.map_toArray, List.map_cons, List.map_nil]); first | done | rfl | (simp only [List.length_drop, List.length_take]; rfl)) ?_; (with_reducible refine (gangwaylaw0_Within.calls ((rd_T48 l0_3 x5_1).f1) 65526 t596 _ A26.out).mono ?_); rintro e w' ⟨rfl, ⟨nd, rfl⟩⟩; refine ⟨_, rfl, ?_⟩) | ((with_reducible refine gate_callee (f := 14) rfl ?_); refine goesL_ (some 72) rfl rfl Try.func14 (by kernel_rfl) rfl #[.pointer (some ⟨g567, 0, none⟩), .int .i64 (wrap64 ((wrap64 (1 + t596)) - 1)), .int .i64 10] rfl (by (try simp only [List.map_toArray, List.map_cons, List.map_nil]); first | done | rfl | (simp only [List.length_drop, List.length_take]; rfl)) ?_; (with_reducible refine (mem_Memory_Read.calls g567 (fun k_ => some k_ = (u568000 : Value).ownBlock) u568000 x568000_1 x568001_1 (wrap64 ((wrap64 (1 + t596)) - 1)) 10 t597 t600 t601 t604 w _ ?side1 ?side2 ?side3 A27.out).mono ?_); (case side1 => repeat (first | (with_reducible first | exact HI567.out | apply IsS61.alloc | apply IsS61.drewN | apply IsS61.drew | apply IsS61.set_0 | apply IsS61.set_1 | refine IsS61.far ?_ NB567_561.out _ | refine IsS61.far ?_ NB567_590.out _) | exact HI567.out)); (case side2 => repeat (first | (with_reducible first | exact HB.out | apply below_alloc | apply pw_below_drewN | apply below_drew1 | refine below_set ?_ (IsS61.ge HI567.out) | refine below_set ?_ GE561.out | refine below_set ?_ GE590.out) | exact HB.out)); (case side3 => exact Kd.R_tight rfl HO_568000.out); rintro e w42 ⟨v598, v602, rfl, ho0, ho1, hi, hb, hkp⟩; refine ⟨_, rfl, ?_⟩; have n0_ := Aside0.mk (bkept BK561 (by (with_reducible repeat (first | refine blk_drewN ?_ _ | refine blk_drew ?_ | refine blk_alloc ?_ _)); exact BK561.out) hkp (fun hs_ => Or.elim hs_ (fun hs_ => (fun e_ => (Kd.R_ne HO_568000.out BK561.out (by decide)) e_) hs_) (fun e_ => NB561_567.out e_))); have n1_ := Aside0.mk (hi); have n2_ := Aside0.mk (bkept BK590 (by (with_reducible repeat (first | refine blk_drewN ?_ _ | refine blk_drew ?_ | refine blk_alloc ?_ _)); exact BK590.out) hkp (fun hs_ => Or.elim hs_ (fun hs_ => (fun e_ => (Kd.R_ne HO_568000.out BK590.out (by decide)) e_) hs_) (fun e_ => NB590_567.out e_))); have n3_ := Aside0.mk (Kd.R_mono (ok' := fun k_ => True) (Kd.R_keptB ((IsS61.apart HI567.out (Kd.R_apart' HO593.out (Kd.R_typed HO_568000.out) (by decide)) (by decide))) hkp (fun k_ hk_ hs_ => Or.elim hs_ (fun hs_ => (hk_.1.2) hs_) (fun e_ => (hk_.2) e_))) (fun k_ hk_ => trivial)); have n4_ := Aside0.mk (Kd.R_mono (ok' := fun k_ => some k_ ≠ (v602 : Value).ownBlock) ho0 (fun k_ hk_ => hk_.2)); have n5_ := Aside0.mk (Kd.R_mono (ok' := fun k_ => some k_ ≠ (v598 : Value).ownBlock) ho1 (fun k_ hk_ => hk_.2)); have n6_ := Aside0.mk (hb); clear BK561; clear HI567; clear BK590; clear HO593; clear HB; clear HO_568000; have BK561 := n0_; have HI567 := n1_; have BK590 := n2_; have HO593 := n3_; have HO599 := n4_; have HO603 := n5_; have HB := n6_; clear n0_ n1_ n2_ n3_ n4_ n5_ n6_; (try clear hb); (try clear hkp); (try clear ho0); (try clear ho1); have hcz43_0 : w42.cell? ⟨gb590, 0, none⟩ = some (.int .i64 ((rd_T48 l0_3 x5_1).f0)) := (bc BK590 0); have hcz43_1 : w42.cell? ⟨gb590, 1, none⟩ = some (.int .i64 ((rd_T48 l0_3 x5_1).f1)) := (bc BK590 1); have hcz43_2 : w42.cell? ⟨gb590, 2, none⟩ = some (.int .i64 ((rd_T48 l0_3 x5_1).f2)) := (bc BK590 2); have hcz43_3 : w42.cell? ⟨gb590, 3, none⟩ = some (.int .i64 ((rd_T48 l0_3 x5_1).f3)) := (bc BK590 3); have hcz43_4 : w42.cell? ⟨gb590, 4, none⟩ = some (.int .u64 ((rd_T48 l0_3 x5_1).f4)) := (bc BK590 4); have hcz43_5 : w42.cell? ⟨gb590, 5, none⟩ = some (.slice A589_5 ((rd_T48 l0_3 x5_1).f5).length c589_5) := (bc BK590 5); have hfz43_0 := blk_frozen BK590.out 0; have hfz43_1 := blk_frozen BK590.out 1; have hfz43_2 := blk_frozen BK590.out 2; have hfz43_3 := blk_frozen BK590.out 3; have hfz43_4 := blk_frozen BK590.out 4; have hfz43_5 := blk_frozen BK590.out 5) | ((with_reducible refine gate_callee (f := 12) rfl ?_); refine goesL_ (some 81) rfl rfl Try.func12 (by kernel_rfl) rfl #[.pointer (some ⟨g567, 0, none⟩), .int .i64 (wrap64 ((wrap64 (1 + t596)) - 1)), .int .i64 1, .int .i64 (rd y591 t594), .int .u64 ((rd_T48 l0_3 x5_1).f4)] rfl (by (try simp only [List.map_toArray, List.map_cons, List.map_nil]); first | done | rfl | (simp only [List.length_drop, List.length_take]; rfl)) ?_; (with_reducible refine (mem_Memory_Store.calls g567 (fun k_ => some k_ = (v602 : Value).ownBlock) v602 t601 t604 (wrap64 ((wrap64 (1 + t596)) - 1)) 1 (rd y591 t594) ((rd_T48 l0_3 x5_1).f4) t605 t606 t609 w _ ?side1 ?side2 ?side3 A28.out).mono ?_); (case side1 => repeat (first | (with_reducible first | exact HI567.out | apply IsS61.alloc | apply IsS61.drewN | apply IsS61.drew | apply IsS61.set_0 | apply IsS61.set_1 | refine IsS61.far ?_ NB567_561.out _ | refine IsS61.far ?_ NB567_590.out _) | exact HI567.out)); (case side2 => repeat (first | (with_reducible first | exact HB.out | apply below_alloc | apply pw_below_drewN | apply below_drew1 | refine below_set ?_ (IsS61.ge HI567.out) | refine below_set ?_ GE561.out | refine below_set ?_ GE590.out) | exact HB.out)); (case side3 => exact Kd.R_tight rfl HO603.out); rintro e w44 ⟨v607, rfl, ho0, hi, hb, hkp⟩; refine ⟨_, rfl, ?_⟩; have n0_ := Aside0.mk (bkept BK561 (by (with_reducible repeat (first | refine blk_drewN ?_ _ | refine blk_drew ?_ | refine blk_alloc ?_ _)); exact BK561.out) hkp (fun hs_ => Or.elim hs_ (fun hs_ => (fun e_ => (Kd.R_ne HO603.out BK561.out (by decide)) e_) hs_) (fun e_ => NB561_567.out e_))); have n1_ := Aside0.mk (hi); have n2_ := Aside0.mk (bkept BK590 (by (with_reducible repeat (first | refine blk_drewN ?_ _ | refine blk_drew ?_ | refine blk_alloc ?_ _)); exact BK590.out) hkp (fun hs_ => Or.elim hs_ (fun hs_ => (fun e_ => (Kd.R_ne HO603.out BK590.out (by decide)) e_) hs_) (fun e_ => NB590_567.out e_))); have n3_ := Aside0.mk (Kd.R_mono (ok' := fun k_ => True) (Kd.R_keptB ((IsS61.apart HI567.out (Kd.R_apart' HO593.out (Kd.R_typed HO603.out) (by decide)) (by decide))) hkp (fun k_ hk_ hs_ => Or.elim hs_ (fun hs_ => (hk_.1.2) hs_) (fun e_ => (hk_.2) e_))) (fun k_ hk_ => trivial)); have n4_ := Aside0.mk (Kd.R_mono (ok' := fun k_ => some k_ ≠ (v607 : Value).ownBlock) (Kd.R_keptB ((IsS61.apart HI567.out HO599.out (by decide))) hkp (fun k_ hk_ hs_ => Or.elim hs_ (fun hs_ => (hk_.1) hs_) (fun e_ => (hk_.2) e_))) (fun k_ hk_ => fun e_ => Or.elim (ho0.1 k_ e_.symm) (fun hs_ => hk_.2.1 (.inl hs_)) (fun hn_ => Nat.not_le.2 hk_.2.2 hn_))); have n5_ := Aside0.mk (Kd.R_mono (ok' := fun k_ => some k_ ≠ (v598 : Value).ownBlock) ho0 (fun k_ hk_ => Or.elim hk_ (fun hs_ => fun e_ => ((((IsS61.apart HI567.out HO599.out (by decide))).1 k_ e_.symm).1) hs_) (fun hn_ => (Kd.fresh' (Kd.R_lt (by (with_reducible repeat (first | apply Kd.R_alloc | apply Kd.R_drewN | apply Kd.R_drew)); exact HO599.out)) k_ hn_)))); have n6_ := Aside0.mk (hb); clear BK561; clear HI567; clear BK590; clear HO593; clear HO599; clear HB; clear HO603; have BK561 := n0_; have HI567 := n1_; have BK590 := n2_; have HO593 := n3_; have HO599 := n4_; have HO608 := n5_; have HB := n6_; clear n0_ n1_ n2_ n3_ n4_ n5_ n6_; (try clear hb); (try clear hkp); (try clear ho0)) | ((with_reducible refine gate_callee (f := 11) rfl ?_); refine goesL_ (some 86) rfl rfl Try.func11 (by kernel_rfl) rfl #[.pointer (some ⟨g567, 0, none⟩), .int .i64 0, .int .i64 (wrap64 (1 + t596)), .int .i64 (rd y591 t594)] rfl (by (try simp only [List.map_toArray, List.map_cons, List.map_nil]); first | done | rfl | (simp only [List.length_drop, List.length_take]; rfl)) ?_; (with_reducible refine (mem_Memory_Load.calls kj13 g567 (fun k_ => some k_ = (v607 : Value).ownBlock) v607 t606 t609 0 (wrap64 (1 + t596)) (rd y591 t594) t610 t611 t612 t615 w _ ?side1 ?side2 ?side3 A29.out).mono ?_); (case side1 => repeat (first | (with_reducible first | exact HI567.out | apply IsS61.alloc | apply IsS61.drewN | apply IsS61.drew | apply IsS61.set_0 | apply IsS61.set_1 | refine IsS61.far ?_ NB567_561.out _ | refine IsS61.far ?_ NB567_590.out _) | exact HI567.out)); (case side2 => repeat (first | (with_reducible first | exact HB.out | apply below_alloc | apply pw_below_drewN | apply below_drew1 | refine below_set ?_ (IsS61.ge HI567.out) | refine below_set ?_ GE561.out | refine below_set ?_ GE590.out) | exact HB.out)); (case side3 => exact Kd.R_tight rfl HO608.out); rintro e w45 ⟨v613, rfl, ho0, hi, hb, hkp⟩; refine ⟨_, rfl, ?_⟩; have n0_ := Aside0.mk (bkept BK561 (by (with_reducible repeat (first | refine blk_drewN ?_ _ | refine blk_drew ?_ | refine blk_alloc ?_ _)); exact BK561.out) hkp (fun hs_ => Or.elim hs_ (fun hs_ => (fun e_ => (Kd.R_ne HO608.out BK561.out (by decide)) e_) hs_) (fun e_ => NB561_567.out e_))); have n1_ := Aside0.mk (hi); have n2_ := Aside0.mk (bkept BK590 (by (with_reducible repeat (first | refine blk_drewN ?_ _ | refine blk_drew ?_ | refine blk_alloc ?_ _)); exact BK590.out) hkp (fun hs_ => Or.elim hs_ (fun hs_ => (fun e_ => (Kd.R_ne HO608.out BK590.out (by decide)) e_) hs_) (fun e_ => NB590_567.out e_))); have n3_ := Aside0.mk (Kd.R_mono (ok' := fun k_ => True) (Kd.R_keptB ((IsS61.apart HI567.out (Kd.R_apart' HO593.out (Kd.R_typed HO608.out) (by decide)) (by decide))) hkp (fun k_ hk_ hs_ => Or.elim hs_ (fun hs_ => (hk_.1.2) hs_) (fun e_ => (hk_.2) e_))) (fun k_ hk_ => trivial)); have n4_ := Aside0.mk (Kd.R_mono (ok' := fun k_ => some k_ ≠ (v613 : Value).ownBlock) (Kd.R_keptB ((IsS61.apart HI567.out HO599.out (by decide))) hkp (fun k_ hk_ hs_ => Or.elim hs_ (fun hs_ => (hk_.1) hs_) (fun e_ => (hk_.2) e_))) (fun k_ hk_ => fun e_ => Or.elim (ho0.1 k_ e_.symm) (fun hs_ => hk_.2.1 (.inl hs_)) (fun hn_ => Nat.not_le.2 hk_.2.2 hn_))); have n5_ := Aside0.mk (Kd.R_mono (ok' := fun k_ => some k_ ≠ (v598 : Value).ownBlock) ho0 (fun k_ hk_ => Or.elim hk_ (fun hs_ => fun e_ => ((((IsS61.apart HI567.out HO599.out (by decide))).1 k_ e_.symm).1) hs_) (fun hn_ => (Kd.fresh' (Kd.R_lt (by (with_reducible repeat (first | apply Kd.R_alloc | apply Kd.R_drewN | apply Kd.R_drew)); exact HO599.out)) k_ hn_)))); have n6_ := Aside0.mk (hb); clear BK561; clear HI567; clear BK590; clear HO593; clear HO599; clear HB; clear HO608; have BK561 := n0_; have HI567 := n1_; have BK590 := n2_; have HO593 := n3_; have HO599 := n4_; have HO614 := n5_; have HB := n6_; clear n0_ n1_ n2_ n3_ n4_ n5_ n6_; (try clear hb); (try clear hkp); (try clear ho0)) | ((with_reducible refine gate_callee (f := 14) rfl ?_); refine goesL_ (some 93) rfl rfl Try.func14 (by kernel_rfl) rfl #[.pointer (some ⟨g567, 0, none⟩), .int .i64 (wrap64 ((wrap64 (1 + t596)) - 1)), .int .i64 10] rfl (by (try simp only [List.map_toArray, List.map_cons, List.map_nil]); first | done | rfl | (simp only [List.length_drop, List.length_take]; rfl)) ?_; (with_reducible refine (mem_Memory_Read.calls g567 (fun k_ => some k_ = (v613 : Value).ownBlock) v613 t612 t615 (wrap64 ((wrap64 (1 + t596)) - 1)) 10 t616 t619 t620 t623 w _ ?side1 ?side2 ?side3 A30.out).mono ?_); (case side1 => repeat (first | (with_reducible first | exact HI567.out | apply IsS61.alloc | apply IsS61.drewN | apply IsS61.drew | apply IsS61.set_0 | apply IsS61.set_1 | refine IsS61.far ?_ NB567_561.out _ | refine IsS61.far ?_ NB567_590.out _) | exact HI567.out)); (case side2 => repeat (first | (with_reducible first | exact HB.out | apply below_alloc | apply pw_below_drewN | apply below_drew1 | refine below_set ?_ (IsS61.ge HI567.out) | refine below_set ?_ GE561.out | refine below_set ?_ GE590.out) | exact HB.out)); (case side3 => exact Kd.R_tight rfl HO614.out); rintro e w46 ⟨v617, v621, rfl, ho0, ho1, hi, hb, hkp⟩; refine ⟨_, rfl, ?_⟩; have n0_ := Aside0.mk (bkept BK561 (by (with_reducible repeat (first | refine blk_drewN ?_ _ | refine blk_drew ?_ | refine blk_alloc ?_ _)); exact BK561.out) hkp (fun hs_ => Or.elim hs_ (fun hs_ => (fun e_ => (Kd.R_ne HO614.out BK561.out (by decide)) e_) hs_) (fun e_ => NB561_567.out e_))); have n1_ := Aside0.mk (hi); have n2_ := Aside0.mk (bkept BK590 (by (with_reducible repeat (first | refine blk_drewN ?_ _ | refine blk_drew ?_ | refine blk_alloc ?_ _)); exact BK590.out) hkp (fun hs_ => Or.elim hs_ (fun hs_ => (fun e_ => (Kd.R_ne HO614.out BK590.out (by decide)) e_) hs_) (fun e_ => NB590_567.out e_))); have n3_ := Aside0.mk (Kd.R_mono (ok' := fun k_ => True) (Kd.R_keptB ((IsS61.apart HI567.out (Kd.R_apart' HO593.out (Kd.R_typed HO614.out) (by decide)) (by decide))) hkp (fun k_ hk_ hs_ => Or.elim hs_ (fun hs_ => (hk_.1.2) hs_) (fun e_ => (hk_.2) e_))) (fun k_ hk_ => trivial)); have n4_ := Aside0.mk (Kd.R_mono (ok' := fun k_ => some k_ ≠ (v617 : Value).ownBlock ∧ some k_ ≠ (v621 : Value).ownBlock) (Kd.R_keptB ((IsS61.apart HI567.out HO599.out (by decide))) hkp (fun k_ hk_ hs_ => Or.elim hs_ (fun hs_ => (hk_.1) hs_) (fun e_ => (hk_.2) e_))) (fun k_ hk_ => ⟨fun e_ => Or.elim (ho0.1 k_ e_.symm).1 (fun hs_ => hk_.2.1 (.inl hs_)) (fun hn_ => Nat.not_le.2 hk_.2.2 hn_), fun e_ => Or.elim (ho1.1 k_ e_.symm).1 (fun hs_ => hk_.2.1 (.inl hs_)) (fun hn_ => Nat.not_le.2 hk_.2.2 hn_)⟩)); have n5_ := Aside0.mk (Kd.R_mono (ok' := fun k_ => some k_ ≠ (v621 : Value).ownBlock ∧ some k_ ≠ (v598 : Value).ownBlock) ho0 (fun k_ hk_ => ⟨hk_.2, Or.elim hk_.1 (fun hs_ => fun e_ => ((((IsS61.apart HI567.out HO599.out (by decide))).1 k_ e_.symm).1) hs_) (fun hn_ => (Kd.fresh' (Kd.R_lt (by (with_reducible repeat (first | apply Kd.R_alloc | apply Kd.R_drewN | apply Kd.R_drew)); exact HO599.out)) k_ hn_))⟩)); have n6_ := Aside0.mk (Kd.R_mono (ok' := fun k_ => some k_ ≠ (v617 : Value).ownBlock ∧ some k_ ≠ (v598 : Value).ownBlock) ho1 (fun k_ hk_ => ⟨hk_.2, Or.elim hk_.1 (fun hs_ => fun e_ => ((((IsS61.apart HI567.out HO599.out (by decide))).1 k_ e_.symm).1) hs_) (fun hn_ => (Kd.fresh' (Kd.R_lt (by (with_reducible repeat (first | apply Kd.R_alloc | apply Kd.R_drewN | apply Kd.R_drew)); exact HO599.out)) k_ hn_))⟩)); have n7_ := Aside0.mk (hb); clear BK561; clear HI567; clear BK590; clear HO593; clear HO599; clear HB; clear HO614; have BK561 := n0_; have HI567 := n1_; have BK590 := n2_; have HO593 := n3_; have HO599 := n4_; have HO618 := n5_; have HO622 := n6_; have HB := n7_; clear n0_ n1_ n2_ n3_ n4_ n5_ n6_ n7_; (try clear hb); (try clear hkp); (try clear ho0); (try clear ho1)))
              (try simp only [Act.put, e1, e2, e3])
              go_cut [148] (fun v148 wc => ∃ (kq : Nat) (x148_30 : Bool), v148 = .bool x148_30 ∧ Aside0 (j3 kq x5_1 (rd y591 t594) t597 t616 x148_30 a0_0 a0_1 a0_2 l0_3 t620 t623 ((rd_T48 l0_3 x5_1).f0) ((rd_T48 l0_3 x5_1).f1) ((rd_T48 l0_3 x5_1).f2) ((rd_T48 l0_3 x5_1).f3) ((rd_T48 l0_3 x5_1).f4) ((rd_T48 l0_3 x5_1).f5) = some r) ∧ Aside0 (kq ≤ kj13) ∧ Aside0 (Kd.R (Kd.int .u8) 5 wc w.heap.size (fun k_ => some k_ ≠ (v617 : Value).ownBlock ∧ some k_ ≠ (v621 : Value).ownBlock) v598 t597) ∧ Aside0 (Kd.R (Kd.int .u8) 5 wc w.heap.size (fun k_ => some k_ ≠ (v598 : Value).ownBlock ∧ some k_ ≠ (v621 : Value).ownBlock) v617 t616) ∧ Aside0 (Kd.R (Kd.int .u8) 5 wc w.heap.size (fun k_ => some k_ ≠ (v598 : Value).ownBlock ∧ some k_ ≠ (v617 : Value).ownBlock) v621 t620) ∧ Aside0 (wc.heap[gb561]? = some (.cells #[.int .i64 a0_0, .int .i64 a0_1, .int .i64 a0_2, (.slice (some ad589) l0_3.length c0_3)] 26 (0, 0))) ∧ Aside0 (wc.heap[gb590]? = some (.cells #[.int .i64 ((rd_T48 l0_3 x5_1).f0), .int .i64 ((rd_T48 l0_3 x5_1).f1), .int .i64 ((rd_T48 l0_3 x5_1).f2), .int .i64 ((rd_T48 l0_3 x5_1).f3), .int .u64 ((rd_T48 l0_3 x5_1).f4), (.slice A589_5 ((rd_T48 l0_3 x5_1).f5).length c589_5)] 48 (0, 0))) ∧ Aside0 (IsS61 w wc g567 v621 t623) ∧ Aside0 (Below w.heap.size w wc))
              case first =>
               have H := HC31.out
               clear HC31
               replace H := Option.bind_eq_some_iff.mp H
               obtain ⟨t624, A470, H⟩ := H
               replace H : (if t624 = 0 then ((gangwaylaw9_num.f t605).bind fun t625 => (if t625 = 0 then ((gangwaylaw9_num.f t611).bind fun t626 => (if t626 = 0 then ((gangwaylaw9_num.f t619).bind fun t627 => (if t627 = 0 then (if (t597.length : Int) = 10 then (if (t616.length : Int) = 10 then (if (rd y591 t594) < 8 then (if 0 ≤ (wrap64 (8 * (rd y591 t594))) then (if t610 = (Go.bits .and .u64 ((rd_T48 l0_3 x5_1).f4) (IntKind.u64.wrap ((shl .u64 1 (wrap64 (8 * (rd y591 t594)))) - 1))) then (if (rd y591 t594) = 8 then (j3 kj13 x5_1 (rd y591 t594) t597 t616 (t610 != ((rd_T48 l0_3 x5_1).f4)) a0_0 a0_1 a0_2 l0_3 t620 t623 ((rd_T48 l0_3 x5_1).f0) ((rd_T48 l0_3 x5_1).f1) ((rd_T48 l0_3 x5_1).f2) ((rd_T48 l0_3 x5_1).f3) ((rd_T48 l0_3 x5_1).f4) ((rd_T48 l0_3 x5_1).f5)) else (j3 kj13 x5_1 (rd y591 t594) t597 t616 false a0_0 a0_1 a0_2 l0_3 t620 t623 ((rd_T48 l0_3 x5_1).f0) ((rd_T48 l0_3 x5_1).f1) ((rd_T48 l0_3 x5_1).f2) ((rd_T48 l0_3 x5_1).f3) ((rd_T48 l0_3 x5_1).f4) ((rd_T48 l0_3 x5_1).f5))) else (none)) else (none)) else (if (rd y591 t594) = 8 then (j3 kj13 x5_1 (rd y591 t594) t597 t616 (t610 != ((rd_T48 l0_3 x5_1).f4)) a0_0 a0_1 a0_2 l0_3 t620 t623 ((rd_T48 l0_3 x5_1).f0) ((rd_T48 l0_3 x5_1).f1) ((rd_T48 l0_3 x5_1).f2) ((rd_T48 l0_3 x5_1).f3) ((rd_T48 l0_3 x5_1).f4) ((rd_T48 l0_3 x5_1).f5)) else (j3 kj13 x5_1 (rd y591 t594) t597 t616 false a0_0 a0_1 a0_2 l0_3 t620 t623 ((rd_T48 l0_3 x5_1).f0) ((rd_T48 l0_3 x5_1).f1) ((rd_T48 l0_3 x5_1).f2) ((rd_T48 l0_3 x5_1).f3) ((rd_T48 l0_3 x5_1).f4) ((rd_T48 l0_3 x5_1).f5)))) else (none)) else (none)) else (none))) else (none))) else (none))) else (none)) = some r := H
               have A47 := Aside0.mk A470
               clear A470
               by_cases c48 : t624 = 0
               ·rw [if_pos c48] at H
                have c48b0 : (t624 == 0) = true := beq_iff_eq.mpr c48
                have c48b1 : (t624 != 0) = false := bne_eq_false_iff_eq.mpr c48
                clear c48
                (first | rw [c48b0] | (simp only [i64_w, i32_w]; rw [c48b0]) | skip)
                replace H := Option.bind_eq_some_iff.mp H
                obtain ⟨t625, A490, H⟩ := H
                replace H : (if t625 = 0 then ((gangwaylaw9_num.f t611).bind fun t626 => (if t626 = 0 then ((gangwaylaw9_num.f t619).bind fun t627 => (if t627 = 0 then (if (t597.length : Int) = 10 then (if (t616.length : Int) = 10 then (if (rd y591 t594) < 8 then (if 0 ≤ (wrap64 (8 * (rd y591 t594))) then (if t610 = (Go.bits .and .u64 ((rd_T48 l0_3 x5_1).f4) (IntKind.u64.wrap ((shl .u64 1 (wrap64 (8 * (rd y591 t594)))) - 1))) then (if (rd y591 t594) = 8 then (j3 kj13 x5_1 (rd y591 t594) t597 t616 (t610 != ((rd_T48 l0_3 x5_1).f4)) a0_0 a0_1 a0_2 l0_3 t620 t623 ((rd_T48 l0_3 x5_1).f0) ((rd_T48 l0_3 x5_1).f1) ((rd_T48 l0_3 x5_1).f2) ((rd_T48 l0_3 x5_1).f3) ((rd_T48 l0_3 x5_1).f4) ((rd_T48 l0_3 x5_1).f5)) else (j3 kj13 x5_1 (rd y591 t594) t597 t616 false a0_0 a0_1 a0_2 l0_3 t620 t623 ((rd_T48 l0_3 x5_1).f0) ((rd_T48 l0_3 x5_1).f1) ((rd_T48 l0_3 x5_1).f2) ((rd_T48 l0_3 x5_1).f3) ((rd_T48 l0_3 x5_1).f4) ((rd_T48 l0_3 x5_1).f5))) else (none)) else (none)) else (if (rd y591 t594) = 8 then (j3 kj13 x5_1 (rd y591 t594) t597 t616 (t610 != ((rd_T48 l0_3 x5_1).f4)) a0_0 a0_1 a0_2 l0_3 t620 t623 ((rd_T48 l0_3 x5_1).f0) ((rd_T48 l0_3 x5_1).f1) ((rd_T48 l0_3 x5_1).f2) ((rd_T48 l0_3 x5_1).f3) ((rd_T48 l0_3 x5_1).f4) ((rd_T48 l0_3 x5_1).f5)) else (j3 kj13 x5_1 (rd y591 t594) t597 t616 false a0_0 a0_1 a0_2 l0_3 t620 t623 ((rd_T48 l0_3 x5_1).f0) ((rd_T48 l0_3 x5_1).f1) ((rd_T48 l0_3 x5_1).f2) ((rd_T48 l0_3 x5_1).f3) ((rd_T48 l0_3 x5_1).f4) ((rd_T48 l0_3 x5_1).f5)))) else (none)) else (none)) else (none))) else (none))) else (none)) = some r := H
                have A49 := Aside0.mk A490
                clear A490
                by_cases c50 : t625 = 0
                ·rw [if_pos c50] at H
                 have c50b0 : (t625 == 0) = true := beq_iff_eq.mpr c50
                 have c50b1 : (t625 != 0) = false := bne_eq_false_iff_eq.mpr c50
                 clear c50
                 replace H := Option.bind_eq_some_iff.mp H
                 obtain ⟨t626, A510, H⟩ := H
                 replace H : (if t626 = 0 then ((gangwaylaw9_num.f t619).bind fun t627 => (if t627 = 0 then (if (t597.length : Int) = 10 then (if (t616.length : Int) = 10 then (if (rd y591 t594) < 8 then (if 0 ≤ (wrap64 (8 * (rd y591 t594))) then (if t610 = (Go.bits .and .u64 ((rd_T48 l0_3 x5_1).f4) (IntKind.u64.wrap ((shl .u64 1 (wrap64 (8 * (rd y591 t594)))) - 1))) then (if (rd y591 t594) = 8 then (j3 kj13 x5_1 (rd y591 t594) t597 t616 (t610 != ((rd_T48 l0_3 x5_1).f4)) a0_0 a0_1 a0_2 l0_3 t620 t623 ((rd_T48 l0_3 x5_1).f0) ((rd_T48 l0_3 x5_1).f1) ((rd_T48 l0_3 x5_1).f2) ((rd_T48 l0_3 x5_1).f3) ((rd_T48 l0_3 x5_1).f4) ((rd_T48 l0_3 x5_1).f5)) else (j3 kj13 x5_1 (rd y591 t594) t597 t616 false a0_0 a0_1 a0_2 l0_3 t620 t623 ((rd_T48 l0_3 x5_1).f0) ((rd_T48 l0_3 x5_1).f1) ((rd_T48 l0_3 x5_1).f2) ((rd_T48 l0_3 x5_1).f3) ((rd_T48 l0_3 x5_1).f4) ((rd_T48 l0_3 x5_1).f5))) else (none)) else (none)) else (if (rd y591 t594) = 8 then (j3 kj13 x5_1 (rd y591 t594) t597 t616 (t610 != ((rd_T48 l0_3 x5_1).f4)) a0_0 a0_1 a0_2 l0_3 t620 t623 ((rd_T48 l0_3 x5_1).f0) ((rd_T48 l0_3 x5_1).f1) ((rd_T48 l0_3 x5_1).f2) ((rd_T48 l0_3 x5_1).f3) ((rd_T48 l0_3 x5_1).f4) ((rd_T48 l0_3 x5_1).f5)) else (j3 kj13 x5_1 (rd y591 t594) t597 t616 false a0_0 a0_1 a0_2 l0_3 t620 t623 ((rd_T48 l0_3 x5_1).f0) ((rd_T48 l0_3 x5_1).f1) ((rd_T48 l0_3 x5_1).f2) ((rd_T48 l0_3 x5_1).f3) ((rd_T48 l0_3 x5_1).f4) ((rd_T48 l0_3 x5_1).f5)))) else (none)) else (none)) else (none))) else (none)) = some r := H
                 have A51 := Aside0.mk A510
                 clear A510
                 by_cases c52 : t626 = 0
                 ·rw [if_pos c52] at H
                  have c52b0 : (t626 == 0) = true := beq_iff_eq.mpr c52
                  have c52b1 : (t626 != 0) = false := bne_eq_false_iff_eq.mpr c52
                  clear c52
                  replace H := Option.bind_eq_some_iff.mp H
                  obtain ⟨t627, A530, H⟩ := H
                  replace H : (if t627 = 0 then (if (t597.length : Int) = 10 then (if (t616.length : Int) = 10 then (if (rd y591 t594) < 8 then (if 0 ≤ (wrap64 (8 * (rd y591 t594))) then (if t610 = (Go.bits .and .u64 ((rd_T48 l0_3 x5_1).f4) (IntKind.u64.wrap ((shl .u64 1 (wrap64 (8 * (rd y591 t594)))) - 1))) then (if (rd y591 t594) = 8 then (j3 kj13 x5_1 (rd y591 t594) t597 t616 (t610 != ((rd_T48 l0_3 x5_1).f4)) a0_0 a0_1 a0_2 l0_3 t620 t623 ((rd_T48 l0_3 x5_1).f0) ((rd_T48 l0_3 x5_1).f1) ((rd_T48 l0_3 x5_1).f2) ((rd_T48 l0_3 x5_1).f3) ((rd_T48 l0_3 x5_1).f4) ((rd_T48 l0_3 x5_1).f5)) else (j3 kj13 x5_1 (rd y591 t594) t597 t616 false a0_0 a0_1 a0_2 l0_3 t620 t623 ((rd_T48 l0_3 x5_1).f0) ((rd_T48 l0_3 x5_1).f1) ((rd_T48 l0_3 x5_1).f2) ((rd_T48 l0_3 x5_1).f3) ((rd_T48 l0_3 x5_1).f4) ((rd_T48 l0_3 x5_1).f5))) else (none)) else (none)) else (if (rd y591 t594) = 8 then (j3 kj13 x5_1 (rd y591 t594) t597 t616 (t610 != ((rd_T48 l0_3 x5_1).f4)) a0_0 a0_1 a0_2 l0_3 t620 t623 ((rd_T48 l0_3 x5_1).f0) ((rd_T48 l0_3 x5_1).f1) ((rd_T48 l0_3 x5_1).f2) ((rd_T48 l0_3 x5_1).f3) ((rd_T48 l0_3 x5_1).f4) ((rd_T48 l0_3 x5_1).f5)) else (j3 kj13 x5_1 (rd y591 t594) t597 t616 false a0_0 a0_1 a0_2 l0_3 t620 t623 ((rd_T48 l0_3 x5_1).f0) ((rd_T48 l0_3 x5_1).f1) ((rd_T48 l0_3 x5_1).f2) ((rd_T48 l0_3 x5_1).f3) ((rd_T48 l0_3 x5_1).f4) ((rd_T48 l0_3 x5_1).f5)))) else (none)) else (none)) else (none)) = some r := H
                  have A53 := Aside0.mk A530
                  clear A530
                  by_cases c54 : t627 = 0
                  ·rw [if_pos c54] at H
                   have c54b0 : (t627 == 0) = true := beq_iff_eq.mpr c54
                   have c54b1 : (t627 != 0) = false := bne_eq_false_iff_eq.mpr c54
                   clear c54
                   by_cases c55 : (t597.length : Int) = 10
                   ·rw [if_pos c55] at H
                    have c55b0 : ((t597.length : Int) == 10) = true := beq_iff_eq.mpr c55
                    have c55b1 : ((t597.length : Int) != 10) = false := bne_eq_false_iff_eq.mpr c55
                    clear c55
                    by_cases c56 : (t616.length : Int) = 10
                    ·rw [if_pos c56] at H
                     have c56b0 : ((t616.length : Int) == 10) = true := beq_iff_eq.mpr c56
                     have c56b1 : ((t616.length : Int) != 10) = false := bne_eq_false_iff_eq.mpr c56
                     clear c56
                     by_cases c57 : (rd y591 t594) < 8
                     ·rw [if_pos c57] at H
                      have c57b0 : decide ((rd y591 t594) < 8) = true := decide_eq_true c57
                      clear c57
                      obtain ⟨ji58, hji58⟩ : ∃ j_ : Int, (wrap64 (8 * (rd y591 t594))) = j_ := ⟨_, rfl⟩
                      replace H : (if 0 ≤ (ji58) then (if t610 = (Go.bits .and .u64 ((rd_T48 l0_3 x5_1).f4) (IntKind.u64.wrap ((shl .u64 1 (ji58)) - 1))) then (if (rd y591 t594) = 8 then (j3 kj13 x5_1 (rd y591 t594) t597 t616 (t610 != ((rd_T48 l0_3 x5_1).f4)) a0_0 a0_1 a0_2 l0_3 t620 t623 ((rd_T48 l0_3 x5_1).f0) ((rd_T48 l0_3 x5_1).f1) ((rd_T48 l0_3 x5_1).f2) ((rd_T48 l0_3 x5_1).f3) ((rd_T48 l0_3 x5_1).f4) ((rd_T48 l0_3 x5_1).f5)) else (j3 kj13 x5_1 (rd y591 t594) t597 t616 false a0_0 a0_1 a0_2 l0_3 t620 t623 ((rd_T48 l0_3 x5_1).f0) ((rd_T48 l0_3 x5_1).f1) ((rd_T48 l0_3 x5_1).f2) ((rd_T48 l0_3 x5_1).f3) ((rd_T48 l0_3 x5_1).f4) ((rd_T48 l0_3 x5_1).f5))) else (none)) else (none)) = some r := by first | (rw [hji58] at H; exact H) | (simp only [hji58] at H ⊢; exact H)
                      (try rw [hji58] at A47)
                      (try rw [hji58] at A49)
                      (try rw [hji58] at A51)
                      (try rw [hji58] at A53)
                      have hji58w : (IntKind.i64.wrap (8 * (rd y591 t594))) = ji58 := (i64_w _).trans hji58
                      by_cases c59 : 0 ≤ (ji58)
                      ·rw [if_pos c59] at H
                       have c59b0 := eq_true c59
                       have c59b1 : decide (0 ≤ (ji58)) = true := decide_eq_true c59
                       clear c59
                       obtain ⟨ji60, hji60⟩ : ∃ j_ : Int, (shl .u64 1 (ji58)) = j_ := ⟨_, rfl⟩
                       replace H : (if t610 = (Go.bits .and .u64 ((rd_T48 l0_3 x5_1).f4) (IntKind.u64.wrap ((ji60) - 1))) then (if (rd y591 t594) = 8 then (j3 kj13 x5_1 (rd y591 t594) t597 t616 (t610 != ((rd_T48 l0_3 x5_1).f4)) a0_0 a0_1 a0_2 l0_3 t620 t623 ((rd_T48 l0_3 x5_1).f0) ((rd_T48 l0_3 x5_1).f1) ((rd_T48 l0_3 x5_1).f2) ((rd_T48 l0_3 x5_1).f3) ((rd_T48 l0_3 x5_1).f4) ((rd_T48 l0_3 x5_1).f5)) else (j3 kj13 x5_1 (rd y591 t594) t597 t616 false a0_0 a0_1 a0_2 l0_3 t620 t623 ((rd_T48 l0_3 x5_1).f0) ((rd_T48 l0_3 x5_1).f1) ((rd_T48 l0_3 x5_1).f2) ((rd_T48 l0_3 x5_1).f3) ((rd_T48 l0_3 x5_1).f4) ((rd_T48 l0_3 x5_1).f5))) else (none)) = some r := by first | (rw [hji60] at H; exact H) | (simp only [hji60] at H ⊢; exact H)
                       (try rw [hji60] at A47)
                       (try rw [hji60] at A49)
                       (try rw [hji60] at A51)
                       (try rw [hji60] at A53)
                       have hji60_ : (IntKind.u64.wrap (1 * 2 ^ min (ji58).toNat 64)) = ji60 := hji60
                       have hji60z : (ji58) ≤ 64 → (IntKind.u64.wrap (1 * 2 ^ (ji58).toNat)) = ji60 := shl_small hji60
                       have hji60u : (IntKind.u64.wrap (2 ^ min (ji58).toNat 64)) = ji60 := by have h_ := hji60_; rw [Int.one_mul] at h_; exact h_
                       have hji60v : (ji58) ≤ 64 → (IntKind.u64.wrap (2 ^ (ji58).toNat)) = ji60 := fun hle_ => by have h_ := hji60z hle_; rw [Int.one_mul] at h_; exact h_
                       by_cases c61 : t610 = (Go.bits .and .u64 ((rd_T48 l0_3 x5_1).f4) (IntKind.u64.wrap ((ji60) - 1)))
                       ·rw [if_pos c61] at H
                        have c61b0 : (t610 == (Go.bits .and .u64 ((rd_T48 l0_3 x5_1).f4) (IntKind.u64.wrap ((ji60) - 1)))) = true := beq_iff_eq.mpr c61
                        have c61b1 : (t610 != (Go.bits .and .u64 ((rd_T48 l0_3 x5_1).f4) (IntKind.u64.wrap ((ji60) - 1)))) = false := bne_eq_false_iff_eq.mpr c61
                        clear c61
                        by_cases c62 : (rd y591 t594) = 8
                        ·rw [if_pos c62] at H
                         have c62b0 : ((rd y591 t594) == 8) = true := beq_iff_eq.mpr c62
                         have c62b1 : ((rd y591 t594) != 8) = false := bne_eq_false_iff_eq.mpr c62
                         clear c62
                         have H' := Aside0.mk H
                         clear H
                         try go_wp2
                         have n0_ := Aside0.mk (Kd.R_drew HO593.out)
                         have n1_ := Aside0.mk (Kd.R_drew HO599.out)
                         have n2_ := Aside0.mk (Kd.R_drew HO618.out)
                         have n3_ := Aside0.mk (Kd.R_drew HO622.out)
                         have n4_ := Aside0.mk (blk_drew BK561.out)
                         have n5_ := Aside0.mk (blk_drew BK590.out)
                         have n6_ := Aside0.mk (IsS61.drew HI567.out)
                         have n7_ := Aside0.mk (below_drew1 HB.out)
                         clear HO593
                         clear HO599
                         clear HO618
                         clear HO622
                         clear BK561
                         clear BK590
                         clear HI567
                         clear HB
                         have HO593 := n0_
                         have HO599 := n1_
                         have HO618 := n2_
                         have HO622 := n3_
                         have BK561 := n4_
                         have BK590 := n5_
                         have HI567 := n6_
                         have HB := n7_
                         clear n0_ n1_ n2_ n3_ n4_ n5_ n6_ n7_
                         refine start_ (n := 53) (S := fun w' => w'.cell? ⟨gb590, 0, none⟩ = some (.int .i64 ((rd_T48 l0_3 x5_1).f0)) ∧ w'.cell? ⟨gb590, 1, none⟩ = some (.int .i64 ((rd_T48 l0_3 x5_1).f1)) ∧ w'.cell? ⟨gb590, 2, none⟩ = some (.int .i64 ((rd_T48 l0_3 x5_1).f2)) ∧ w'.cell? ⟨gb590, 3, none⟩ = some (.int .i64 ((rd_T48 l0_3 x5_1).f3)) ∧ w'.cell? ⟨gb590, 4, none⟩ = some (.int .u64 ((rd_T48 l0_3 x5_1).f4)) ∧ w'.cell? ⟨gb590, 5, none⟩ = some (.slice A589_5 ((rd_T48 l0_3 x5_1).f5).length c589_5)) (ds := []) bb57_ (by kernel_rfl) rfl rfl ⟨bc BK590 0, bc BK590 1, bc BK590 2, bc BK590 3, bc BK590 4, bc BK590 5⟩ (fun hHeld => ?_); refine with_tabW gangwaylaw9_MemParts.tab14 gangwaylaw9_MemParts.bits14 (fun HT_ HW_ => ?_)
                         generalize w46.drew = w63 at HO593 HO599 HO618 HO622 BK561 BK590 HI567 HB hHeld ⊢
                         refine pure_ (i := 0) (N := some 96) (v := ?_) (a' := ?_) bb56_ rfl rfl (any_of HT_.out (by kernel_rfl)) (fun _ _ _ h => h) (Or.inl ⟨by rfl, ?_⟩) ?_ ?_
                         rotate_left; · intro w'; go_simp; with_reducible rfl
                         rotate_left; · simp only [Act.put, e1, e2, e3, i64_w, i32_w]; rfl
                         refine one_ (i := 1) (N := some 97) bb55_ rfl rfl (one_of HT_.out (by kernel_rfl)) (by decide) (fun K hK => ?_)
                         refine goes_ Try.func8 (by kernel_rfl) rfl #[.int .i64 t600] (by rfl) rfl rfl (by (try simp only [List.map_toArray, List.map_cons, List.map_nil]); first | done | rfl | (simp only [List.length_drop, List.length_take]; rfl)) ?_
                         with_reducible refine (gangwaylaw9_num.calls t600 t624 _ A47.out).mono ?_
                         rintro e w' ⟨rfl, ⟨nd, rfl⟩⟩
                         refine ⟨_, rfl, ?_⟩
                         refine hK.out _ _ ⟨bc BK590 0, bc BK590 1, bc BK590 2, bc BK590 3, bc BK590 4, bc BK590 5⟩ (fun hHeld => ?_)
                         clear hK K
                         refine norm_ (a' := ?_) ?_ ?_
                         rotate_left
                         ·show Act.put _ (some 97) _ = _
                          simp only [Act.put, e1, e2, e3, i64_w, i32_w]
                          rfl
                         refine pure_ (i := 2) (N := some 98) (v := ?_) (a' := ?_) bb54_ rfl rfl (any_of HT_.out (by kernel_rfl)) (fun _ _ _ h => h) (Or.inl ⟨by rfl, ?_⟩) ?_ ?_
                         rotate_left; · intro w'; go_simp; with_reducible rfl
                         rotate_left; · simp only [Act.put, e1, e2, e3, i64_w, i32_w]; rfl
                         refine pure_ (i := 3) (N := some 99) (v := ?_) (a' := ?_) bb53_ rfl rfl (any_of HT_.out (by kernel_rfl)) (fun _ _ _ h => h) (Or.inl ⟨by rfl, ?_⟩) ?_ ?_
                         rotate_left; · intro w'; go_simp; with_reducible rfl
                         rotate_left; · simp only [Act.put, e1, e2, e3, i64_w, i32_w]; rfl
                         refine pure_ (i := 4) (N := some 100) (v := ?_) (a' := ?_) bb52_ rfl rfl (any_of HT_.out (by kernel_rfl)) (fun _ _ _ h => h) (Or.inl ⟨by rfl, ?_⟩) ?_ ?_
                         rotate_left; · intro w'; go_simp; with_reducible rfl
                         rotate_left; · simp only [Act.put, e1, e2, e3, i64_w, i32_w]; rfl
                         refine one_ (i := 5) (N := some 101) bb51_ rfl rfl (one_of HT_.out (by kernel_rfl)) (by decide) (fun K hK => ?_)
                         refine goes_ Try.func8 (by kernel_rfl) rfl #[.int .i64 t605] (by rfl) rfl rfl (by (try simp only [List.map_toArray, List.map_cons, List.map_nil]); first | done | rfl | (simp only [List.length_drop, List.length_take]; rfl)) ?_
                         with_reducible refine (gangwaylaw9_num.calls t605 t625 _ A49.out).mono ?_
                         rintro e w' ⟨rfl, ⟨nd, rfl⟩⟩
                         refine ⟨_, rfl, ?_⟩
                         refine hK.out _ _ ⟨bc BK590 0, bc BK590 1, bc BK590 2, bc BK590 3, bc BK590 4, bc BK590 5⟩ (fun hHeld => ?_)
                         clear hK K
                         refine norm_ (a' := ?_) ?_ ?_
                         rotate_left
                         ·show Act.put _ (some 101) _ = _
                          simp only [Act.put, e1, e2, e3, i64_w, i32_w]
                          rfl
                         refine pure_ (i := 6) (N := some 102) (v := ?_) (a' := ?_) bb50_ rfl rfl (any_of HT_.out (by kernel_rfl)) (fun _ _ _ h => h) (Or.inl ⟨by rfl, ?_⟩) ?_ ?_
                         rotate_left; · intro w'; go_simp; with_reducible rfl
                         rotate_left; · simp only [Act.put, e1, e2, e3, i64_w, i32_w]; rfl
                         refine pure_ (i := 7) (N := some 103) (v := ?_) (a' := ?_) bb49_ rfl rfl (any_of HT_.out (by kernel_rfl)) (fun _ _ _ h => h) (Or.inl ⟨by rfl, ?_⟩) ?_ ?_
                         rotate_left; · intro w'; go_simp; with_reducible rfl
                         rotate_left; · simp only [Act.put, e1, e2, e3, i64_w, i32_w]; rfl
                         refine pure_ (i := 8) (N := some 104) (v := ?_) (a' := ?_) bb48_ rfl rfl (any_of HT_.out (by kernel_rfl)) (fun _ _ _ h => h) (Or.inl ⟨by rfl, ?_⟩) ?_ ?_
                         rotate_left; · intro w'; go_simp; with_reducible rfl
                         rotate_left; · simp only [Act.put, e1, e2, e3, i64_w, i32_w]; rfl
                         refine pure_ (i := 9) (N := some 105) (v := ?_) (a' := ?_) bb47_ rfl rfl (any_of HT_.out (by kernel_rfl)) (fun _ _ _ h => h) (Or.inl ⟨by rfl, ?_⟩) ?_ ?_
                         rotate_left; · intro w'; go_simp; with_reducible rfl
                         rotate_left; · simp only [Act.put, e1, e2, e3, i64_w, i32_w]; rfl
                         refine one_ (i := 10) (N := some 106) bb46_ rfl rfl (one_of HT_.out (by kernel_rfl)) (by decide) (fun K hK => ?_)
                         refine goes_ Try.func8 (by kernel_rfl) rfl #[.int .i64 t611] (by rfl) rfl rfl (by (try simp only [List.map_toArray, List.map_cons, List.map_nil]); first | done | rfl | (simp only [List.length_drop, List.length_take]; rfl)) ?_
                         with_reducible refine (gangwaylaw9_num.calls t611 t626 _ A51.out).mono ?_
                         rintro e w' ⟨rfl, ⟨nd, rfl⟩⟩
                         refine ⟨_, rfl, ?_⟩
                         refine hK.out _ _ ⟨bc BK590 0, bc BK590 1, bc BK590 2, bc BK590 3, bc BK590 4, bc BK590 5⟩ (fun hHeld => ?_)
                         clear hK K
                         refine norm_ (a' := ?_) ?_ ?_
                         rotate_left
                         ·show Act.put _ (some 106) _ = _
                          simp only [Act.put, e1, e2, e3, i64_w, i32_w]
                          rfl
                         refine pure_ (i := 11) (N := some 107) (v := ?_) (a' := ?_) bb45_ rfl rfl (any_of HT_.out (by kernel_rfl)) (fun _ _ _ h => h) (Or.inl ⟨by rfl, ?_⟩) ?_ ?_
                         rotate_left; · intro w'; go_simp; with_reducible rfl
                         rotate_left; · simp only [Act.put, e1, e2, e3, i64_w, i32_w]; rfl
                         refine pure_ (i := 12) (N := some 108) (v := ?_) (a' := ?_) bb44_ rfl rfl (any_of HT_.out (by kernel_rfl)) (fun _ _ _ h => h) (Or.inl ⟨by rfl, ?_⟩) ?_ ?_
                         rotate_left; · intro w'; go_simp; with_reducible rfl
                         rotate_left; · simp only [Act.put, e1, e2, e3, i64_w, i32_w]; rfl
                         refine pure_ (i := 13) (N := some 109) (v := ?_) (a' := ?_) bb43_ rfl rfl (any_of HT_.out (by kernel_rfl)) (fun _ _ _ h => h) (Or.inl ⟨by rfl, ?_⟩) ?_ ?_
                         rotate_left; · intro w'; go_simp; with_reducible rfl
                         rotate_left; · simp only [Act.put, e1, e2, e3, i64_w, i32_w]; rfl
                         refine pure_ (i := 14) (N := some 110) (v := ?_) (a' := ?_) bb42_ rfl rfl (any_of HT_.out (by kernel_rfl)) (fun _ _ _ h => h) (Or.inl ⟨by rfl, ?_⟩) ?_ ?_
                         rotate_left; · intro w'; go_simp; with_reducible rfl
                         rotate_left; · simp only [Act.put, e1, e2, e3, i64_w, i32_w]; rfl
                         refine one_ (i := 15) (N := some 111) bb41_ rfl rfl (one_of HT_.out (by kernel_rfl)) (by decide) (fun K hK => ?_)
                         refine goes_ Try.func8 (by kernel_rfl) rfl #[.int .i64 t619] (by rfl) rfl rfl (by (try simp only [List.map_toArray, List.map_cons, List.map_nil]); first | done | rfl | (simp only [List.length_drop, List.length_take]; rfl)) ?_
                         with_reducible refine (gangwaylaw9_num.calls t619 t627 _ A53.out).mono ?_
                         rintro e w' ⟨rfl, ⟨nd, rfl⟩⟩
                         refine ⟨_, rfl, ?_⟩
                         obtain ⟨Ao64, co64, eo64⟩ := Kd.R_slice HO599.out
                         (first | subst eo64 | (injection eo64 with f1_ f2_ f3_; have f4_ := f1_.symm; have f5_ := f3_.symm; clear f1_ f2_ f3_; subst f4_; subst f5_))
                         obtain ⟨Ao65, co65, eo65⟩ := Kd.R_slice HO618.out
                         (first | subst eo65 | (injection eo65 with f1_ f2_ f3_; have f4_ := f1_.symm; have f5_ := f3_.symm; clear f1_ f2_ f3_; subst f4_; subst f5_))
                         refine hK.out _ _ ⟨bc BK590 0, bc BK590 1, bc BK590 2, bc BK590 3, bc BK590 4, bc BK590 5⟩ (fun hHeld => ?_)
                         clear hK K
                         refine norm_ (a' := ?_) ?_ ?_
                         rotate_left
                         ·show Act.put _ (some 111) _ = _
                          simp only [Act.put, e1, e2, e3, i64_w, i32_w]
                          rfl
                         refine pure_ (i := 16) (N := some 112) (v := ?_) (a' := ?_) bb40_ rfl rfl (any_of HT_.out (by kernel_rfl)) (fun _ _ _ h => h) (Or.inl ⟨by rfl, ?_⟩) ?_ ?_
                         rotate_left; · intro w'; go_simp; with_reducible rfl
                         rotate_left; · simp only [Act.put, e1, e2, e3, i64_w, i32_w]; rfl
                         refine pure_ (i := 17) (N := some 113) (v := ?_) (a' := ?_) bb39_ rfl rfl (any_of HT_.out (by kernel_rfl)) (fun _ _ _ h => h) (Or.inl ⟨by rfl, ?_⟩) ?_ ?_
                         rotate_left; · intro w'; go_simp; with_reducible rfl
                         rotate_left; · simp only [Act.put, e1, e2, e3, i64_w, i32_w]; rfl
                         refine pure_ (i := 18) (N := some 114) (v := ?_) (a' := ?_) bb38_ rfl rfl (any_of HT_.out (by kernel_rfl)) (fun _ _ _ h => h) (Or.inl ⟨by rfl, ?_⟩) ?_ ?_
                         rotate_left; · intro w'; go_simp; with_reducible rfl
                         rotate_left; · simp only [Act.put, e1, e2, e3, i64_w, i32_w]; rfl
                         refine pure_ (i := 19) (N := some 115) (v := ?_) (a' := ?_) bb37_ rfl rfl (any_of HT_.out (by kernel_rfl)) (fun _ _ _ h => h) (Or.inl ⟨by rfl, ?_⟩) ?_ ?_
                         rotate_left; · intro w'; go_simp; with_reducible rfl
                         rotate_left; · simp only [Act.put, e1, e2, e3, i64_w, i32_w]; rfl
                         refine pure_ (i := 20) (N := some 116) (v := ?_) (a' := ?_) bb36_ rfl rfl (any_of HT_.out (by kernel_rfl)) (fun _ _ _ h => h) (Or.inl ⟨by rfl, ?_⟩) ?_ ?_
                         rotate_left; · intro w'; go_simp; with_reducible rfl
                         rotate_left; · simp only [Act.put, e1, e2, e3, i64_w, i32_w]; rfl
                         refine pure_ (i := 21) (N := some 117) (v := ?_) (a' := ?_) bb35_ rfl rfl (any_of HT_.out (by kernel_rfl)) (fun _ _ _ h => h) (Or.inl ⟨by rfl, ?_⟩) ?_ ?_
                         rotate_left; · intro w'; go_simp; with_reducible rfl
                         rotate_left; · simp only [Act.put, e1, e2, e3, i64_w, i32_w]; rfl
                         refine pure_ (i := 22) (N := some 118) (v := ?_) (a' := ?_) bb34_ rfl rfl (any_of HT_.out (by kernel_rfl)) (fun _ _ _ h => h) (Or.inl ⟨by rfl, ?_⟩) ?_ ?_
                         rotate_left; · intro w'; go_simp; with_reducible rfl
                         rotate_left; · simp only [Act.put, e1, e2, e3, i64_w, i32_w]; rfl
                         refine pure_ (i := 23) (N := some 119) (v := ?_) (a' := ?_) bb33_ rfl rfl (any_of HT_.out (by kernel_rfl)) (fun _ _ _ h => h) (Or.inl ⟨by rfl, ?_⟩) ?_ ?_
                         rotate_left; · intro w'; go_simp; with_reducible rfl
                         rotate_left; · simp only [Act.put, e1, e2, e3, i64_w, i32_w]; rfl
                         refine pure_ (i := 24) (N := some 120) (v := ?_) (a' := ?_) bb32_ rfl rfl (any_of HT_.out (by kernel_rfl)) (fun _ _ _ h => h) (Or.inl ⟨by rfl, ?_⟩) ?_ ?_
                         rotate_left; · intro w'; go_simp; with_reducible rfl
                         rotate_left; · simp only [Act.put, e1, e2, e3, i64_w, i32_w]; rfl
                         refine pure_ (i := 25) (N := some 121) (v := ?_) (a' := ?_) bb31_ rfl rfl (any_of HT_.out (by kernel_rfl)) (fun _ _ _ h => h) (Or.inl ⟨by rfl, ?_⟩) ?_ ?_
                         rotate_left; · intro w'; go_simp; with_reducible rfl
                         rotate_left; · simp only [Act.put, e1, e2, e3, i64_w, i32_w]; rfl
                         refine pure_ (i := 26) (N := some 122) (v := ?_) (a' := ?_) bb30_ rfl rfl (any_of HT_.out (by kernel_rfl)) (fun _ _ _ h => h) (Or.inl ⟨by rfl, ?_⟩) ?_ ?_
                         rotate_left; · intro w'; go_simp; with_reducible rfl
                         rotate_left; · simp only [Act.put, e1, e2, e3, i64_w, i32_w]; rfl
                         refine pure_ (i := 27) (N := some 123) (v := ?_) (a' := ?_) bb29_ rfl rfl (any_of HT_.out (by kernel_rfl)) (fun _ _ _ h => h) (Or.inl ⟨by rfl, ?_⟩) ?_ ?_
                         rotate_left; · intro w'; go_simp; with_reducible rfl
                         rotate_left; · simp only [Act.put, e1, e2, e3, i64_w, i32_w]; rfl
                         refine pure_ (i := 28) (N := some 124) (v := ?_) (a' := ?_) bb28_ rfl rfl (any_of HT_.out (by kernel_rfl)) (fun _ _ _ h => h) (Or.inl ⟨by rfl, ?_⟩) ?_ ?_
                         rotate_left; · intro w'; go_simp; with_reducible rfl
                         rotate_left; · simp only [Act.put, e1, e2, e3, i64_w, i32_w]; rfl
                         refine pure_ (i := 29) (N := some 125) (v := ?_) (a' := ?_) bb27_ rfl rfl (any_of HT_.out (by kernel_rfl)) (fun _ _ _ h => h) (Or.inl ⟨by rfl, ?_⟩) ?_ ?_
                         rotate_left; · intro w'; go_simp; with_reducible rfl
                         rotate_left; · simp only [Act.put, e1, e2, e3, i64_w, i32_w]; rfl
                         refine pure_ (i := 30) (N := some 126) (v := ?_) (a' := ?_) bb26_ rfl rfl (any_of HT_.out (by kernel_rfl)) (fun _ _ _ h => h) (Or.inl ⟨by rfl, ?_⟩) ?_ ?_
                         rotate_left; · intro w'; go_simp; with_reducible rfl
                         rotate_left; · simp only [Act.put, e1, e2, e3, i64_w, i32_w]; rfl
                         refine pure_ (i := 31) (N := some 127) (v := ?_) (a' := ?_) bb25_ rfl rfl (any_of HT_.out (by kernel_rfl)) (fun _ _ _ h => h) (Or.inl ⟨by rfl, ?_⟩) ?_ ?_
                         rotate_left; · intro w'; go_simp; with_reducible rfl
                         rotate_left; · simp only [Act.put, e1, e2, e3, i64_w, i32_w]; rfl
                         refine pure_ (i := 32) (N := some 128) (v := ?_) (a' := ?_) bb24_ rfl rfl (any_of HT_.out (by kernel_rfl)) (fun _ _ _ h => h) (Or.inl ⟨by rfl, ?_⟩) ?_ ?_
                         rotate_left; · intro w'; go_simp; with_reducible rfl
                         rotate_left; · simp only [Act.put, e1, e2, e3, i64_w, i32_w]; rfl
                         refine pure_ (i := 33) (N := some 129) (v := ?_) (a' := ?_) bb23_ rfl rfl (any_of HT_.out (by kernel_rfl)) (fun _ _ _ h => h) (Or.inl ⟨by rfl, ?_⟩) ?_ ?_
                         rotate_left; · intro w'; go_simp; with_reducible rfl
                         rotate_left; · simp only [Act.put, e1, e2, e3, i64_w, i32_w]; rfl
                         refine pure_ (i := 35) (N := some 131) (v := ?_) (a' := ?_) bb21_ rfl rfl (any_of HT_.out (by kernel_rfl)) (fun _ _ _ h => h) (Or.inl ⟨by rfl, ?_⟩) ?_ ?_
                         rotate_left; · intro w'; go_simp; with_reducible rfl
                         rotate_left; · simp only [Act.put, e1, e2, e3, i64_w, i32_w]; rfl
                         refine pure_ (i := 36) (N := some 132) (v := ?_) (a' := ?_) bb19_ rfl rfl (any_of HT_.out (by kernel_rfl)) (fun _ _ _ h => h) (Or.inl ⟨by rfl, ?_⟩) ?_ ?_
                         rotate_left; · intro w'; go_simp; with_reducible rfl
                         rotate_left; · simp only [Act.put, e1, e2, e3, i64_w, i32_w]; rfl
                         refine pure_ (i := 37) (N := some 133) (v := ?_) (a' := ?_) bb17_ rfl rfl (any_of HT_.out (by kernel_rfl)) (fun _ _ _ h => h) (Or.inl ⟨by rfl, ?_⟩) ?_ ?_
                         rotate_left; · intro w'; go_simp; with_reducible rfl
                         rotate_left; · simp only [Act.put, e1, e2, e3, i64_w, i32_w]; rfl
                         refine pure_ (i := 38) (N := some 134) (v := ?_) (a' := ?_) bb15_ rfl rfl (any_of HT_.out (by kernel_rfl)) (fun _ _ _ h => h) (Or.inl ⟨by rfl, ?_⟩) ?_ ?_
                         rotate_left; · intro w'; go_simp; with_reducible rfl
                         rotate_left; · simp only [Act.put, e1, e2, e3, i64_w, i32_w]; rfl
                         refine take_ (i := 34) (N := some 130) (v := ?_) (a' := ?_) bb14_ rfl rfl (take_ofW HT_.out HW_.out (by kernel_rfl)) (fun _ _ _ h => h) (Or.inl ⟨by rfl, ?_⟩) hHeld ?_ ?_
                         rotate_left; · rintro w' ⟨s0, s1, s2, s3, s4, s5⟩; go_simp; with_reducible rfl
                         rotate_left; · simp only [Act.put, e1, e2, e3, i64_w, i32_w]; rfl
                         refine pure_ (i := 39) (N := some 135) (v := ?_) (a' := ?_) bb13_ rfl rfl (any_of HT_.out (by kernel_rfl)) (fun _ _ _ h => h) (Or.inl ⟨by rfl, ?_⟩) ?_ ?_
                         rotate_left; · intro w'; go_simp; with_reducible rfl
                         rotate_left; · simp only [Act.put, e1, e2, e3, i64_w, i32_w]; rfl
                         refine pure_ (i := 40) (N := some 136) (v := ?_) (a' := ?_) bb12_ rfl rfl (any_of HT_.out (by kernel_rfl)) (fun _ _ _ h => h) (Or.inl ⟨by rfl, ?_⟩) ?_ ?_
                         rotate_left; · intro w'; go_simp; with_reducible rfl
                         rotate_left; · simp only [Act.put, e1, e2, e3, i64_w, i32_w]; rfl
                         refine pure_ (i := 41) (N := some 137) (v := ?_) (a' := ?_) bb11_ rfl rfl (any_of HT_.out (by kernel_rfl)) (fun _ _ _ h => h) (Or.inl ⟨by rfl, ?_⟩) ?_ ?_
                         rotate_left; · intro w'; go_simp; with_reducible rfl
                         rotate_left; · simp only [Act.put, e1, e2, e3, i64_w, i32_w]; rfl
                         refine pure_ (i := 42) (N := some 138) (v := ?_) (a' := ?_) bb10_ rfl rfl (any_of HT_.out (by kernel_rfl)) (fun _ _ _ h => h) (Or.inl ⟨by rfl, ?_⟩) ?_ ?_
                         rotate_left; · intro w'; go_simp; with_reducible rfl
                         rotate_left; · simp only [Act.put, e1, e2, e3, i64_w, i32_w]; rfl
                         refine pure_ (i := 43) (N := some 139) (v := ?_) (a' := ?_) bb9_ rfl rfl (any_of HT_.out (by kernel_rfl)) (fun _ _ _ h => h) (Or.inl ⟨by rfl, ?_⟩) ?_ ?_
                         rotate_left; · intro w'; go_simp; with_reducible rfl
                         rotate_left; · simp only [Act.put, e1, e2, e3, i64_w, i32_w]; rfl
                         refine pure_ (i := 44) (N := some 140) (v := ?_) (a' := ?_) bb8_ rfl rfl (any_of HT_.out (by kernel_rfl)) (fun _ _ _ h => h) (Or.inl ⟨by rfl, ?_⟩) ?_ ?_
                         rotate_left; · intro w'; go_simp; with_reducible rfl
                         rotate_left; · simp only [Act.put, e1, e2, e3, i64_w, i32_w]; rfl
                         refine pure_ (i := 45) (N := some 141) (v := ?_) (a' := ?_) bb7_ rfl rfl (any_of HT_.out (by kernel_rfl)) (fun _ _ _ h => h) (Or.inl ⟨by rfl, ?_⟩) ?_ ?_
                         rotate_left; · intro w'; go_simp; with_reducible rfl
                         rotate_left; · simp only [Act.put, e1, e2, e3, i64_w, i32_w]; rfl
                         refine pure_ (i := 46) (N := some 142) (v := ?_) (a' := ?_) bb6_ rfl rfl (any_of HT_.out (by kernel_rfl)) (fun _ _ _ h => h) (Or.inl ⟨by rfl, ?_⟩) ?_ ?_
                         rotate_left; · intro w'; go_simp; with_reducible rfl
                         rotate_left; · simp only [Act.put, e1, e2, e3, i64_w, i32_w]; rfl
                         refine pure_ (i := 47) (N := some 143) (v := ?_) (a' := ?_) bb5_ rfl rfl (any_of HT_.out (by kernel_rfl)) (fun _ _ _ h => h) (Or.inl ⟨by rfl, ?_⟩) ?_ ?_
                         rotate_left; · intro w'; go_simp; with_reducible rfl
                         rotate_left; · simp only [Act.put, e1, e2, e3, i64_w, i32_w]; rfl
                         refine pure_ (i := 48) (N := some 144) (v := ?_) (a' := ?_) bb4_ rfl rfl (any_of HT_.out (by kernel_rfl)) (fun _ _ _ h => h) (Or.inl ⟨by rfl, ?_⟩) ?_ ?_
                         rotate_left; · intro w'; go_simp; with_reducible rfl
                         rotate_left; · simp only [Act.put, e1, e2, e3, i64_w, i32_w]; rfl
                         refine take_ (i := 49) (N := some 145) (v := ?_) (a' := ?_) bb3_ rfl rfl (take_ofW HT_.out HW_.out (by kernel_rfl)) (fun _ _ _ h => h) (Or.inl ⟨by rfl, ?_⟩) hHeld ?_ ?_
                         rotate_left; · rintro w' ⟨s0, s1, s2, s3, s4, s5⟩; go_simp; with_reducible rfl
                         rotate_left; · simp only [Act.put, e1, e2, e3, i64_w, i32_w]; rfl
                         refine pure_ (i := 50) (N := some 146) (v := ?_) (a' := ?_) bb2_ rfl rfl (any_of HT_.out (by kernel_rfl)) (fun _ _ _ h => h) (Or.inl ⟨by rfl, ?_⟩) ?_ ?_
                         rotate_left; · intro w'; go_simp; with_reducible rfl
                         rotate_left; · simp only [Act.put, e1, e2, e3, i64_w, i32_w]; rfl
                         refine pure_ (i := 51) (N := some 147) (v := ?_) (a' := ?_) bb1_ rfl rfl (any_of HT_.out (by kernel_rfl)) (fun _ _ _ h => h) (Or.inl ⟨by rfl, ?_⟩) ?_ ?_
                         rotate_left; · intro w'; go_simp; with_reducible rfl
                         rotate_left; · simp only [Act.put, e1, e2, e3, i64_w, i32_w]; rfl
                         refine pure_ (i := 52) (N := some 148) (v := ?_) (a' := ?_) bb0_ rfl rfl (any_of HT_.out (by kernel_rfl)) (fun _ _ _ h => h) (Or.inl ⟨by rfl, ?_⟩) ?_ ?_
                         rotate_left; · intro w'; go_simp; with_reducible rfl
                         rotate_left; · simp only [Act.put, e1, e2, e3, i64_w, i32_w]; rfl
                         refine done_ (done_of HT_.out (by kernel_rfl)) ?_
                         try go_wp2
                         go_meet
                         case rel => exact ⟨_, ((t610 != ((rd_T48 l0_3 x5_1).f4))), (by first | rfl | (simp; done) | (simp [*]; done)), H', ⟨by have := HK1.out; have := HJ13.out; first | omega | exact Nat.le_refl _⟩, ⟨by (with_reducible repeat (first | apply Kd.R_alloc | apply Kd.R_drewN | apply Kd.R_drew)); exact HO599.out⟩, ⟨by (with_reducible repeat (first | apply Kd.R_alloc | apply Kd.R_drewN | apply Kd.R_drew)); exact Kd.R_mono HO618.out (fun _ hk => ⟨hk.2, hk.1⟩)⟩, ⟨by (with_reducible repeat (first | apply Kd.R_alloc | apply Kd.R_drewN | apply Kd.R_drew)); exact Kd.R_mono HO622.out (fun _ hk => ⟨hk.2, hk.1⟩)⟩, ⟨by (with_reducible repeat (first | refine blk_drewN ?_ _ | refine blk_drew ?_ | refine blk_alloc ?_ _)); exact BK561.out⟩, ⟨by (with_reducible repeat (first | refine blk_drewN ?_ _ | refine blk_drew ?_ | refine blk_alloc ?_ _)); exact BK590.out⟩, ⟨by repeat (first | (with_reducible first | exact HI567.out | apply IsS61.alloc | apply IsS61.drewN | apply IsS61.drew | apply IsS61.set_0 | apply IsS61.set_1 | refine IsS61.far ?_ NB567_561.out _ | refine IsS61.far ?_ NB567_590.out _) | exact HI567.out)⟩, ⟨by repeat (first | (with_reducible first | exact HB.out | apply below_alloc | apply pw_below_drewN | apply below_drew1 | refine below_set ?_ (IsS61.ge HI567.out) | refine below_set ?_ GE561.out | refine below_set ?_ GE590.out) | exact HB.out)⟩⟩
                        ·rw [if_neg c62] at H
                         have c62b0 : ((rd y591 t594) == 8) = false := beq_eq_false_iff_ne.mpr c62
                         have c62b1 : ((rd y591 t594) != 8) = true := bne_iff_ne.mpr c62
                         have H' := Aside0.mk H
                         clear H
                         try go_wp2
                         have n0_ := Aside0.mk (Kd.R_drew HO593.out)
                         have n1_ := Aside0.mk (Kd.R_drew HO599.out)
                         have n2_ := Aside0.mk (Kd.R_drew HO618.out)
                         have n3_ := Aside0.mk (Kd.R_drew HO622.out)
                         have n4_ := Aside0.mk (blk_drew BK561.out)
                         have n5_ := Aside0.mk (blk_drew BK590.out)
                         have n6_ := Aside0.mk (IsS61.drew HI567.out)
                         have n7_ := Aside0.mk (below_drew1 HB.out)
                         clear HO593
                         clear HO599
                         clear HO618
                         clear HO622
                         clear BK561
                         clear BK590
                         clear HI567
                         clear HB
                         have HO593 := n0_
                         have HO599 := n1_
                         have HO618 := n2_
                         have HO622 := n3_
                         have BK561 := n4_
                         have BK590 := n5_
                         have HI567 := n6_
                         have HB := n7_
                         clear n0_ n1_ n2_ n3_ n4_ n5_ n6_ n7_
                         refine start_ (n := 53) (S := fun w' => w'.cell? ⟨gb590, 0, none⟩ = some (.int .i64 ((rd_T48 l0_3 x5_1).f0)) ∧ w'.cell? ⟨gb590, 1, none⟩ = some (.int .i64 ((rd_T48 l0_3 x5_1).f1)) ∧ w'.cell? ⟨gb590, 2, none⟩ = some (.int .i64 ((rd_T48 l0_3 x5_1).f2)) ∧ w'.cell? ⟨gb590, 3, none⟩ = some (.int .i64 ((rd_T48 l0_3 x5_1).f3)) ∧ w'.cell? ⟨gb590, 4, none⟩ = some (.int .u64 ((rd_T48 l0_3 x5_1).f4)) ∧ w'.cell? ⟨gb590, 5, none⟩ = some (.slice A589_5 ((rd_T48 l0_3 x5_1).f5).length c589_5)) (ds := []) bb57_ (by kernel_rfl) rfl rfl ⟨bc BK590 0, bc BK590 1, bc BK590 2, bc BK590 3, bc BK590 4, bc BK590 5⟩ (fun hHeld => ?_); refine with_tabW gangwaylaw9_MemParts.tab14 gangwaylaw9_MemParts.bits14 (fun HT_ HW_ => ?_)
                         generalize w46.drew = w66 at HO593 HO599 HO618 HO622 BK561 BK590 HI567 HB hHeld ⊢
                         refine pure_ (i := 0) (N := some 96) (v := ?_) (a' := ?_) bb56_ rfl rfl (any_of HT_.out (by kernel_rfl)) (fun _ _ _ h => h) (Or.inl ⟨by rfl, ?_⟩) ?_ ?_
                         rotate_left; · intro w'; go_simp; with_reducible rfl
                         rotate_left; · simp only [Act.put, e1, e2, e3, i64_w, i32_w]; rfl
                         refine one_ (i := 1) (N := some 97) bb55_ rfl rfl (one_of HT_.out (by kernel_rfl)) (by decide) (fun K hK => ?_)
                         refine goes_ Try.func8 (by kernel_rfl) rfl #[.int .i64 t600] (by rfl) rfl rfl (by (try simp only [List.map_toArray, List.map_cons, List.map_nil]); first | done | rfl | (simp only [List.length_drop, List.length_take]; rfl)) ?_
                         with_reducible refine (gangwaylaw9_num.calls t600 t624 _ A47.out).mono ?_
                         rintro e w' ⟨rfl, ⟨nd, rfl⟩⟩
                         refine ⟨_, rfl, ?_⟩
                         refine hK.out _ _ ⟨bc BK590 0, bc BK590 1, bc BK590 2, bc BK590 3, bc BK590 4, bc BK590 5⟩ (fun hHeld => ?_)
                         clear hK K
                         refine norm_ (a' := ?_) ?_ ?_
                         rotate_left
                         ·show Act.put _ (some 97) _ = _
                          simp only [Act.put, e1, e2, e3, i64_w, i32_w]
                          rfl
                         refine pure_ (i := 2) (N := some 98) (v := ?_) (a' := ?_) bb54_ rfl rfl (any_of HT_.out (by kernel_rfl)) (fun _ _ _ h => h) (Or.inl ⟨by rfl, ?_⟩) ?_ ?_
                         rotate_left; · intro w'; go_simp; with_reducible rfl
                         rotate_left; · simp only [Act.put, e1, e2, e3, i64_w, i32_w]; rfl
                         refine pure_ (i := 3) (N := some 99) (v := ?_) (a' := ?_) bb53_ rfl rfl (any_of HT_.out (by kernel_rfl)) (fun _ _ _ h => h) (Or.inl ⟨by rfl, ?_⟩) ?_ ?_
                         rotate_left; · intro w'; go_simp; with_reducible rfl
                         rotate_left; · simp only [Act.put, e1, e2, e3, i64_w, i32_w]; rfl
                         refine pure_ (i := 4) (N := some 100) (v := ?_) (a' := ?_) bb52_ rfl rfl (any_of HT_.out (by kernel_rfl)) (fun _ _ _ h => h) (Or.inl ⟨by rfl, ?_⟩) ?_ ?_
                         rotate_left; · intro w'; go_simp; with_reducible rfl
                         rotate_left; · simp only [Act.put, e1, e2, e3, i64_w, i32_w]; rfl
                         refine one_ (i := 5) (N := some 101) bb51_ rfl rfl (one_of HT_.out (by kernel_rfl)) (by decide) (fun K hK => ?_)
                         refine goes_ Try.func8 (by kernel_rfl) rfl #[.int .i64 t605] (by rfl) rfl rfl (by (try simp only [List.map_toArray, List.map_cons, List.map_nil]); first | done | rfl | (simp only [List.length_drop, List.length_take]; rfl)) ?_
                         with_reducible refine (gangwaylaw9_num.calls t605 t625 _ A49.out).mono ?_
                         rintro e w' ⟨rfl, ⟨nd, rfl⟩⟩
                         refine ⟨_, rfl, ?_⟩
                         refine hK.out _ _ ⟨bc BK590 0, bc BK590 1, bc BK590 2, bc BK590 3, bc BK590 4, bc BK590 5⟩ (fun hHeld => ?_)
                         clear hK K
                         refine norm_ (a' := ?_) ?_ ?_
                         rotate_left
                         ·show Act.put _ (some 101) _ = _
                          simp only [Act.put, e1, e2, e3, i64_w, i32_w]
                          rfl
                         refine pure_ (i := 6) (N := some 102) (v := ?_) (a' := ?_) bb50_ rfl rfl (any_of HT_.out (by kernel_rfl)) (fun _ _ _ h => h) (Or.inl ⟨by rfl, ?_⟩) ?_ ?_
                         rotate_left; · intro w'; go_simp; with_reducible rfl
                         rotate_left; · simp only [Act.put, e1, e2, e3, i64_w, i32_w]; rfl
                         refine pure_ (i := 7) (N := some 103) (v := ?_) (a' := ?_) bb49_ rfl rfl (any_of HT_.out (by kernel_rfl)) (fun _ _ _ h => h) (Or.inl ⟨by rfl, ?_⟩) ?_ ?_
                         rotate_left; · intro w'; go_simp; with_reducible rfl
                         rotate_left; · simp only [Act.put, e1, e2, e3, i64_w, i32_w]; rfl
                         refine pure_ (i := 8) (N := some 104) (v := ?_) (a' := ?_) bb48_ rfl rfl (any_of HT_.out (by kernel_rfl)) (fun _ _ _ h => h) (Or.inl ⟨by rfl, ?_⟩) ?_ ?_
                         rotate_left; · intro w'; go_simp; with_reducible rfl
                         rotate_left; · simp only [Act.put, e1, e2, e3, i64_w, i32_w]; rfl
                         refine pure_ (i := 9) (N := some 105) (v := ?_) (a' := ?_) bb47_ rfl rfl (any_of HT_.out (by kernel_rfl)) (fun _ _ _ h => h) (Or.inl ⟨by rfl, ?_⟩) ?_ ?_
                         rotate_left; · intro w'; go_simp; with_reducible rfl
                         rotate_left; · simp only [Act.put, e1, e2, e3, i64_w, i32_w]; rfl
                         refine one_ (i := 10) (N := some 106) bb46_ rfl rfl (one_of HT_.out (by kernel_rfl)) (by decide) (fun K hK => ?_)
                         refine goes_ Try.func8 (by kernel_rfl) rfl #[.int .i64 t611] (by rfl) rfl rfl (by (try simp only [List.map_toArray, List.map_cons, List.map_nil]); first | done | rfl | (simp only [List.length_drop, List.length_take]; rfl)) ?_
                         with_reducible refine (gangwaylaw9_num.calls t611 t626 _ A51.out).mono ?_
                         rintro e w' ⟨rfl, ⟨nd, rfl⟩⟩
                         refine ⟨_, rfl, ?_⟩
                         refine hK.out _ _ ⟨bc BK590 0, bc BK590 1, bc BK590 2, bc BK590 3, bc BK590 4, bc BK590 5⟩ (fun hHeld => ?_)
                         clear hK K
                         refine norm_ (a' := ?_) ?_ ?_
                         rotate_left
                         ·show Act.put _ (some 106) _ = _
                          simp only [Act.put, e1, e2, e3, i64_w, i32_w]
                          rfl
                         refine pure_ (i := 11) (N := some 107) (v := ?_) (a' := ?_) bb45_ rfl rfl (any_of HT_.out (by kernel_rfl)) (fun _ _ _ h => h) (Or.inl ⟨by rfl, ?_⟩) ?_ ?_
                         rotate_left; · intro w'; go_simp; with_reducible rfl
                         rotate_left; · simp only [Act.put, e1, e2, e3, i64_w, i32_w]; rfl
                         refine pure_ (i := 12) (N := some 108) (v := ?_) (a' := ?_) bb44_ rfl rfl (any_of HT_.out (by kernel_rfl)) (fun _ _ _ h => h) (Or.inl ⟨by rfl, ?_⟩) ?_ ?_
                         rotate_left; · intro w'; go_simp; with_reducible rfl
                         rotate_left; · simp only [Act.put, e1, e2, e3, i64_w, i32_w]; rfl
                         refine pure_ (i := 13) (N := some 109) (v := ?_) (a' := ?_) bb43_ rfl rfl (any_of HT_.out (by kernel_rfl)) (fun _ _ _ h => h) (Or.inl ⟨by rfl, ?_⟩) ?_ ?_
                         rotate_left; · intro w'; go_simp; with_reducible rfl
                         rotate_left; · simp only [Act.put, e1, e2, e3, i64_w, i32_w]; rfl
                         refine pure_ (i := 14) (N := some 110) (v := ?_) (a' := ?_) bb42_ rfl rfl (any_of HT_.out (by kernel_rfl)) (fun _ _ _ h => h) (Or.inl ⟨by rfl, ?_⟩) ?_ ?_
                         rotate_left; · intro w'; go_simp; with_reducible rfl
                         rotate_left; · simp only [Act.put, e1, e2, e3, i64_w, i32_w]; rfl
                         refine one_ (i := 15) (N := some 111) bb41_ rfl rfl (one_of HT_.out (by kernel_rfl)) (by decide) (fun K hK => ?_)
                         refine goes_ Try.func8 (by kernel_rfl) rfl #[.int .i64 t619] (by rfl) rfl rfl (by (try simp only [List.map_toArray, List.map_cons, List.map_nil]); first | done | rfl | (simp only [List.length_drop, List.length_take]; rfl)) ?_
                         with_reducible refine (gangwaylaw9_num.calls t619 t627 _ A53.out).mono ?_
                         rintro e w' ⟨rfl, ⟨nd, rfl⟩⟩
                         refine ⟨_, rfl, ?_⟩
                         obtain ⟨Ao67, co67, eo67⟩ := Kd.R_slice HO599.out
                         (first | subst eo67 | (injection eo67 with f1_ f2_ f3_; have f4_ := f1_.symm; have f5_ := f3_.symm; clear f1_ f2_ f3_; subst f4_; subst f5_))
                         obtain ⟨Ao68, co68, eo68⟩ := Kd.R_slice HO618.out
                         (first | subst eo68 | (injection eo68 with f1_ f2_ f3_; have f4_ := f1_.symm; have f5_ := f3_.symm; clear f1_ f2_ f3_; subst f4_; subst f5_))
                         refine hK.out _ _ ⟨bc BK590 0, bc BK590 1, bc BK590 2, bc BK590 3, bc BK590 4, bc BK590 5⟩ (fun hHeld => ?_)
                         clear hK K
                         refine norm_ (a' := ?_) ?_ ?_
                         rotate_left
                         ·show Act.put _ (some 111) _ = _
                          simp only [Act.put, e1, e2, e3, i64_w, i32_w]
                          rfl
                         refine pure_ (i := 16) (N := some 112) (v := ?_) (a' := ?_) bb40_ rfl rfl (any_of HT_.out (by kernel_rfl)) (fun _ _ _ h => h) (Or.inl ⟨by rfl, ?_⟩) ?_ ?_
                         rotate_left; · intro w'; go_simp; with_reducible rfl
                         rotate_left; · simp only [Act.put, e1, e2, e3, i64_w, i32_w]; rfl
                         refine pure_ (i := 17) (N := some 113) (v := ?_) (a' := ?_) bb39_ rfl rfl (any_of HT_.out (by kernel_rfl)) (fun _ _ _ h => h) (Or.inl ⟨by rfl, ?_⟩) ?_ ?_
                         rotate_left; · intro w'; go_simp; with_reducible rfl
                         rotate_left; · simp only [Act.put, e1, e2, e3, i64_w, i32_w]; rfl
                         refine pure_ (i := 18) (N := some 114) (v := ?_) (a' := ?_) bb38_ rfl rfl (any_of HT_.out (by kernel_rfl)) (fun _ _ _ h => h) (Or.inl ⟨by rfl, ?_⟩) ?_ ?_
                         rotate_left; · intro w'; go_simp; with_reducible rfl
                         rotate_left; · simp only [Act.put, e1, e2, e3, i64_w, i32_w]; rfl
                         refine pure_ (i := 19) (N := some 115) (v := ?_) (a' := ?_) bb37_ rfl rfl (any_of HT_.out (by kernel_rfl)) (fun _ _ _ h => h) (Or.inl ⟨by rfl, ?_⟩) ?_ ?_
                         rotate_left; · intro w'; go_simp; with_reducible rfl
                         rotate_left; · simp only [Act.put, e1, e2, e3, i64_w, i32_w]; rfl
                         refine pure_ (i := 20) (N := some 116) (v := ?_) (a' := ?_) bb36_ rfl rfl (any_of HT_.out (by kernel_rfl)) (fun _ _ _ h => h) (Or.inl ⟨by rfl, ?_⟩) ?_ ?_
                         rotate_left; · intro w'; go_simp; with_reducible rfl
                         rotate_left; · simp only [Act.put, e1, e2, e3, i64_w, i32_w]; rfl
                         refine pure_ (i := 21) (N := some 117) (v := ?_) (a' := ?_) bb35_ rfl rfl (any_of HT_.out (by kernel_rfl)) (fun _ _ _ h => h) (Or.inl ⟨by rfl, ?_⟩) ?_ ?_
                         rotate_left; · intro w'; go_simp; with_reducible rfl
                         rotate_left; · simp only [Act.put, e1, e2, e3, i64_w, i32_w]; rfl
                         refine pure_ (i := 22) (N := some 118) (v := ?_) (a' := ?_) bb34_ rfl rfl (any_of HT_.out (by kernel_rfl)) (fun _ _ _ h => h) (Or.inl ⟨by rfl, ?_⟩) ?_ ?_
                         rotate_left; · intro w'; go_simp; with_reducible rfl
                         rotate_left; · simp only [Act.put, e1, e2, e3, i64_w, i32_w]; rfl
                         refine pure_ (i := 23) (N := some 119) (v := ?_) (a' := ?_) bb33_ rfl rfl (any_of HT_.out (by kernel_rfl)) (fun _ _ _ h => h) (Or.inl ⟨by rfl, ?_⟩) ?_ ?_
                         rotate_left; · intro w'; go_simp; with_reducible rfl
                         rotate_left; · simp only [Act.put, e1, e2, e3, i64_w, i32_w]; rfl
                         refine pure_ (i := 24) (N := some 120) (v := ?_) (a' := ?_) bb32_ rfl rfl (any_of HT_.out (by kernel_rfl)) (fun _ _ _ h => h) (Or.inl ⟨by rfl, ?_⟩) ?_ ?_
                         rotate_left; · intro w'; go_simp; with_reducible rfl
                         rotate_left; · simp only [Act.put, e1, e2, e3, i64_w, i32_w]; rfl
                         refine pure_ (i := 25) (N := some 121) (v := ?_) (a' := ?_) bb31_ rfl rfl (any_of HT_.out (by kernel_rfl)) (fun _ _ _ h => h) (Or.inl ⟨by rfl, ?_⟩) ?_ ?_
                         rotate_left; · intro w'; go_simp; with_reducible rfl
                         rotate_left; · simp only [Act.put, e1, e2, e3, i64_w, i32_w]; rfl
                         refine pure_ (i := 26) (N := some 122) (v := ?_) (a' := ?_) bb30_ rfl rfl (any_of HT_.out (by kernel_rfl)) (fun _ _ _ h => h) (Or.inl ⟨by rfl, ?_⟩) ?_ ?_
                         rotate_left; · intro w'; go_simp; with_reducible rfl
                         rotate_left; · simp only [Act.put, e1, e2, e3, i64_w, i32_w]; rfl
                         refine pure_ (i := 27) (N := some 123) (v := ?_) (a' := ?_) bb29_ rfl rfl (any_of HT_.out (by kernel_rfl)) (fun _ _ _ h => h) (Or.inl ⟨by rfl, ?_⟩) ?_ ?_
                         rotate_left; · intro w'; go_simp; with_reducible rfl
                         rotate_left; · simp only [Act.put, e1, e2, e3, i64_w, i32_w]; rfl
                         refine pure_ (i := 28) (N := some 124) (v := ?_) (a' := ?_) bb28_ rfl rfl (any_of HT_.out (by kernel_rfl)) (fun _ _ _ h => h) (Or.inl ⟨by rfl, ?_⟩) ?_ ?_
                         rotate_left; · intro w'; go_simp; with_reducible rfl
                         rotate_left; · simp only [Act.put, e1, e2, e3, i64_w, i32_w]; rfl
                         refine pure_ (i := 29) (N := some 125) (v := ?_) (a' := ?_) bb27_ rfl rfl (any_of HT_.out (by kernel_rfl)) (fun _ _ _ h => h) (Or.inl ⟨by rfl, ?_⟩) ?_ ?_
                         rotate_left; · intro w'; go_simp; with_reducible rfl
                         rotate_left; · simp only [Act.put, e1, e2, e3, i64_w, i32_w]; rfl
                         refine pure_ (i := 30) (N := some 126) (v := ?_) (a' := ?_) bb26_ rfl rfl (any_of HT_.out (by kernel_rfl)) (fun _ _ _ h => h) (Or.inl ⟨by rfl, ?_⟩) ?_ ?_
                         rotate_left; · intro w'; go_simp; with_reducible rfl
                         rotate_left; · simp only [Act.put, e1, e2, e3, i64_w, i32_w]; rfl
                         refine pure_ (i := 31) (N := some 127) (v := ?_) (a' := ?_) bb25_ rfl rfl (any_of HT_.out (by kernel_rfl)) (fun _ _ _ h => h) (Or.inl ⟨by rfl, ?_⟩) ?_ ?_
                         rotate_left; · intro w'; go_simp; with_reducible rfl
                         rotate_left; · simp only [Act.put, e1, e2, e3, i64_w, i32_w]; rfl
                         refine pure_ (i := 32) (N := some 128) (v := ?_) (a' := ?_) bb24_ rfl rfl (any_of HT_.out (by kernel_rfl)) (fun _ _ _ h => h) (Or.inl ⟨by rfl, ?_⟩) ?_ ?_
                         rotate_left; · intro w'; go_simp; with_reducible rfl
                         rotate_left; · simp only [Act.put, e1, e2, e3, i64_w, i32_w]; rfl
                         refine pure_ (i := 33) (N := some 129) (v := ?_) (a' := ?_) bb23_ rfl rfl (any_of HT_.out (by kernel_rfl)) (fun _ _ _ h => h) (Or.inl ⟨by rfl, ?_⟩) ?_ ?_
                         rotate_left; · intro w'; go_simp; with_reducible rfl
                         rotate_left; · simp only [Act.put, e1, e2, e3, i64_w, i32_w]; rfl
                         refine pure_ (i := 35) (N := some 131) (v := ?_) (a' := ?_) bb21_ rfl rfl (any_of HT_.out (by kernel_rfl)) (fun _ _ _ h => h) (Or.inl ⟨by rfl, ?_⟩) ?_ ?_
                         rotate_left; · intro w'; go_simp; with_reducible rfl
                         rotate_left; · simp only [Act.put, e1, e2, e3, i64_w, i32_w]; rfl
                         refine pure_ (i := 36) (N := some 132) (v := ?_) (a' := ?_) bb19_ rfl rfl (any_of HT_.out (by kernel_rfl)) (fun _ _ _ h => h) (Or.inl ⟨by rfl, ?_⟩) ?_ ?_
                         rotate_left; · intro w'; go_simp; with_reducible rfl
                         rotate_left; · simp only [Act.put, e1, e2, e3, i64_w, i32_w]; rfl
                         refine pure_ (i := 37) (N := some 133) (v := ?_) (a' := ?_) bb17_ rfl rfl (any_of HT_.out (by kernel_rfl)) (fun _ _ _ h => h) (Or.inl ⟨by rfl, ?_⟩) ?_ ?_
                         rotate_left; · intro w'; go_simp; with_reducible rfl
                         rotate_left; · simp only [Act.put, e1, e2, e3, i64_w, i32_w]; rfl
                         refine pure_ (i := 38) (N := some 134) (v := ?_) (a' := ?_) bb15_ rfl rfl (any_of HT_.out (by kernel_rfl)) (fun _ _ _ h => h) (Or.inl ⟨by rfl, ?_⟩) ?_ ?_
                         rotate_left; · intro w'; go_simp; with_reducible rfl
                         rotate_left; · simp only [Act.put, e1, e2, e3, i64_w, i32_w]; rfl
                         refine take_ (i := 34) (N := some 130) (v := ?_) (a' := ?_) bb14_ rfl rfl (take_ofW HT_.out HW_.out (by kernel_rfl)) (fun _ _ _ h => h) (Or.inl ⟨by rfl, ?_⟩) hHeld ?_ ?_
                         rotate_left; · rintro w' ⟨s0, s1, s2, s3, s4, s5⟩; go_simp; with_reducible rfl
                         rotate_left; · simp only [Act.put, e1, e2, e3, i64_w, i32_w]; rfl
                         refine pure_ (i := 39) (N := some 135) (v := ?_) (a' := ?_) bb13_ rfl rfl (any_of HT_.out (by kernel_rfl)) (fun _ _ _ h => h) (Or.inl ⟨by rfl, ?_⟩) ?_ ?_
                         rotate_left; · intro w'; go_simp; with_reducible rfl
                         rotate_left; · simp only [Act.put, e1, e2, e3, i64_w, i32_w]; rfl
                         refine pure_ (i := 40) (N := some 136) (v := ?_) (a' := ?_) bb12_ rfl rfl (any_of HT_.out (by kernel_rfl)) (fun _ _ _ h => h) (Or.inl ⟨by rfl, ?_⟩) ?_ ?_
                         rotate_left; · intro w'; go_simp; with_reducible rfl
                         rotate_left; · simp only [Act.put, e1, e2, e3, i64_w, i32_w]; rfl
                         refine pure_ (i := 41) (N := some 137) (v := ?_) (a' := ?_) bb11_ rfl rfl (any_of HT_.out (by kernel_rfl)) (fun _ _ _ h => h) (Or.inl ⟨by rfl, ?_⟩) ?_ ?_
                         rotate_left; · intro w'; go_simp; with_reducible rfl
                         rotate_left; · simp only [Act.put, e1, e2, e3, i64_w, i32_w]; rfl
                         refine pure_ (i := 42) (N := some 138) (v := ?_) (a' := ?_) bb10_ rfl rfl (any_of HT_.out (by kernel_rfl)) (fun _ _ _ h => h) (Or.inl ⟨by rfl, ?_⟩) ?_ ?_
                         rotate_left; · intro w'; go_simp; with_reducible rfl
                         rotate_left; · simp only [Act.put, e1, e2, e3, i64_w, i32_w]; rfl
                         refine pure_ (i := 43) (N := some 139) (v := ?_) (a' := ?_) bb9_ rfl rfl (any_of HT_.out (by kernel_rfl)) (fun _ _ _ h => h) (Or.inl ⟨by rfl, ?_⟩) ?_ ?_
                         rotate_left; · intro w'; go_simp; with_reducible rfl
                         rotate_left; · simp only [Act.put, e1, e2, e3, i64_w, i32_w]; rfl
                         refine pure_ (i := 44) (N := some 140) (v := ?_) (a' := ?_) bb8_ rfl rfl (any_of HT_.out (by kernel_rfl)) (fun _ _ _ h => h) (Or.inl ⟨by rfl, ?_⟩) ?_ ?_
                         rotate_left; · intro w'; go_simp; with_reducible rfl
                         rotate_left; · simp only [Act.put, e1, e2, e3, i64_w, i32_w]; rfl
                         refine pure_ (i := 45) (N := some 141) (v := ?_) (a' := ?_) bb7_ rfl rfl (any_of HT_.out (by kernel_rfl)) (fun _ _ _ h => h) (Or.inl ⟨by rfl, ?_⟩) ?_ ?_
                         rotate_left; · intro w'; go_simp; with_reducible rfl
                         rotate_left; · simp only [Act.put, e1, e2, e3, i64_w, i32_w]; rfl
                         refine pure_ (i := 46) (N := some 142) (v := ?_) (a' := ?_) bb6_ rfl rfl (any_of HT_.out (by kernel_rfl)) (fun _ _ _ h => h) (Or.inl ⟨by rfl, ?_⟩) ?_ ?_
                         rotate_left; · intro w'; go_simp; with_reducible rfl
                         rotate_left; · simp only [Act.put, e1, e2, e3, i64_w, i32_w]; rfl
                         refine pure_ (i := 47) (N := some 143) (v := undef) (a' := ?_) bb5_ rfl rfl (any_of HT_.out (by kernel_rfl)) (fun _ _ _ h => h) (Or.inr ⟨by rfl, rfl⟩) ?_ ?_
                         rotate_left; · simp only [Act.put, e1, e2, e3, i64_w, i32_w]; rfl
                         refine pure_ (i := 48) (N := some 144) (v := undef) (a' := ?_) bb4_ rfl rfl (any_of HT_.out (by kernel_rfl)) (fun _ _ _ h => h) (Or.inr ⟨by rfl, rfl⟩) ?_ ?_
                         rotate_left; · simp only [Act.put, e1, e2, e3, i64_w, i32_w]; rfl
                         refine pure_ (i := 49) (N := some 145) (v := undef) (a' := ?_) bb3_ rfl rfl (any_of HT_.out (by kernel_rfl)) (fun _ _ _ h => h) (Or.inr ⟨by rfl, rfl⟩) ?_ ?_
                         rotate_left; · simp only [Act.put, e1, e2, e3, i64_w, i32_w]; rfl
                         refine pure_ (i := 50) (N := some 146) (v := undef) (a' := ?_) bb2_ rfl rfl (any_of HT_.out (by kernel_rfl)) (fun _ _ _ h => h) (Or.inr ⟨by rfl, rfl⟩) ?_ ?_
                         rotate_left; · simp only [Act.put, e1, e2, e3, i64_w, i32_w]; rfl
                         refine pure_ (i := 51) (N := some 147) (v := ?_) (a' := ?_) bb1_ rfl rfl (any_of HT_.out (by kernel_rfl)) (fun _ _ _ h => h) (Or.inl ⟨by rfl, ?_⟩) ?_ ?_
                         rotate_left; · intro w'; go_simp; with_reducible rfl
                         rotate_left; · simp only [Act.put, e1, e2, e3, i64_w, i32_w]; rfl
                         refine pure_ (i := 52) (N := some 148) (v := ?_) (a' := ?_) bb0_ rfl rfl (any_of HT_.out (by kernel_rfl)) (fun _ _ _ h => h) (Or.inl ⟨by rfl, ?_⟩) ?_ ?_
                         rotate_left; · intro w'; go_simp; with_reducible rfl
                         rotate_left; · simp only [Act.put, e1, e2, e3, i64_w, i32_w]; rfl
                         refine done_ (done_of HT_.out (by kernel_rfl)) ?_
                         try go_wp2
                         go_meet
                         case rel => exact ⟨_, (false), (by first | rfl | (simp; done) | (simp [*]; done)), H', ⟨by have := HK1.out; have := HJ13.out; first | omega | exact Nat.le_refl _⟩, ⟨by (with_reducible repeat (first | apply Kd.R_alloc | apply Kd.R_drewN | apply Kd.R_drew)); exact HO599.out⟩, ⟨by (with_reducible repeat (first | apply Kd.R_alloc | apply Kd.R_drewN | apply Kd.R_drew)); exact Kd.R_mono HO618.out (fun _ hk => ⟨hk.2, hk.1⟩)⟩, ⟨by (with_reducible repeat (first | apply Kd.R_alloc | apply Kd.R_drewN | apply Kd.R_drew)); exact Kd.R_mono HO622.out (fun _ hk => ⟨hk.2, hk.1⟩)⟩, ⟨by (with_reducible repeat (first | refine blk_drewN ?_ _ | refine blk_drew ?_ | refine blk_alloc ?_ _)); exact BK561.out⟩, ⟨by (with_reducible repeat (first | refine blk_drewN ?_ _ | refine blk_drew ?_ | refine blk_alloc ?_ _)); exact BK590.out⟩, ⟨by repeat (first | (with_reducible first | exact HI567.out | apply IsS61.alloc | apply IsS61.drewN | apply IsS61.drew | apply IsS61.set_0 | apply IsS61.set_1 | refine IsS61.far ?_ NB567_561.out _ | refine IsS61.far ?_ NB567_590.out _) | exact HI567.out)⟩, ⟨by repeat (first | (with_reducible first | exact HB.out | apply below_alloc | apply pw_below_drewN | apply below_drew1 | refine below_set ?_ (IsS61.ge HI567.out) | refine below_set ?_ GE561.out | refine below_set ?_ GE590.out) | exact HB.out)⟩⟩
                       ·rw [if_neg c61] at H
                        exact absurd H (by simp)
                      ·rw [if_neg c59] at H
                       exact absurd H (by simp)
                     ·rw [if_neg c57] at H
                      have c57b0 : decide ((rd y591 t594) < 8) = false := decide_eq_false c57
                      clear c57
                      by_cases c69 : (rd y591 t594) = 8
                      ·rw [if_pos c69] at H
                       have c69b0 : ((rd y591 t594) == 8) = true := beq_iff_eq.mpr c69
                       have c69b1 : ((rd y591 t594) != 8) = false := bne_eq_false_iff_eq.mpr c69
                       clear c69
                       have H' := Aside0.mk H
                       clear H
                       try go_wp2
                       have n0_ := Aside0.mk (Kd.R_drew HO593.out)
                       have n1_ := Aside0.mk (Kd.R_drew HO599.out)
                       have n2_ := Aside0.mk (Kd.R_drew HO618.out)
                       have n3_ := Aside0.mk (Kd.R_drew HO622.out)
                       have n4_ := Aside0.mk (blk_drew BK561.out)
                       have n5_ := Aside0.mk (blk_drew BK590.out)
                       have n6_ := Aside0.mk (IsS61.drew HI567.out)
                       have n7_ := Aside0.mk (below_drew1 HB.out)
                       clear HO593
                       clear HO599
                       clear HO618
                       clear HO622
                       clear BK561
                       clear BK590
                       clear HI567
                       clear HB
                       have HO593 := n0_
                       have HO599 := n1_
                       have HO618 := n2_
                       have HO622 := n3_
                       have BK561 := n4_
                       have BK590 := n5_
                       have HI567 := n6_
                       have HB := n7_
                       clear n0_ n1_ n2_ n3_ n4_ n5_ n6_ n7_
                       refine start_ (n := 53) (S := fun w' => w'.cell? ⟨gb590, 0, none⟩ = some (.int .i64 ((rd_T48 l0_3 x5_1).f0)) ∧ w'.cell? ⟨gb590, 1, none⟩ = some (.int .i64 ((rd_T48 l0_3 x5_1).f1)) ∧ w'.cell? ⟨gb590, 2, none⟩ = some (.int .i64 ((rd_T48 l0_3 x5_1).f2)) ∧ w'.cell? ⟨gb590, 3, none⟩ = some (.int .i64 ((rd_T48 l0_3 x5_1).f3)) ∧ w'.cell? ⟨gb590, 4, none⟩ = some (.int .u64 ((rd_T48 l0_3 x5_1).f4)) ∧ w'.cell? ⟨gb590, 5, none⟩ = some (.slice A589_5 ((rd_T48 l0_3 x5_1).f5).length c589_5)) (ds := []) bb57_ (by kernel_rfl) rfl rfl ⟨bc BK590 0, bc BK590 1, bc BK590 2, bc BK590 3, bc BK590 4, bc BK590 5⟩ (fun hHeld => ?_); refine with_tabW gangwaylaw9_MemParts.tab14 gangwaylaw9_MemParts.bits14 (fun HT_ HW_ => ?_)
                       generalize w46.drew = w70 at HO593 HO599 HO618 HO622 BK561 BK590 HI567 HB hHeld ⊢
                       refine pure_ (i := 0) (N := some 96) (v := ?_) (a' := ?_) bb56_ rfl rfl (any_of HT_.out (by kernel_rfl)) (fun _ _ _ h => h) (Or.inl ⟨by rfl, ?_⟩) ?_ ?_
                       rotate_left; · intro w'; go_simp; with_reducible rfl
                       rotate_left; · simp only [Act.put, e1, e2, e3, i64_w, i32_w]; rfl
                       refine one_ (i := 1) (N := some 97) bb55_ rfl rfl (one_of HT_.out (by kernel_rfl)) (by decide) (fun K hK => ?_)
                       refine goes_ Try.func8 (by kernel_rfl) rfl #[.int .i64 t600] (by rfl) rfl rfl (by (try simp only [List.map_toArray, List.map_cons, List.map_nil]); first | done | rfl | (simp only [List.length_drop, List.length_take]; rfl)) ?_
                       with_reducible refine (gangwaylaw9_num.calls t600 t624 _ A47.out).mono ?_
                       rintro e w' ⟨rfl, ⟨nd, rfl⟩⟩
                       refine ⟨_, rfl, ?_⟩
                       refine hK.out _ _ ⟨bc BK590 0, bc BK590 1, bc BK590 2, bc BK590 3, bc BK590 4, bc BK590 5⟩ (fun hHeld => ?_)
                       clear hK K
                       refine norm_ (a' := ?_) ?_ ?_
                       rotate_left
                       ·show Act.put _ (some 97) _ = _
                        simp only [Act.put, e1, e2, e3, i64_w, i32_w]
                        rfl
                       refine pure_ (i := 2) (N := some 98) (v := ?_) (a' := ?_) bb54_ rfl rfl (any_of HT_.out (by kernel_rfl)) (fun _ _ _ h => h) (Or.inl ⟨by rfl, ?_⟩) ?_ ?_
                       rotate_left; · intro w'; go_simp; with_reducible rfl
                       rotate_left; · simp only [Act.put, e1, e2, e3, i64_w, i32_w]; rfl
                       refine pure_ (i := 3) (N := some 99) (v := ?_) (a' := ?_) bb53_ rfl rfl (any_of HT_.out (by kernel_rfl)) (fun _ _ _ h => h) (Or.inl ⟨by rfl, ?_⟩) ?_ ?_
                       rotate_left; · intro w'; go_simp; with_reducible rfl
                       rotate_left; · simp only [Act.put, e1, e2, e3, i64_w, i32_w]; rfl
                       refine pure_ (i := 4) (N := some 100) (v := ?_) (a' := ?_) bb52_ rfl rfl (any_of HT_.out (by kernel_rfl)) (fun _ _ _ h => h) (Or.inl ⟨by rfl, ?_⟩) ?_ ?_
                       rotate_left; · intro w'; go_simp; with_reducible rfl
                       rotate_left; · simp only [Act.put, e1, e2, e3, i64_w, i32_w]; rfl
                       refine one_ (i := 5) (N := some 101) bb51_ rfl rfl (one_of HT_.out (by kernel_rfl)) (by decide) (fun K hK => ?_)
                       refine goes_ Try.func8 (by kernel_rfl) rfl #[.int .i64 t605] (by rfl) rfl rfl (by (try simp only [List.map_toArray, List.map_cons, List.map_nil]); first | done | rfl | (simp only [List.length_drop, List.length_take]; rfl)) ?_
                       with_reducible refine (gangwaylaw9_num.calls t605 t625 _ A49.out).mono ?_
                       rintro e w' ⟨rfl, ⟨nd, rfl⟩⟩
                       refine ⟨_, rfl, ?_⟩
                       refine hK.out _ _ ⟨bc BK590 0, bc BK590 1, bc BK590 2, bc BK590 3, bc BK590 4, bc BK590 5⟩ (fun hHeld => ?_)
                       clear hK K
                       refine norm_ (a' := ?_) ?_ ?_
                       rotate_left
                       ·show Act.put _ (some 101) _ = _
                        simp only [Act.put, e1, e2, e3, i64_w, i32_w]
                        rfl
                       refine pure_ (i := 6) (N := some 102) (v := ?_) (a' := ?_) bb50_ rfl rfl (any_of HT_.out (by kernel_rfl)) (fun _ _ _ h => h) (Or.inl ⟨by rfl, ?_⟩) ?_ ?_
                       rotate_left; · intro w'; go_simp; with_reducible rfl
                       rotate_left; · simp only [Act.put, e1, e2, e3, i64_w, i32_w]; rfl
                       refine pure_ (i := 7) (N := some 103) (v := ?_) (a' := ?_) bb49_ rfl rfl (any_of HT_.out (by kernel_rfl)) (fun _ _ _ h => h) (Or.inl ⟨by rfl, ?_⟩) ?_ ?_
                       rotate_left; · intro w'; go_simp; with_reducible rfl
                       rotate_left; · simp only [Act.put, e1, e2, e3, i64_w, i32_w]; rfl
                       refine pure_ (i := 8) (N := some 104) (v := ?_) (a' := ?_) bb48_ rfl rfl (any_of HT_.out (by kernel_rfl)) (fun _ _ _ h => h) (Or.inl ⟨by rfl, ?_⟩) ?_ ?_
                       rotate_left; · intro w'; go_simp; with_reducible rfl
                       rotate_left; · simp only [Act.put, e1, e2, e3, i64_w, i32_w]; rfl
                       refine pure_ (i := 9) (N := some 105) (v := ?_) (a' := ?_) bb47_ rfl rfl (any_of HT_.out (by kernel_rfl)) (fun _ _ _ h => h) (Or.inl ⟨by rfl, ?_⟩) ?_ ?_
                       rotate_left; · intro w'; go_simp; with_reducible rfl
                       rotate_left; · simp only [Act.put, e1, e2, e3, i64_w, i32_w]; rfl
                       refine one_ (i := 10) (N := some 106) bb46_ rfl rfl (one_of HT_.out (by kernel_rfl)) (by decide) (fun K hK => ?_)
                       refine goes_ Try.func8 (by kernel_rfl) rfl #[.int .i64 t611] (by rfl) rfl rfl (by (try simp only [List.map_toArray, List.map_cons, List.map_nil]); first | done | rfl | (simp only [List.length_drop, List.length_take]; rfl)) ?_
                       with_reducible refine (gangwaylaw9_num.calls t611 t626 _ A51.out).mono ?_
                       rintro e w' ⟨rfl, ⟨nd, rfl⟩⟩
                       refine ⟨_, rfl, ?_⟩
                       refine hK.out _ _ ⟨bc BK590 0, bc BK590 1, bc BK590 2, bc BK590 3, bc BK590 4, bc BK590 5⟩ (fun hHeld => ?_)
                       clear hK K
                       refine norm_ (a' := ?_) ?_ ?_
                       rotate_left
                       ·show Act.put _ (some 106) _ = _
                        simp only [Act.put, e1, e2, e3, i64_w, i32_w]
                        rfl
                       refine pure_ (i := 11) (N := some 107) (v := ?_) (a' := ?_) bb45_ rfl rfl (any_of HT_.out (by kernel_rfl)) (fun _ _ _ h => h) (Or.inl ⟨by rfl, ?_⟩) ?_ ?_
                       rotate_left; · intro w'; go_simp; with_reducible rfl
                       rotate_left; · simp only [Act.put, e1, e2, e3, i64_w, i32_w]; rfl
                       refine pure_ (i := 12) (N := some 108) (v := ?_) (a' := ?_) bb44_ rfl rfl (any_of HT_.out (by kernel_rfl)) (fun _ _ _ h => h) (Or.inl ⟨by rfl, ?_⟩) ?_ ?_
                       rotate_left; · intro w'; go_simp; with_reducible rfl
                       rotate_left; · simp only [Act.put, e1, e2, e3, i64_w, i32_w]; rfl
                       refine pure_ (i := 13) (N := some 109) (v := ?_) (a' := ?_) bb43_ rfl rfl (any_of HT_.out (by kernel_rfl)) (fun _ _ _ h => h) (Or.inl ⟨by rfl, ?_⟩) ?_ ?_
                       rotate_left; · intro w'; go_simp; with_reducible rfl
                       rotate_left; · simp only [Act.put, e1, e2, e3, i64_w, i32_w]; rfl
                       refine pure_ (i := 14) (N := some 110) (v := ?_) (a' := ?_) bb42_ rfl rfl (any_of HT_.out (by kernel_rfl)) (fun _ _ _ h => h) (Or.inl ⟨by rfl, ?_⟩) ?_ ?_
                       rotate_left; · intro w'; go_simp; with_reducible rfl
                       rotate_left; · simp only [Act.put, e1, e2, e3, i64_w, i32_w]; rfl
                       refine one_ (i := 15) (N := some 111) bb41_ rfl rfl (one_of HT_.out (by kernel_rfl)) (by decide) (fun K hK => ?_)
                       refine goes_ Try.func8 (by kernel_rfl) rfl #[.int .i64 t619] (by rfl) rfl rfl (by (try simp only [List.map_toArray, List.map_cons, List.map_nil]); first | done | rfl | (simp only [List.length_drop, List.length_take]; rfl)) ?_
                       with_reducible refine (gangwaylaw9_num.calls t619 t627 _ A53.out).mono ?_
                       rintro e w' ⟨rfl, ⟨nd, rfl⟩⟩
                       refine ⟨_, rfl, ?_⟩
                       obtain ⟨Ao71, co71, eo71⟩ := Kd.R_slice HO599.out
                       (first | subst eo71 | (injection eo71 with f1_ f2_ f3_; have f4_ := f1_.symm; have f5_ := f3_.symm; clear f1_ f2_ f3_; subst f4_; subst f5_))
                       obtain ⟨Ao72, co72, eo72⟩ := Kd.R_slice HO618.out
                       (first | subst eo72 | (injection eo72 with f1_ f2_ f3_; have f4_ := f1_.symm; have f5_ := f3_.symm; clear f1_ f2_ f3_; subst f4_; subst f5_))
                       refine hK.out _ _ ⟨bc BK590 0, bc BK590 1, bc BK590 2, bc BK590 3, bc BK590 4, bc BK590 5⟩ (fun hHeld => ?_)
                       clear hK K
                       refine norm_ (a' := ?_) ?_ ?_
                       rotate_left
                       ·show Act.put _ (some 111) _ = _
                        simp only [Act.put, e1, e2, e3, i64_w, i32_w]
                        rfl
                       refine pure_ (i := 16) (N := some 112) (v := ?_) (a' := ?_) bb40_ rfl rfl (any_of HT_.out (by kernel_rfl)) (fun _ _ _ h => h) (Or.inl ⟨by rfl, ?_⟩) ?_ ?_
                       rotate_left; · intro w'; go_simp; with_reducible rfl
                       rotate_left; · simp only [Act.put, e1, e2, e3, i64_w, i32_w]; rfl
                       refine pure_ (i := 17) (N := some 113) (v := ?_) (a' := ?_) bb39_ rfl rfl (any_of HT_.out (by kernel_rfl)) (fun _ _ _ h => h) (Or.inl ⟨by rfl, ?_⟩) ?_ ?_
                       rotate_left; · intro w'; go_simp; with_reducible rfl
                       rotate_left; · simp only [Act.put, e1, e2, e3, i64_w, i32_w]; rfl
                       refine pure_ (i := 18) (N := some 114) (v := ?_) (a' := ?_) bb38_ rfl rfl (any_of HT_.out (by kernel_rfl)) (fun _ _ _ h => h) (Or.inl ⟨by rfl, ?_⟩) ?_ ?_
                       rotate_left; · intro w'; go_simp; with_reducible rfl
                       rotate_left; · simp only [Act.put, e1, e2, e3, i64_w, i32_w]; rfl
                       refine pure_ (i := 19) (N := some 115) (v := ?_) (a' := ?_) bb37_ rfl rfl (any_of HT_.out (by kernel_rfl)) (fun _ _ _ h => h) (Or.inl ⟨by rfl, ?_⟩) ?_ ?_
                       rotate_left; · intro w'; go_simp; with_reducible rfl
                       rotate_left; · simp only [Act.put, e1, e2, e3, i64_w, i32_w]; rfl
                       refine pure_ (i := 20) (N := some 116) (v := ?_) (a' := ?_) bb36_ rfl rfl (any_of HT_.out (by kernel_rfl)) (fun _ _ _ h => h) (Or.inl ⟨by rfl, ?_⟩) ?_ ?_
                       rotate_left; · intro w'; go_simp; with_reducible rfl
                       rotate_left; · simp only [Act.put, e1, e2, e3, i64_w, i32_w]; rfl
                       refine pure_ (i := 21) (N := some 117) (v := ?_) (a' := ?_) bb35_ rfl rfl (any_of HT_.out (by kernel_rfl)) (fun _ _ _ h => h) (Or.inl ⟨by rfl, ?_⟩) ?_ ?_
                       rotate_left; · intro w'; go_simp; with_reducible rfl
                       rotate_left; · simp only [Act.put, e1, e2, e3, i64_w, i32_w]; rfl
                       refine pure_ (i := 22) (N := some 118) (v := ?_) (a' := ?_) bb34_ rfl rfl (any_of HT_.out (by kernel_rfl)) (fun _ _ _ h => h) (Or.inl ⟨by rfl, ?_⟩) ?_ ?_
                       rotate_left; · intro w'; go_simp; with_reducible rfl
                       rotate_left; · simp only [Act.put, e1, e2, e3, i64_w, i32_w]; rfl
                       refine pure_ (i := 23) (N := some 119) (v := ?_) (a' := ?_) bb33_ rfl rfl (any_of HT_.out (by kernel_rfl)) (fun _ _ _ h => h) (Or.inl ⟨by rfl, ?_⟩) ?_ ?_
                       rotate_left; · intro w'; go_simp; with_reducible rfl
                       rotate_left; · simp only [Act.put, e1, e2, e3, i64_w, i32_w]; rfl
                       refine pure_ (i := 24) (N := some 120) (v := ?_) (a' := ?_) bb32_ rfl rfl (any_of HT_.out (by kernel_rfl)) (fun _ _ _ h => h) (Or.inl ⟨by rfl, ?_⟩) ?_ ?_
                       rotate_left; · intro w'; go_simp; with_reducible rfl
                       rotate_left; · simp only [Act.put, e1, e2, e3, i64_w, i32_w]; rfl
                       refine pure_ (i := 25) (N := some 121) (v := ?_) (a' := ?_) bb31_ rfl rfl (any_of HT_.out (by kernel_rfl)) (fun _ _ _ h => h) (Or.inl ⟨by rfl, ?_⟩) ?_ ?_
                       rotate_left; · intro w'; go_simp; with_reducible rfl
                       rotate_left; · simp only [Act.put, e1, e2, e3, i64_w, i32_w]; rfl
                       refine pure_ (i := 26) (N := some 122) (v := ?_) (a' := ?_) bb30_ rfl rfl (any_of HT_.out (by kernel_rfl)) (fun _ _ _ h => h) (Or.inl ⟨by rfl, ?_⟩) ?_ ?_
                       rotate_left; · intro w'; go_simp; with_reducible rfl
                       rotate_left; · simp only [Act.put, e1, e2, e3, i64_w, i32_w]; rfl
                       refine pure_ (i := 27) (N := some 123) (v := ?_) (a' := ?_) bb29_ rfl rfl (any_of HT_.out (by kernel_rfl)) (fun _ _ _ h => h) (Or.inl ⟨by rfl, ?_⟩) ?_ ?_
                       rotate_left; · intro w'; go_simp; with_reducible rfl
                       rotate_left; · simp only [Act.put, e1, e2, e3, i64_w, i32_w]; rfl
                       refine pure_ (i := 28) (N := some 124) (v := ?_) (a' := ?_) bb28_ rfl rfl (any_of HT_.out (by kernel_rfl)) (fun _ _ _ h => h) (Or.inl ⟨by rfl, ?_⟩) ?_ ?_
                       rotate_left; · intro w'; go_simp; with_reducible rfl
                       rotate_left; · simp only [Act.put, e1, e2, e3, i64_w, i32_w]; rfl
                       refine pure_ (i := 29) (N := some 125) (v := ?_) (a' := ?_) bb27_ rfl rfl (any_of HT_.out (by kernel_rfl)) (fun _ _ _ h => h) (Or.inl ⟨by rfl, ?_⟩) ?_ ?_
                       rotate_left; · intro w'; go_simp; with_reducible rfl
                       rotate_left; · simp only [Act.put, e1, e2, e3, i64_w, i32_w]; rfl
                       refine pure_ (i := 30) (N := some 126) (v := ?_) (a' := ?_) bb26_ rfl rfl (any_of HT_.out (by kernel_rfl)) (fun _ _ _ h => h) (Or.inl ⟨by rfl, ?_⟩) ?_ ?_
                       rotate_left; · intro w'; go_simp; with_reducible rfl
                       rotate_left; · simp only [Act.put, e1, e2, e3, i64_w, i32_w]; rfl
                       refine pure_ (i := 31) (N := some 127) (v := ?_) (a' := ?_) bb25_ rfl rfl (any_of HT_.out (by kernel_rfl)) (fun _ _ _ h => h) (Or.inl ⟨by rfl, ?_⟩) ?_ ?_
                       rotate_left; · intro w'; go_simp; with_reducible rfl
                       rotate_left; · simp only [Act.put, e1, e2, e3, i64_w, i32_w]; rfl
                       refine pure_ (i := 32) (N := some 128) (v := undef) (a' := ?_) bb24_ rfl rfl (any_of HT_.out (by kernel_rfl)) (fun _ _ _ h => h) (Or.inr ⟨by rfl, rfl⟩) ?_ ?_
                       rotate_left; · simp only [Act.put, e1, e2, e3, i64_w, i32_w]; rfl
                       refine pure_ (i := 33) (N := some 129) (v := undef) (a' := ?_) bb23_ rfl rfl (any_of HT_.out (by kernel_rfl)) (fun _ _ _ h => h) (Or.inr ⟨by rfl, rfl⟩) ?_ ?_
                       rotate_left; · simp only [Act.put, e1, e2, e3, i64_w, i32_w]; rfl
                       refine pure_ (i := 34) (N := some 130) (v := undef) (a' := ?_) bb22_ rfl rfl (any_of HT_.out (by kernel_rfl)) (fun _ _ _ h => h) (Or.inr ⟨by rfl, rfl⟩) ?_ ?_
                       rotate_left; · simp only [Act.put, e1, e2, e3, i64_w, i32_w]; rfl
                       refine pure_ (i := 35) (N := some 131) (v := undef) (a' := ?_) bb20_ rfl rfl (any_of HT_.out (by kernel_rfl)) (fun _ _ _ h => h) (Or.inr ⟨by rfl, rfl⟩) ?_ ?_
                       rotate_left; · simp only [Act.put, e1, e2, e3, i64_w, i32_w]; rfl
                       refine pure_ (i := 36) (N := some 132) (v := undef) (a' := ?_) bb18_ rfl rfl (any_of HT_.out (by kernel_rfl)) (fun _ _ _ h => h) (Or.inr ⟨by rfl, rfl⟩) ?_ ?_
                       rotate_left; · simp only [Act.put, e1, e2, e3, i64_w, i32_w]; rfl
                       refine pure_ (i := 37) (N := some 133) (v := undef) (a' := ?_) bb16_ rfl rfl (any_of HT_.out (by kernel_rfl)) (fun _ _ _ h => h) (Or.inr ⟨by rfl, rfl⟩) ?_ ?_
                       rotate_left; · simp only [Act.put, e1, e2, e3, i64_w, i32_w]; rfl
                       refine pure_ (i := 38) (N := some 134) (v := undef) (a' := ?_) bb14_ rfl rfl (any_of HT_.out (by kernel_rfl)) (fun _ _ _ h => h) (Or.inr ⟨by rfl, rfl⟩) ?_ ?_
                       rotate_left; · simp only [Act.put, e1, e2, e3, i64_w, i32_w]; rfl
                       refine pure_ (i := 39) (N := some 135) (v := undef) (a' := ?_) bb13_ rfl rfl (any_of HT_.out (by kernel_rfl)) (fun _ _ _ h => h) (Or.inr ⟨by rfl, rfl⟩) ?_ ?_
                       rotate_left; · simp only [Act.put, e1, e2, e3, i64_w, i32_w]; rfl
                       refine pure_ (i := 40) (N := some 136) (v := undef) (a' := ?_) bb12_ rfl rfl (any_of HT_.out (by kernel_rfl)) (fun _ _ _ h => h) (Or.inr ⟨by rfl, rfl⟩) ?_ ?_
                       rotate_left; · simp only [Act.put, e1, e2, e3, i64_w, i32_w]; rfl
                       refine pure_ (i := 41) (N := some 137) (v := ?_) (a' := ?_) bb11_ rfl rfl (any_of HT_.out (by kernel_rfl)) (fun _ _ _ h => h) (Or.inl ⟨by rfl, ?_⟩) ?_ ?_
                       rotate_left; · intro w'; go_simp; with_reducible rfl
                       rotate_left; · simp only [Act.put, e1, e2, e3, i64_w, i32_w]; rfl
                       refine pure_ (i := 42) (N := some 138) (v := ?_) (a' := ?_) bb10_ rfl rfl (any_of HT_.out (by kernel_rfl)) (fun _ _ _ h => h) (Or.inl ⟨by rfl, ?_⟩) ?_ ?_
                       rotate_left; · intro w'; go_simp; with_reducible rfl
                       rotate_left; · simp only [Act.put, e1, e2, e3, i64_w, i32_w]; rfl
                       refine pure_ (i := 43) (N := some 139) (v := ?_) (a' := ?_) bb9_ rfl rfl (any_of HT_.out (by kernel_rfl)) (fun _ _ _ h => h) (Or.inl ⟨by rfl, ?_⟩) ?_ ?_
                       rotate_left; · intro w'; go_simp; with_reducible rfl
                       rotate_left; · simp only [Act.put, e1, e2, e3, i64_w, i32_w]; rfl
                       refine pure_ (i := 44) (N := some 140) (v := ?_) (a' := ?_) bb8_ rfl rfl (any_of HT_.out (by kernel_rfl)) (fun _ _ _ h => h) (Or.inl ⟨by rfl, ?_⟩) ?_ ?_
                       rotate_left; · intro w'; go_simp; with_reducible rfl
                       rotate_left; · simp only [Act.put, e1, e2, e3, i64_w, i32_w]; rfl
                       refine pure_ (i := 45) (N := some 141) (v := ?_) (a' := ?_) bb7_ rfl rfl (any_of HT_.out (by kernel_rfl)) (fun _ _ _ h => h) (Or.inl ⟨by rfl, ?_⟩) ?_ ?_
                       rotate_left; · intro w'; go_simp; with_reducible rfl
                       rotate_left; · simp only [Act.put, e1, e2, e3, i64_w, i32_w]; rfl
                       refine pure_ (i := 46) (N := some 142) (v := ?_) (a' := ?_) bb6_ rfl rfl (any_of HT_.out (by kernel_rfl)) (fun _ _ _ h => h) (Or.inl ⟨by rfl, ?_⟩) ?_ ?_
                       rotate_left; · intro w'; go_simp; with_reducible rfl
                       rotate_left; · simp only [Act.put, e1, e2, e3, i64_w, i32_w]; rfl
                       refine pure_ (i := 47) (N := some 143) (v := ?_) (a' := ?_) bb5_ rfl rfl (any_of HT_.out (by kernel_rfl)) (fun _ _ _ h => h) (Or.inl ⟨by rfl, ?_⟩) ?_ ?_
                       rotate_left; · intro w'; go_simp; with_reducible rfl
                       rotate_left; · simp only [Act.put, e1, e2, e3, i64_w, i32_w]; rfl
                       refine pure_ (i := 48) (N := some 144) (v := ?_) (a' := ?_) bb4_ rfl rfl (any_of HT_.out (by kernel_rfl)) (fun _ _ _ h => h) (Or.inl ⟨by rfl, ?_⟩) ?_ ?_
                       rotate_left; · intro w'; go_simp; with_reducible rfl
                       rotate_left; · simp only [Act.put, e1, e2, e3, i64_w, i32_w]; rfl
                       refine take_ (i := 49) (N := some 145) (v := ?_) (a' := ?_) bb3_ rfl rfl (take_ofW HT_.out HW_.out (by kernel_rfl)) (fun _ _ _ h => h) (Or.inl ⟨by rfl, ?_⟩) hHeld ?_ ?_
                       rotate_left; · rintro w' ⟨s0, s1, s2, s3, s4, s5⟩; go_simp; with_reducible rfl
                       rotate_left; · simp only [Act.put, e1, e2, e3, i64_w, i32_w]; rfl
                       refine pure_ (i := 50) (N := some 146) (v := ?_) (a' := ?_) bb2_ rfl rfl (any_of HT_.out (by kernel_rfl)) (fun _ _ _ h => h) (Or.inl ⟨by rfl, ?_⟩) ?_ ?_
                       rotate_left; · intro w'; go_simp; with_reducible rfl
                       rotate_left; · simp only [Act.put, e1, e2, e3, i64_w, i32_w]; rfl
                       refine pure_ (i := 51) (N := some 147) (v := ?_) (a' := ?_) bb1_ rfl rfl (any_of HT_.out (by kernel_rfl)) (fun _ _ _ h => h) (Or.inl ⟨by rfl, ?_⟩) ?_ ?_
                       rotate_left; · intro w'; go_simp; with_reducible rfl
                       rotate_left; · simp only [Act.put, e1, e2, e3, i64_w, i32_w]; rfl
                       refine pure_ (i := 52) (N := some 148) (v := ?_) (a' := ?_) bb0_ rfl rfl (any_of HT_.out (by kernel_rfl)) (fun _ _ _ h => h) (Or.inl ⟨by rfl, ?_⟩) ?_ ?_
                       rotate_left; · intro w'; go_simp; with_reducible rfl
                       rotate_left; · simp only [Act.put, e1, e2, e3, i64_w, i32_w]; rfl
                       refine done_ (done_of HT_.out (by kernel_rfl)) ?_
                       try go_wp2
                       go_meet
                       case rel => exact ⟨_, ((t610 != ((rd_T48 l0_3 x5_1).f4))), (by first | rfl | (simp; done) | (simp [*]; done)), H', ⟨by have := HK1.out; have := HJ13.out; first | omega | exact Nat.le_refl _⟩, ⟨by (with_reducible repeat (first | apply Kd.R_alloc | apply Kd.R_drewN | apply Kd.R_drew)); exact HO599.out⟩, ⟨by (with_reducible repeat (first | apply Kd.R_alloc | apply Kd.R_drewN | apply Kd.R_drew)); exact Kd.R_mono HO618.out (fun _ hk => ⟨hk.2, hk.1⟩)⟩, ⟨by (with_reducible repeat (first | apply Kd.R_alloc | apply Kd.R_drewN | apply Kd.R_drew)); exact Kd.R_mono HO622.out (fun _ hk => ⟨hk.2, hk.1⟩)⟩, ⟨by (with_reducible repeat (first | refine blk_drewN ?_ _ | refine blk_drew ?_ | refine blk_alloc ?_ _)); exact BK561.out⟩, ⟨by (with_reducible repeat (first | refine blk_drewN ?_ _ | refine blk_drew ?_ | refine blk_alloc ?_ _)); exact BK590.out⟩, ⟨by repeat (first | (with_reducible first | exact HI567.out | apply IsS61.alloc | apply IsS61.drewN | apply IsS61.drew | apply IsS61.set_0 | apply IsS61.set_1 | refine IsS61.far ?_ NB567_561.out _ | refine IsS61.far ?_ NB567_590.out _) | exact HI567.out)⟩, ⟨by repeat (first | (with_reducible first | exact HB.out | apply below_alloc | apply pw_below_drewN | apply below_drew1 | refine below_set ?_ (IsS61.ge HI567.out) | refine below_set ?_ GE561.out | refine below_set ?_ GE590.out) | exact HB.out)⟩⟩
                      ·rw [if_neg c69] at H
                       have c69b0 : ((rd y591 t594) == 8) = false := beq_eq_false_iff_ne.mpr c69
                       have c69b1 : ((rd y591 t594) != 8) = true := bne_iff_ne.mpr c69
                       have H' := Aside0.mk H
                       clear H
                       try go_wp2
                       have n0_ := Aside0.mk (Kd.R_drew HO593.out)
                       have n1_ := Aside0.mk (Kd.R_drew HO599.out)
                       have n2_ := Aside0.mk (Kd.R_drew HO618.out)
                       have n3_ := Aside0.mk (Kd.R_drew HO622.out)
                       have n4_ := Aside0.mk (blk_drew BK561.out)
                       have n5_ := Aside0.mk (blk_drew BK590.out)
                       have n6_ := Aside0.mk (IsS61.drew HI567.out)
                       have n7_ := Aside0.mk (below_drew1 HB.out)
                       clear HO593
                       clear HO599
                       clear HO618
                       clear HO622
                       clear BK561
                       clear BK590
                       clear HI567
                       clear HB
                       have HO593 := n0_
                       have HO599 := n1_
                       have HO618 := n2_
                       have HO622 := n3_
                       have BK561 := n4_
                       have BK590 := n5_
                       have HI567 := n6_
                       have HB := n7_
                       clear n0_ n1_ n2_ n3_ n4_ n5_ n6_ n7_
                       refine start_ (n := 53) (S := fun w' => True) (ds := []) bb57_ (by kernel_rfl) rfl rfl trivial (fun hHeld => ?_); refine with_tabW gangwaylaw9_MemParts.tab14 gangwaylaw9_MemParts.bits14 (fun HT_ HW_ => ?_)
                       generalize w46.drew = w73 at HO593 HO599 HO618 HO622 BK561 BK590 HI567 HB hHeld ⊢
                       refine pure_ (i := 0) (N := some 96) (v := ?_) (a' := ?_) bb56_ rfl rfl (any_of HT_.out (by kernel_rfl)) (fun _ _ _ h => h) (Or.inl ⟨by rfl, ?_⟩) ?_ ?_
                       rotate_left; · intro w'; go_simp; with_reducible rfl
                       rotate_left; · simp only [Act.put, e1, e2, e3, i64_w, i32_w]; rfl
                       refine one_ (i := 1) (N := some 97) bb55_ rfl rfl (one_of HT_.out (by kernel_rfl)) (by decide) (fun K hK => ?_)
                       refine goes_ Try.func8 (by kernel_rfl) rfl #[.int .i64 t600] (by rfl) rfl rfl (by (try simp only [List.map_toArray, List.map_cons, List.map_nil]); first | done | rfl | (simp only [List.length_drop, List.length_take]; rfl)) ?_
                       with_reducible refine (gangwaylaw9_num.calls t600 t624 _ A47.out).mono ?_
                       rintro e w' ⟨rfl, ⟨nd, rfl⟩⟩
                       refine ⟨_, rfl, ?_⟩
                       refine hK.out _ _ trivial (fun hHeld => ?_)
                       clear hK K
                       refine norm_ (a' := ?_) ?_ ?_
                       rotate_left
                       ·show Act.put _ (some 97) _ = _
                        simp only [Act.put, e1, e2, e3, i64_w, i32_w]
                        rfl
                       refine pure_ (i := 2) (N := some 98) (v := ?_) (a' := ?_) bb54_ rfl rfl (any_of HT_.out (by kernel_rfl)) (fun _ _ _ h => h) (Or.inl ⟨by rfl, ?_⟩) ?_ ?_
                       rotate_left; · intro w'; go_simp; with_reducible rfl
                       rotate_left; · simp only [Act.put, e1, e2, e3, i64_w, i32_w]; rfl
                       refine pure_ (i := 3) (N := some 99) (v := ?_) (a' := ?_) bb53_ rfl rfl (any_of HT_.out (by kernel_rfl)) (fun _ _ _ h => h) (Or.inl ⟨by rfl, ?_⟩) ?_ ?_
                       rotate_left; · intro w'; go_simp; with_reducible rfl
                       rotate_left; · simp only [Act.put, e1, e2, e3, i64_w, i32_w]; rfl
                       refine pure_ (i := 4) (N := some 100) (v := ?_) (a' := ?_) bb52_ rfl rfl (any_of HT_.out (by kernel_rfl)) (fun _ _ _ h => h) (Or.inl ⟨by rfl, ?_⟩) ?_ ?_
                       rotate_left; · intro w'; go_simp; with_reducible rfl
                       rotate_left; · simp only [Act.put, e1, e2, e3, i64_w, i32_w]; rfl
                       refine one_ (i := 5) (N := some 101) bb51_ rfl rfl (one_of HT_.out (by kernel_rfl)) (by decide) (fun K hK => ?_)
                       refine goes_ Try.func8 (by kernel_rfl) rfl #[.int .i64 t605] (by rfl) rfl rfl (by (try simp only [List.map_toArray, List.map_cons, List.map_nil]); first | done | rfl | (simp only [List.length_drop, List.length_take]; rfl)) ?_
                       with_reducible refine (gangwaylaw9_num.calls t605 t625 _ A49.out).mono ?_
                       rintro e w' ⟨rfl, ⟨nd, rfl⟩⟩
                       refine ⟨_, rfl, ?_⟩
                       refine hK.out _ _ trivial (fun hHeld => ?_)
                       clear hK K
                       refine norm_ (a' := ?_) ?_ ?_
                       rotate_left
                       ·show Act.put _ (some 101) _ = _
                        simp only [Act.put, e1, e2, e3, i64_w, i32_w]
                        rfl
                       refine pure_ (i := 6) (N := some 102) (v := ?_) (a' := ?_) bb50_ rfl rfl (any_of HT_.out (by kernel_rfl)) (fun _ _ _ h => h) (Or.inl ⟨by rfl, ?_⟩) ?_ ?_
                       rotate_left; · intro w'; go_simp; with_reducible rfl
                       rotate_left; · simp only [Act.put, e1, e2, e3, i64_w, i32_w]; rfl
                       refine pure_ (i := 7) (N := some 103) (v := ?_) (a' := ?_) bb49_ rfl rfl (any_of HT_.out (by kernel_rfl)) (fun _ _ _ h => h) (Or.inl ⟨by rfl, ?_⟩) ?_ ?_
                       rotate_left; · intro w'; go_simp; with_reducible rfl
                       rotate_left; · simp only [Act.put, e1, e2, e3, i64_w, i32_w]; rfl
                       refine pure_ (i := 8) (N := some 104) (v := ?_) (a' := ?_) bb48_ rfl rfl (any_of HT_.out (by kernel_rfl)) (fun _ _ _ h => h) (Or.inl ⟨by rfl, ?_⟩) ?_ ?_
                       rotate_left; · intro w'; go_simp; with_reducible rfl
                       rotate_left; · simp only [Act.put, e1, e2, e3, i64_w, i32_w]; rfl
                       refine pure_ (i := 9) (N := some 105) (v := ?_) (a' := ?_) bb47_ rfl rfl (any_of HT_.out (by kernel_rfl)) (fun _ _ _ h => h) (Or.inl ⟨by rfl, ?_⟩) ?_ ?_
                       rotate_left; · intro w'; go_simp; with_reducible rfl
                       rotate_left; · simp only [Act.put, e1, e2, e3, i64_w, i32_w]; rfl
                       refine one_ (i := 10) (N := some 106) bb46_ rfl rfl (one_of HT_.out (by kernel_rfl)) (by decide) (fun K hK => ?_)
                       refine goes_ Try.func8 (by kernel_rfl) rfl #[.int .i64 t611] (by rfl) rfl rfl (by (try simp only [List.map_toArray, List.map_cons, List.map_nil]); first | done | rfl | (simp only [List.length_drop, List.length_take]; rfl)) ?_
                       with_reducible refine (gangwaylaw9_num.calls t611 t626 _ A51.out).mono ?_
                       rintro e w' ⟨rfl, ⟨nd, rfl⟩⟩
                       refine ⟨_, rfl, ?_⟩
                       refine hK.out _ _ trivial (fun hHeld => ?_)
                       clear hK K
                       refine norm_ (a' := ?_) ?_ ?_
                       rotate_left
                       ·show Act.put _ (some 106) _ = _
                        simp only [Act.put, e1, e2, e3, i64_w, i32_w]
                        rfl
                       refine pure_ (i := 11) (N := some 107) (v := ?_) (a' := ?_) bb45_ rfl rfl (any_of HT_.out (by kernel_rfl)) (fun _ _ _ h => h) (Or.inl ⟨by rfl, ?_⟩) ?_ ?_
                       rotate_left; · intro w'; go_simp; with_reducible rfl
                       rotate_left; · simp only [Act.put, e1, e2, e3, i64_w, i32_w]; rfl
                       refine pure_ (i := 12) (N := some 108) (v := ?_) (a' := ?_) bb44_ rfl rfl (any_of HT_.out (by kernel_rfl)) (fun _ _ _ h => h) (Or.inl ⟨by rfl, ?_⟩) ?_ ?_
                       rotate_left; · intro w'; go_simp; with_reducible rfl
                       rotate_left; · simp only [Act.put, e1, e2, e3, i64_w, i32_w]; rfl
                       refine pure_ (i := 13) (N := some 109) (v := ?_) (a' := ?_) bb43_ rfl rfl (any_of HT_.out (by kernel_rfl)) (fun _ _ _ h => h) (Or.inl ⟨by rfl, ?_⟩) ?_ ?_
                       rotate_left; · intro w'; go_simp; with_reducible rfl
                       rotate_left; · simp only [Act.put, e1, e2, e3, i64_w, i32_w]; rfl
                       refine pure_ (i := 14) (N := some 110) (v := ?_) (a' := ?_) bb42_ rfl rfl (any_of HT_.out (by kernel_rfl)) (fun _ _ _ h => h) (Or.inl ⟨by rfl, ?_⟩) ?_ ?_
                       rotate_left; · intro w'; go_simp; with_reducible rfl
                       rotate_left; · simp only [Act.put, e1, e2, e3, i64_w, i32_w]; rfl
                       refine one_ (i := 15) (N := some 111) bb41_ rfl rfl (one_of HT_.out (by kernel_rfl)) (by decide) (fun K hK => ?_)
                       refine goes_ Try.func8 (by kernel_rfl) rfl #[.int .i64 t619] (by rfl) rfl rfl (by (try simp only [List.map_toArray, List.map_cons, List.map_nil]); first | done | rfl | (simp only [List.length_drop, List.length_take]; rfl)) ?_
                       with_reducible refine (gangwaylaw9_num.calls t619 t627 _ A53.out).mono ?_
                       rintro e w' ⟨rfl, ⟨nd, rfl⟩⟩
                       refine ⟨_, rfl, ?_⟩
                       obtain ⟨Ao74, co74, eo74⟩ := Kd.R_slice HO599.out
                       (first | subst eo74 | (injection eo74 with f1_ f2_ f3_; have f4_ := f1_.symm; have f5_ := f3_.symm; clear f1_ f2_ f3_; subst f4_; subst f5_))
                       obtain ⟨Ao75, co75, eo75⟩ := Kd.R_slice HO618.out
                       (first | subst eo75 | (injection eo75 with f1_ f2_ f3_; have f4_ := f1_.symm; have f5_ := f3_.symm; clear f1_ f2_ f3_; subst f4_; subst f5_))
                       refine hK.out _ _ trivial (fun hHeld => ?_)
                       clear hK K
                       refine norm_ (a' := ?_) ?_ ?_
                       rotate_left
                       ·show Act.put _ (some 111) _ = _
                        simp only [Act.put, e1, e2, e3, i64_w, i32_w]
                        rfl
                       refine pure_ (i := 16) (N := some 112) (v := ?_) (a' := ?_) bb40_ rfl rfl (any_of HT_.out (by kernel_rfl)) (fun _ _ _ h => h) (Or.inl ⟨by rfl, ?_⟩) ?_ ?_
                       rotate_left; · intro w'; go_simp; with_reducible rfl
                       rotate_left; · simp only [Act.put, e1, e2, e3, i64_w, i32_w]; rfl
                       refine pure_ (i := 17) (N := some 113) (v := ?_) (a' := ?_) bb39_ rfl rfl (any_of HT_.out (by kernel_rfl)) (fun _ _ _ h => h) (Or.inl ⟨by rfl, ?_⟩) ?_ ?_
                       rotate_left; · intro w'; go_simp; with_reducible rfl
                       rotate_left; · simp only [Act.put, e1, e2, e3, i64_w, i32_w]; rfl
                       refine pure_ (i := 18) (N := some 114) (v := ?_) (a' := ?_) bb38_ rfl rfl (any_of HT_.out (by kernel_rfl)) (fun _ _ _ h => h) (Or.inl ⟨by rfl, ?_⟩) ?_ ?_
                       rotate_left; · intro w'; go_simp; with_reducible rfl
                       rotate_left; · simp only [Act.put, e1, e2, e3, i64_w, i32_w]; rfl
                       refine pure_ (i := 19) (N := some 115) (v := ?_) (a' := ?_) bb37_ rfl rfl (any_of HT_.out (by kernel_rfl)) (fun _ _ _ h => h) (Or.inl ⟨by rfl, ?_⟩) ?_ ?_
                       rotate_left; · intro w'; go_simp; with_reducible rfl
                       rotate_left; · simp only [Act.put, e1, e2, e3, i64_w, i32_w]; rfl
                       refine pure_ (i := 20) (N := some 116) (v := ?_) (a' := ?_) bb36_ rfl rfl (any_of HT_.out (by kernel_rfl)) (fun _ _ _ h => h) (Or.inl ⟨by rfl, ?_⟩) ?_ ?_
                       rotate_left; · intro w'; go_simp; with_reducible rfl
                       rotate_left; · simp only [Act.put, e1, e2, e3, i64_w, i32_w]; rfl
                       refine pure_ (i := 21) (N := some 117) (v := ?_) (a' := ?_) bb35_ rfl rfl (any_of HT_.out (by kernel_rfl)) (fun _ _ _ h => h) (Or.inl ⟨by rfl, ?_⟩) ?_ ?_
                       rotate_left; · intro w'; go_simp; with_reducible rfl
                       rotate_left; · simp only [Act.put, e1, e2, e3, i64_w, i32_w]; rfl
                       refine pure_ (i := 22) (N := some 118) (v := ?_) (a' := ?_) bb34_ rfl rfl (any_of HT_.out (by kernel_rfl)) (fun _ _ _ h => h) (Or.inl ⟨by rfl, ?_⟩) ?_ ?_
                       rotate_left; · intro w'; go_simp; with_reducible rfl
                       rotate_left; · simp only [Act.put, e1, e2, e3, i64_w, i32_w]; rfl
                       refine pure_ (i := 23) (N := some 119) (v := ?_) (a' := ?_) bb33_ rfl rfl (any_of HT_.out (by kernel_rfl)) (fun _ _ _ h => h) (Or.inl ⟨by rfl, ?_⟩) ?_ ?_
                       rotate_left; · intro w'; go_simp; with_reducible rfl
                       rotate_left; · simp only [Act.put, e1, e2, e3, i64_w, i32_w]; rfl
                       refine pure_ (i := 24) (N := some 120) (v := ?_) (a' := ?_) bb32_ rfl rfl (any_of HT_.out (by kernel_rfl)) (fun _ _ _ h => h) (Or.inl ⟨by rfl, ?_⟩) ?_ ?_
                       rotate_left; · intro w'; go_simp; with_reducible rfl
                       rotate_left; · simp only [Act.put, e1, e2, e3, i64_w, i32_w]; rfl
                       refine pure_ (i := 25) (N := some 121) (v := ?_) (a' := ?_) bb31_ rfl rfl (any_of HT_.out (by kernel_rfl)) (fun _ _ _ h => h) (Or.inl ⟨by rfl, ?_⟩) ?_ ?_
                       rotate_left; · intro w'; go_simp; with_reducible rfl
                       rotate_left; · simp only [Act.put, e1, e2, e3, i64_w, i32_w]; rfl
                       refine pure_ (i := 26) (N := some 122) (v := ?_) (a' := ?_) bb30_ rfl rfl (any_of HT_.out (by kernel_rfl)) (fun _ _ _ h => h) (Or.inl ⟨by rfl, ?_⟩) ?_ ?_
                       rotate_left; · intro w'; go_simp; with_reducible rfl
                       rotate_left; · simp only [Act.put, e1, e2, e3, i64_w, i32_w]; rfl
                       refine pure_ (i := 27) (N := some 123) (v := ?_) (a' := ?_) bb29_ rfl rfl (any_of HT_.out (by kernel_rfl)) (fun _ _ _ h => h) (Or.inl ⟨by rfl, ?_⟩) ?_ ?_
                       rotate_left; · intro w'; go_simp; with_reducible rfl
                       rotate_left; · simp only [Act.put, e1, e2, e3, i64_w, i32_w]; rfl
                       refine pure_ (i := 28) (N := some 124) (v := ?_) (a' := ?_) bb28_ rfl rfl (any_of HT_.out (by kernel_rfl)) (fun _ _ _ h => h) (Or.inl ⟨by rfl, ?_⟩) ?_ ?_
                       rotate_left; · intro w'; go_simp; with_reducible rfl
                       rotate_left; · simp only [Act.put, e1, e2, e3, i64_w, i32_w]; rfl
                       refine pure_ (i := 29) (N := some 125) (v := ?_) (a' := ?_) bb27_ rfl rfl (any_of HT_.out (by kernel_rfl)) (fun _ _ _ h => h) (Or.inl ⟨by rfl, ?_⟩) ?_ ?_
                       rotate_left; · intro w'; go_simp; with_reducible rfl
                       rotate_left; · simp only [Act.put, e1, e2, e3, i64_w, i32_w]; rfl
                       refine pure_ (i := 30) (N := some 126) (v := ?_) (a' := ?_) bb26_ rfl rfl (any_of HT_.out (by kernel_rfl)) (fun _ _ _ h => h) (Or.inl ⟨by rfl, ?_⟩) ?_ ?_
                       rotate_left; · intro w'; go_simp; with_reducible rfl
                       rotate_left; · simp only [Act.put, e1, e2, e3, i64_w, i32_w]; rfl
                       refine pure_ (i := 31) (N := some 127) (v := ?_) (a' := ?_) bb25_ rfl rfl (any_of HT_.out (by kernel_rfl)) (fun _ _ _ h => h) (Or.inl ⟨by rfl, ?_⟩) ?_ ?_
                       rotate_left; · intro w'; go_simp; with_reducible rfl
                       rotate_left; · simp only [Act.put, e1, e2, e3, i64_w, i32_w]; rfl
                       refine pure_ (i := 32) (N := some 128) (v := undef) (a' := ?_) bb24_ rfl rfl (any_of HT_.out (by kernel_rfl)) (fun _ _ _ h => h) (Or.inr ⟨by rfl, rfl⟩) ?_ ?_
                       rotate_left; · simp only [Act.put, e1, e2, e3, i64_w, i32_w]; rfl
                       refine pure_ (i := 33) (N := some 129) (v := undef) (a' := ?_) bb23_ rfl rfl (any_of HT_.out (by kernel_rfl)) (fun _ _ _ h => h) (Or.inr ⟨by rfl, rfl⟩) ?_ ?_
                       rotate_left; · simp only [Act.put, e1, e2, e3, i64_w, i32_w]; rfl
                       refine pure_ (i := 34) (N := some 130) (v := undef) (a' := ?_) bb22_ rfl rfl (any_of HT_.out (by kernel_rfl)) (fun _ _ _ h => h) (Or.inr ⟨by rfl, rfl⟩) ?_ ?_
                       rotate_left; · simp only [Act.put, e1, e2, e3, i64_w, i32_w]; rfl
                       refine pure_ (i := 35) (N := some 131) (v := undef) (a' := ?_) bb20_ rfl rfl (any_of HT_.out (by kernel_rfl)) (fun _ _ _ h => h) (Or.inr ⟨by rfl, rfl⟩) ?_ ?_
                       rotate_left; · simp only [Act.put, e1, e2, e3, i64_w, i32_w]; rfl
                       refine pure_ (i := 36) (N := some 132) (v := undef) (a' := ?_) bb18_ rfl rfl (any_of HT_.out (by kernel_rfl)) (fun _ _ _ h => h) (Or.inr ⟨by rfl, rfl⟩) ?_ ?_
                       rotate_left; · simp only [Act.put, e1, e2, e3, i64_w, i32_w]; rfl
                       refine pure_ (i := 37) (N := some 133) (v := undef) (a' := ?_) bb16_ rfl rfl (any_of HT_.out (by kernel_rfl)) (fun _ _ _ h => h) (Or.inr ⟨by rfl, rfl⟩) ?_ ?_
                       rotate_left; · simp only [Act.put, e1, e2, e3, i64_w, i32_w]; rfl
                       refine pure_ (i := 38) (N := some 134) (v := undef) (a' := ?_) bb14_ rfl rfl (any_of HT_.out (by kernel_rfl)) (fun _ _ _ h => h) (Or.inr ⟨by rfl, rfl⟩) ?_ ?_
                       rotate_left; · simp only [Act.put, e1, e2, e3, i64_w, i32_w]; rfl
                       refine pure_ (i := 39) (N := some 135) (v := undef) (a' := ?_) bb13_ rfl rfl (any_of HT_.out (by kernel_rfl)) (fun _ _ _ h => h) (Or.inr ⟨by rfl, rfl⟩) ?_ ?_
                       rotate_left; · simp only [Act.put, e1, e2, e3, i64_w, i32_w]; rfl
                       refine pure_ (i := 40) (N := some 136) (v := undef) (a' := ?_) bb12_ rfl rfl (any_of HT_.out (by kernel_rfl)) (fun _ _ _ h => h) (Or.inr ⟨by rfl, rfl⟩) ?_ ?_
                       rotate_left; · simp only [Act.put, e1, e2, e3, i64_w, i32_w]; rfl
                       refine pure_ (i := 41) (N := some 137) (v := ?_) (a' := ?_) bb11_ rfl rfl (any_of HT_.out (by kernel_rfl)) (fun _ _ _ h => h) (Or.inl ⟨by rfl, ?_⟩) ?_ ?_
                       rotate_left; · intro w'; go_simp; with_reducible rfl
                       rotate_left; · simp only [Act.put, e1, e2, e3, i64_w, i32_w]; rfl
                       refine pure_ (i := 42) (N := some 138) (v := ?_) (a' := ?_) bb10_ rfl rfl (any_of HT_.out (by kernel_rfl)) (fun _ _ _ h => h) (Or.inl ⟨by rfl, ?_⟩) ?_ ?_
                       rotate_left; · intro w'; go_simp; with_reducible rfl
                       rotate_left; · simp only [Act.put, e1, e2, e3, i64_w, i32_w]; rfl
                       refine pure_ (i := 43) (N := some 139) (v := ?_) (a' := ?_) bb9_ rfl rfl (any_of HT_.out (by kernel_rfl)) (fun _ _ _ h => h) (Or.inl ⟨by rfl, ?_⟩) ?_ ?_
                       rotate_left; · intro w'; go_simp; with_reducible rfl
                       rotate_left; · simp only [Act.put, e1, e2, e3, i64_w, i32_w]; rfl
                       refine pure_ (i := 44) (N := some 140) (v := ?_) (a' := ?_) bb8_ rfl rfl (any_of HT_.out (by kernel_rfl)) (fun _ _ _ h => h) (Or.inl ⟨by rfl, ?_⟩) ?_ ?_
                       rotate_left; · intro w'; go_simp; with_reducible rfl
                       rotate_left; · simp only [Act.put, e1, e2, e3, i64_w, i32_w]; rfl
                       refine pure_ (i := 45) (N := some 141) (v := ?_) (a' := ?_) bb7_ rfl rfl (any_of HT_.out (by kernel_rfl)) (fun _ _ _ h => h) (Or.inl ⟨by rfl, ?_⟩) ?_ ?_
                       rotate_left; · intro w'; go_simp; with_reducible rfl
                       rotate_left; · simp only [Act.put, e1, e2, e3, i64_w, i32_w]; rfl
                       refine pure_ (i := 46) (N := some 142) (v := ?_) (a' := ?_) bb6_ rfl rfl (any_of HT_.out (by kernel_rfl)) (fun _ _ _ h => h) (Or.inl ⟨by rfl, ?_⟩) ?_ ?_
                       rotate_left; · intro w'; go_simp; with_reducible rfl
                       rotate_left; · simp only [Act.put, e1, e2, e3, i64_w, i32_w]; rfl
                       refine pure_ (i := 47) (N := some 143) (v := undef) (a' := ?_) bb5_ rfl rfl (any_of HT_.out (by kernel_rfl)) (fun _ _ _ h => h) (Or.inr ⟨by rfl, rfl⟩) ?_ ?_
                       rotate_left; · simp only [Act.put, e1, e2, e3, i64_w, i32_w]; rfl
                       refine pure_ (i := 48) (N := some 144) (v := undef) (a' := ?_) bb4_ rfl rfl (any_of HT_.out (by kernel_rfl)) (fun _ _ _ h => h) (Or.inr ⟨by rfl, rfl⟩) ?_ ?_
                       rotate_left; · simp only [Act.put, e1, e2, e3, i64_w, i32_w]; rfl
                       refine pure_ (i := 49) (N := some 145) (v := undef) (a' := ?_) bb3_ rfl rfl (any_of HT_.out (by kernel_rfl)) (fun _ _ _ h => h) (Or.inr ⟨by rfl, rfl⟩) ?_ ?_
                       rotate_left; · simp only [Act.put, e1, e2, e3, i64_w, i32_w]; rfl
                       refine pure_ (i := 50) (N := some 146) (v := undef) (a' := ?_) bb2_ rfl rfl (any_of HT_.out (by kernel_rfl)) (fun _ _ _ h => h) (Or.inr ⟨by rfl, rfl⟩) ?_ ?_
                       rotate_left; · simp only [Act.put, e1, e2, e3, i64_w, i32_w]; rfl
                       refine pure_ (i := 51) (N := some 147) (v := ?_) (a' := ?_) bb1_ rfl rfl (any_of HT_.out (by kernel_rfl)) (fun _ _ _ h => h) (Or.inl ⟨by rfl, ?_⟩) ?_ ?_
                       rotate_left; · intro w'; go_simp; with_reducible rfl
                       rotate_left; · simp only [Act.put, e1, e2, e3, i64_w, i32_w]; rfl
                       refine pure_ (i := 52) (N := some 148) (v := ?_) (a' := ?_) bb0_ rfl rfl (any_of HT_.out (by kernel_rfl)) (fun _ _ _ h => h) (Or.inl ⟨by rfl, ?_⟩) ?_ ?_
                       rotate_left; · intro w'; go_simp; with_reducible rfl
                       rotate_left; · simp only [Act.put, e1, e2, e3, i64_w, i32_w]; rfl
                       refine done_ (done_of HT_.out (by kernel_rfl)) ?_
                       try go_wp2
                       go_meet
                       case rel => exact ⟨_, (false), (by first | rfl | (simp; done) | (simp [*]; done)), H', ⟨by have := HK1.out; have := HJ13.out; first | omega | exact Nat.le_refl _⟩, ⟨by (with_reducible repeat (first | apply Kd.R_alloc | apply Kd.R_drewN | apply Kd.R_drew)); exact HO599.out⟩, ⟨by (with_reducible repeat (first | apply Kd.R_alloc | apply Kd.R_drewN | apply Kd.R_drew)); exact Kd.R_mono HO618.out (fun _ hk => ⟨hk.2, hk.1⟩)⟩, ⟨by (with_reducible repeat (first | apply Kd.R_alloc | apply Kd.R_drewN | apply Kd.R_drew)); exact Kd.R_mono HO622.out (fun _ hk => ⟨hk.2, hk.1⟩)⟩, ⟨by (with_reducible repeat (first | refine blk_drewN ?_ _ | refine blk_drew ?_ | refine blk_alloc ?_ _)); exact BK561.out⟩, ⟨by (with_reducible repeat (first | refine blk_drewN ?_ _ | refine blk_drew ?_ | refine blk_alloc ?_ _)); exact BK590.out⟩, ⟨by repeat (first | (with_reducible first | exact HI567.out | apply IsS61.alloc | apply IsS61.drewN | apply IsS61.drew | apply IsS61.set_0 | apply IsS61.set_1 | refine IsS61.far ?_ NB567_561.out _ | refine IsS61.far ?_ NB567_590.out _) | exact HI567.out)⟩, ⟨by repeat (first | (with_reducible first | exact HB.out | apply below_alloc | apply pw_below_drewN | apply below_drew1 | refine below_set ?_ (IsS61.ge HI567.out) | refine below_set ?_ GE561.out | refine below_set ?_ GE590.out) | exact HB.out)⟩⟩
                    ·rw [if_neg c56] at H
                     exact absurd H (by simp)
                   ·rw [if_neg c55] at H
                    exact absurd H (by simp)
                  ·rw [if_neg c54] at H
                   exact absurd H (by simp)
                 ·rw [if_neg c52] at H
                  exact absurd H (by simp)
                ·rw [if_neg c50] at H
                 exact absurd H (by simp)
               ·rw [if_neg c48] at H
                exact absurd H (by simp)
              case rest =>
               clear HC31
               obtain ⟨kq, x148_30, rfl, HA, HJ30, HO_9, HO_14, HO_568000, BK561, BK590, HI567, HB⟩ := hcut
               cases kq with
               | zero => exact absurd HA.out (by simp [j3])
               | succ kj30 =>
                have H := HA.out
                clear HA
                simp only [j3] at H
                by_cases c76 : x148_30 = true
                ·subst c76
                 have H1 : (none) = some r := by rw [if_pos rfl] at H; exact H
                 clear H
                 have H := H1
                 clear H1
                 exact absurd H (by simp)
                ·replace c76 := Bool.eq_false_iff.mpr c76
                 subst c76
                 have H1 : (gangwaylaw9_MemParts.l1 kj30 x5_1 (rd y591 t594) t597 t616 0 a0_0 a0_1 a0_2 l0_3 t620 t623 ((rd_T48 l0_3 x5_1).f0) ((rd_T48 l0_3 x5_1).f1) ((rd_T48 l0_3 x5_1).f2) ((rd_T48 l0_3 x5_1).f3) ((rd_T48 l0_3 x5_1).f4) ((rd_T48 l0_3 x5_1).f5)) = some r := by rw [if_neg (show ¬ (false = true) by decide)] at H; exact H
                 clear H
                 have H := H1
                 clear H1
                 have H' := Aside0.mk H
                 clear H
                 go_wp2
                 go_loopg [16] kj30 (fun kq v16 w' => ∃ (x16_4 : Int), v16 = .int .i64 x16_4 ∧ Aside0 (gangwaylaw9_MemParts.l1 kq x5_1 (rd y591 t594) t597 t616 x16_4 a0_0 a0_1 a0_2 l0_3 t620 t623 ((rd_T48 l0_3 x5_1).f0) ((rd_T48 l0_3 x5_1).f1) ((rd_T48 l0_3 x5_1).f2) ((rd_T48 l0_3 x5_1).f3) ((rd_T48 l0_3 x5_1).f4) ((rd_T48 l0_3 x5_1).f5) = some r) ∧ Aside0 (kq ≤ kj30) ∧ Aside0 (Kd.R (Kd.int .u8) 5 w' w.heap.size (fun k_ => some k_ ≠ (v617 : Value).ownBlock ∧ some k_ ≠ (v621 : Value).ownBlock) v598 t597) ∧ Aside0 (Kd.R (Kd.int .u8) 5 w' w.heap.size (fun k_ => some k_ ≠ (v598 : Value).ownBlock ∧ some k_ ≠ (v621 : Value).ownBlock) v617 t616) ∧ Aside0 (Kd.R (Kd.int .u8) 5 w' w.heap.size (fun k_ => some k_ ≠ (v598 : Value).ownBlock ∧ some k_ ≠ (v617 : Value).ownBlock) v621 t620) ∧ Aside0 (w'.heap[gb561]? = some (.cells #[.int .i64 a0_0, .int .i64 a0_1, .int .i64 a0_2, (.slice (some ad589) l0_3.length c0_3)] 26 (0, 0))) ∧ Aside0 (w'.heap[gb590]? = some (.cells #[.int .i64 ((rd_T48 l0_3 x5_1).f0), .int .i64 ((rd_T48 l0_3 x5_1).f1), .int .i64 ((rd_T48 l0_3 x5_1).f2), .int .i64 ((rd_T48 l0_3 x5_1).f3), .int .u64 ((rd_T48 l0_3 x5_1).f4), (.slice A589_5 ((rd_T48 l0_3 x5_1).f5).length c589_5)] 48 (0, 0))) ∧ Aside0 (IsS61 w w' g567 v621 t623) ∧ Aside0 (Below w.heap.size w w'))
                 case atStart => exact ⟨(0), (by first | rfl | (simp; done) | (simp [*]; done)), H', ⟨Nat.le_refl _⟩, ⟨by (with_reducible repeat (first | apply Kd.R_alloc | apply Kd.R_drewN | apply Kd.R_drew)); exact HO_9.out⟩, ⟨by (with_reducible repeat (first | apply Kd.R_alloc | apply Kd.R_drewN | apply Kd.R_drew)); exact HO_14.out⟩, ⟨by (with_reducible repeat (first | apply Kd.R_alloc | apply Kd.R_drewN | apply Kd.R_drew)); exact HO_568000.out⟩, ⟨by (with_reducible repeat (first | refine blk_drewN ?_ _ | refine blk_drew ?_ | refine blk_alloc ?_ _)); exact BK561.out⟩, ⟨by (with_reducible repeat (first | refine blk_drewN ?_ _ | refine blk_drew ?_ | refine blk_alloc ?_ _)); exact BK590.out⟩, ⟨by repeat (first | (with_reducible first | exact HI567.out | apply IsS61.alloc | apply IsS61.drewN | apply IsS61.drew | apply IsS61.set_0 | apply IsS61.set_1 | refine IsS61.far ?_ NB567_561.out _ | refine IsS61.far ?_ NB567_590.out _) | exact HI567.out)⟩, ⟨by repeat (first | (with_reducible first | exact HB.out | apply below_alloc | apply pw_below_drewN | apply below_drew1 | refine below_set ?_ (IsS61.ge HI567.out) | refine below_set ?_ GE561.out | refine below_set ?_ GE590.out) | exact HB.out)⟩⟩
                 case round =>
                  clear H'
                  try clear c76
                  obtain ⟨x16_4, rfl, HA, HK4, HO_9, HO_14, HO_568000, BK561, BK590, HI567, HB⟩ := hrel
                  cases gk with
                  | zero => exact absurd HA.out (by simp [gangwaylaw9_MemParts.l1])
                  | succ k4 =>
                   have H := HA.out
                   clear HA
                   simp only [gangwaylaw9_MemParts.l1] at H
                   by_cases c77 : x16_4 < 10
                   ·rw [if_pos c77] at H
                    have c77b0 : decide (x16_4 < 10) = true := decide_eq_true c77
                    clear c77
                    by_cases c78 : 0 ≤ x16_4
                    ·rw [if_pos c78] at H
                     have c78b0 : decide (0 ≤ x16_4) = true := decide_eq_true c78
                     clear c78
                     by_cases c79 : x16_4 < (t597.length : Int)
                     ·rw [if_pos c79] at H
                      have c79b0 : decide (x16_4 < (t597.length : Int)) = true := decide_eq_true c79
                      clear c79
                      have HC80 := Aside0.mk H
                      clear H
                      obtain ⟨Ao81, co81, eo81⟩ := Kd.R_slice HO_9.out
                      subst eo81
                      have p628 : 0 ≤ (x16_4 : Int) := of_decide_eq_true (by first | (with_reducible assumption) | assumption)
                      have q628 : x16_4 < (t597.length : Int) := of_decide_eq_true (by first | (with_reducible assumption) | assumption)
                      obtain ⟨ad628, e628, hx628_0⟩ := Kd.at_int (Kd.R_reads' HO_9.out).2.2 x16_4 p628 q628
                      cases e628
                      replace p628 := eq_true p628
                      replace q628 := eq_true q628
                      go_upto_region 20 with (fail)
                      go_cut [163] (fun v163 wc => ∃ (kq : Nat) (x163_79 : Bool), v163 = .bool x163_79 ∧ Aside0 (j5 kq x5_1 (rd y591 t594) t597 t616 x16_4 (rd t597 x16_4) x163_79 a0_0 a0_1 a0_2 l0_3 t620 t623 ((rd_T48 l0_3 x5_1).f0) ((rd_T48 l0_3 x5_1).f1) ((rd_T48 l0_3 x5_1).f2) ((rd_T48 l0_3 x5_1).f3) ((rd_T48 l0_3 x5_1).f4) ((rd_T48 l0_3 x5_1).f5) = some r) ∧ Aside0 (kq ≤ k4) ∧ Aside0 (Kd.R (Kd.int .u8) 5 wc w.heap.size (fun k_ => some k_ ≠ (v617 : Value).ownBlock ∧ some k_ ≠ (v621 : Value).ownBlock) (.slice (some ad628) t597.length co81) t597) ∧ Aside0 (Kd.R (Kd.int .u8) 5 wc w.heap.size (fun k_ => some k_ ≠ ((.slice (some ad628) t597.length co81) : Value).ownBlock ∧ some k_ ≠ (v621 : Value).ownBlock) v617 t616) ∧ Aside0 (Kd.R (Kd.int .u8) 5 wc w.heap.size (fun k_ => some k_ ≠ ((.slice (some ad628) t597.length co81) : Value).ownBlock ∧ some k_ ≠ (v617 : Value).ownBlock) v621 t620) ∧ Aside0 (wc.heap[gb561]? = some (.cells #[.int .i64 a0_0, .int .i64 a0_1, .int .i64 a0_2, (.slice (some ad589) l0_3.length c0_3)] 26 (0, 0))) ∧ Aside0 (wc.heap[gb590]? = some (.cells #[.int .i64 ((rd_T48 l0_3 x5_1).f0), .int .i64 ((rd_T48 l0_3 x5_1).f1), .int .i64 ((rd_T48 l0_3 x5_1).f2), .int .i64 ((rd_T48 l0_3 x5_1).f3), .int .u64 ((rd_T48 l0_3 x5_1).f4), (.slice A589_5 ((rd_T48 l0_3 x5_1).f5).length c589_5)] 48 (0, 0))) ∧ Aside0 (IsS61 w wc g567 v621 t623) ∧ Aside0 (Below w.heap.size w wc))
                      case first =>
                       have H := HC80.out
                       clear HC80
                       by_cases c82 : x16_4 ≥ 1
                       ·rw [if_pos c82] at H
                        have c82b0 : decide (1 ≤ x16_4) = true := decide_eq_true c82
                        clear c82
                        (first | rw [c82b0] | (simp only [i64_w, i32_w]; rw [c82b0]) | skip)
                        have H' := Aside0.mk H
                        clear H
                        go_wp2
                        go_meet
                        case rel => exact ⟨_, (decide (x16_4 ≤ (rd y591 t594))), (by first | rfl | (simp; done) | (simp [*]; done)), H', ⟨by have := HK1.out; have := HJ13.out; have := HJ30.out; have := HK4.out; first | omega | exact Nat.le_refl _⟩, ⟨by (with_reducible repeat (first | apply Kd.R_alloc | apply Kd.R_drewN | apply Kd.R_drew)); exact HO_9.out⟩, ⟨by (with_reducible repeat (first | apply Kd.R_alloc | apply Kd.R_drewN | apply Kd.R_drew)); exact HO_14.out⟩, ⟨by (with_reducible repeat (first | apply Kd.R_alloc | apply Kd.R_drewN | apply Kd.R_drew)); exact HO_568000.out⟩, ⟨by (with_reducible repeat (first | refine blk_drewN ?_ _ | refine blk_drew ?_ | refine blk_alloc ?_ _)); exact BK561.out⟩, ⟨by (with_reducible repeat (first | refine blk_drewN ?_ _ | refine blk_drew ?_ | refine blk_alloc ?_ _)); exact BK590.out⟩, ⟨by repeat (first | (with_reducible first | exact HI567.out | apply IsS61.alloc | apply IsS61.drewN | apply IsS61.drew | apply IsS61.set_0 | apply IsS61.set_1 | refine IsS61.far ?_ NB567_561.out _ | refine IsS61.far ?_ NB567_590.out _) | exact HI567.out)⟩, ⟨by repeat (first | (with_reducible first | exact HB.out | apply below_alloc | apply pw_below_drewN | apply below_drew1 | refine below_set ?_ (IsS61.ge HI567.out) | refine below_set ?_ GE561.out | refine below_set ?_ GE590.out) | exact HB.out)⟩⟩
                       ·rw [if_neg c82] at H
                        have c82b0 : decide (1 ≤ x16_4) = false := decide_eq_false c82
                        clear c82
                        (first | rw [c82b0] | (simp only [i64_w, i32_w]; rw [c82b0]) | skip)
                        have H' := Aside0.mk H
                        clear H
                        go_wp2
                        go_meet
                        case rel => exact ⟨_, (false), (by first | rfl | (simp; done) | (simp [*]; done)), H', ⟨by have := HK1.out; have := HJ13.out; have := HJ30.out; have := HK4.out; first | omega | exact Nat.le_refl _⟩, ⟨by (with_reducible repeat (first | apply Kd.R_alloc | apply Kd.R_drewN | apply Kd.R_drew)); exact HO_9.out⟩, ⟨by (with_reducible repeat (first | apply Kd.R_alloc | apply Kd.R_drewN | apply Kd.R_drew)); exact HO_14.out⟩, ⟨by (with_reducible repeat (first | apply Kd.R_alloc | apply Kd.R_drewN | apply Kd.R_drew)); exact HO_568000.out⟩, ⟨by (with_reducible repeat (first | refine blk_drewN ?_ _ | refine blk_drew ?_ | refine blk_alloc ?_ _)); exact BK561.out⟩, ⟨by (with_reducible repeat (first | refine blk_drewN ?_ _ | refine blk_drew ?_ | refine blk_alloc ?_ _)); exact BK590.out⟩, ⟨by repeat (first | (with_reducible first | exact HI567.out | apply IsS61.alloc | apply IsS61.drewN | apply IsS61.drew | apply IsS61.set_0 | apply IsS61.set_1 | refine IsS61.far ?_ NB567_561.out _ | refine IsS61.far ?_ NB567_590.out _) | exact HI567.out)⟩, ⟨by repeat (first | (with_reducible first | exact HB.out | apply below_alloc | apply pw_below_drewN | apply below_drew1 | refine below_set ?_ (IsS61.ge HI567.out) | refine below_set ?_ GE561.out | refine below_set ?_ GE590.out) | exact HB.out)⟩⟩
                      case rest =>
                       clear HC80
                       try clear c77b0
                       try clear c78b0
                       try clear c79b0
                       try clear hx628_0
                       try clear p628
                       try clear q628
                       obtain ⟨kq, x163_79, rfl, HA, HJ79, HO_9, HO_14, HO_568000, BK561, BK590, HI567, HB⟩ := hcut
                       cases kq with
                       | zero => exact absurd HA.out (by simp [j5])
                       | succ kj79 =>
                        have H := HA.out
                        clear HA
                        simp only [j5] at H
                        by_cases c83 : x163_79 = true
                        ·subst c83
                         have H1 : (if 0 ≤ (wrap64 (8 * (wrap64 (x16_4 - 1)))) then (if 0 ≤ x16_4 then (if x16_4 < (t616.length : Int) then (if (rd t616 x16_4) = ((shr .u64 ((rd_T48 l0_3 x5_1).f4) (wrap64 (8 * (wrap64 (x16_4 - 1))))) % 256) then (gangwaylaw9_MemParts.l1 kj79 x5_1 (rd y591 t594) t597 t616 (wrap64 (x16_4 + 1)) a0_0 a0_1 a0_2 l0_3 t620 t623 ((rd_T48 l0_3 x5_1).f0) ((rd_T48 l0_3 x5_1).f1) ((rd_T48 l0_3 x5_1).f2) ((rd_T48 l0_3 x5_1).f3) ((rd_T48 l0_3 x5_1).f4) ((rd_T48 l0_3 x5_1).f5)) else (none)) else (none)) else (none)) else (none)) = some r := by rw [if_pos rfl] at H; exact H
                         clear H
                         have H := H1
                         clear H1
                         obtain ⟨ji84, hji84⟩ : ∃ j_ : Int, (wrap64 (8 * (wrap64 (x16_4 - 1)))) = j_ := ⟨_, rfl⟩
                         replace H : (if 0 ≤ (ji84) then (if 0 ≤ x16_4 then (if x16_4 < (t616.length : Int) then (if (rd t616 x16_4) = ((shr .u64 ((rd_T48 l0_3 x5_1).f4) (ji84)) % 256) then (gangwaylaw9_MemParts.l1 kj79 x5_1 (rd y591 t594) t597 t616 (wrap64 (x16_4 + 1)) a0_0 a0_1 a0_2 l0_3 t620 t623 ((rd_T48 l0_3 x5_1).f0) ((rd_T48 l0_3 x5_1).f1) ((rd_T48 l0_3 x5_1).f2) ((rd_T48 l0_3 x5_1).f3) ((rd_T48 l0_3 x5_1).f4) ((rd_T48 l0_3 x5_1).f5)) else (none)) else (none)) else (none)) else (none)) = some r := by first | (rw [hji84] at H; exact H) | (simp only [hji84] at H ⊢; exact H)
                         have hji84w : (IntKind.i64.wrap (8 * (wrap64 (x16_4 - 1)))) = ji84 := (i64_w _).trans hji84
                         by_cases c85 : 0 ≤ (ji84)
                         ·rw [if_pos c85] at H
                          have c85b0 := eq_true c85
                          have c85b1 : decide (0 ≤ (ji84)) = true := decide_eq_true c85
                          clear c85
                          obtain ⟨ji86, hji86⟩ : ∃ j_ : Int, (shr .u64 ((rd_T48 l0_3 x5_1).f4) (ji84)) = j_ := ⟨_, rfl⟩
                          replace H : (if 0 ≤ x16_4 then (if x16_4 < (t616.length : Int) then (if (rd t616 x16_4) = ((ji86) % 256) then (gangwaylaw9_MemParts.l1 kj79 x5_1 (rd y591 t594) t597 t616 (wrap64 (x16_4 + 1)) a0_0 a0_1 a0_2 l0_3 t620 t623 ((rd_T48 l0_3 x5_1).f0) ((rd_T48 l0_3 x5_1).f1) ((rd_T48 l0_3 x5_1).f2) ((rd_T48 l0_3 x5_1).f3) ((rd_T48 l0_3 x5_1).f4) ((rd_T48 l0_3 x5_1).f5)) else (none)) else (none)) else (none)) = some r := by first | (rw [hji86] at H; exact H) | (simp only [hji86] at H ⊢; exact H)
                          have hji86_ : (((rd_T48 l0_3 x5_1).f4) / 2 ^ min (ji84).toNat 64) = ji86 := hji86
                          have hji86z : (ji84) ≤ 64 → (((rd_T48 l0_3 x5_1).f4) / 2 ^ (ji84).toNat) = ji86 := shr_small hji86
                          by_cases c87 : 0 ≤ x16_4
                          ·rw [if_pos c87] at H
                           have c87b0 : decide (0 ≤ x16_4) = true := decide_eq_true c87
                           clear c87
                           by_cases c88 : x16_4 < (t616.length : Int)
                           ·rw [if_pos c88] at H
                            have c88b0 : decide (x16_4 < (t616.length : Int)) = true := decide_eq_true c88
                            clear c88
                            by_cases c89 : (rd t616 x16_4) = ((ji86) % 256)
                            ·rw [if_pos c89] at H
                             have c89b0 : ((rd t616 x16_4) == ((ji86) % 256)) = true := beq_iff_eq.mpr c89
                             have c89b1 : ((rd t616 x16_4) != ((ji86) % 256)) = false := bne_eq_false_iff_eq.mpr c89
                             clear c89
                             have H' := Aside0.mk H
                             clear H
                             have hnb90 := NB590_561.out
                             have hnc90 := NB561_590.out
                             have hnb91 := NB590_567.out
                             have hnc91 := NB567_590.out
                             have hcz92_0 : wc.cell? ⟨gb590, 0, none⟩ = some (.int .i64 ((rd_T48 l0_3 x5_1).f0)) := bc BK590 0
                             have hcz92_1 : wc.cell? ⟨gb590, 1, none⟩ = some (.int .i64 ((rd_T48 l0_3 x5_1).f1)) := bc BK590 1
                             have hcz92_2 : wc.cell? ⟨gb590, 2, none⟩ = some (.int .i64 ((rd_T48 l0_3 x5_1).f2)) := bc BK590 2
                             have hcz92_3 : wc.cell? ⟨gb590, 3, none⟩ = some (.int .i64 ((rd_T48 l0_3 x5_1).f3)) := bc BK590 3
                             have hcz92_4 : wc.cell? ⟨gb590, 4, none⟩ = some (.int .u64 ((rd_T48 l0_3 x5_1).f4)) := bc BK590 4
                             have hcz92_5 : wc.cell? ⟨gb590, 5, none⟩ = some (.slice A589_5 ((rd_T48 l0_3 x5_1).f5).length c589_5) := bc BK590 5
                             have hfz92_0 := blk_frozen BK590.out 0
                             have hfz92_1 := blk_frozen BK590.out 1
                             have hfz92_2 := blk_frozen BK590.out 2
                             have hfz92_3 := blk_frozen BK590.out 3
                             have hfz92_4 := blk_frozen BK590.out 4
                             have hfz92_5 := blk_frozen BK590.out 5
                             obtain ⟨Ao93, co93, eo93⟩ := Kd.R_slice HO_14.out
                             subst eo93
                             have p629 : 0 ≤ (x16_4 : Int) := of_decide_eq_true (by first | (with_reducible assumption) | assumption)
                             have q629 : x16_4 < (t616.length : Int) := of_decide_eq_true (by first | (with_reducible assumption) | assumption)
                             obtain ⟨ad629, e629, hx629_0⟩ := Kd.at_int (Kd.R_reads' HO_14.out).2.2 x16_4 p629 q629
                             cases e629
                             replace p629 := eq_true p629
                             replace q629 := eq_true q629
                             go_wp2
                             go_roundg kj79
                             case measure => have := HK1.out; have := HJ13.out; have := HJ30.out; have := HK4.out; have := HJ79.out; omega
                             case rel => exact ⟨(wrap64 (x16_4 + 1)), (by first | rfl | (simp; done) | (simp [*]; done)), H', ⟨by have := HK1.out; have := HJ13.out; have := HJ30.out; have := HK4.out; have := HJ79.out; omega⟩, ⟨by (with_reducible repeat (first | apply Kd.R_alloc | apply Kd.R_drewN | apply Kd.R_drew)); exact HO_9.out⟩, ⟨by (with_reducible repeat (first | apply Kd.R_alloc | apply Kd.R_drewN | apply Kd.R_drew)); exact HO_14.out⟩, ⟨by (with_reducible repeat (first | apply Kd.R_alloc | apply Kd.R_drewN | apply Kd.R_drew)); exact HO_568000.out⟩, ⟨by (with_reducible repeat (first | refine blk_drewN ?_ _ | refine blk_drew ?_ | refine blk_alloc ?_ _)); exact BK561.out⟩, ⟨by (with_reducible repeat (first | refine blk_drewN ?_ _ | refine blk_drew ?_ | refine blk_alloc ?_ _)); exact BK590.out⟩, ⟨by repeat (first | (with_reducible first | exact HI567.out | apply IsS61.alloc | apply IsS61.drewN | apply IsS61.drew | apply IsS61.set_0 | apply IsS61.set_1 | refine IsS61.far ?_ NB567_561.out _ | refine IsS61.far ?_ NB567_590.out _) | exact HI567.out)⟩, ⟨by repeat (first | (with_reducible first | exact HB.out | apply below_alloc | apply pw_below_drewN | apply below_drew1 | refine below_set ?_ (IsS61.ge HI567.out) | refine below_set ?_ GE561.out | refine below_set ?_ GE590.out) | exact HB.out)⟩⟩
                            ·rw [if_neg c89] at H
                             exact absurd H (by simp)
                           ·rw [if_neg c88] at H
                            exact absurd H (by simp)
                          ·rw [if_neg c87] at H
                           exact absurd H (by simp)
                         ·rw [if_neg c85] at H
                          exact absurd H (by simp)
                        ·replace c83 := Bool.eq_false_iff.mpr c83
                         subst c83
                         have H1 : (if 0 ≤ x16_4 then (if x16_4 < (t616.length : Int) then (if (rd t616 x16_4) = (rd t597 x16_4) then (gangwaylaw9_MemParts.l1 kj79 x5_1 (rd y591 t594) t597 t616 (wrap64 (x16_4 + 1)) a0_0 a0_1 a0_2 l0_3 t620 t623 ((rd_T48 l0_3 x5_1).f0) ((rd_T48 l0_3 x5_1).f1) ((rd_T48 l0_3 x5_1).f2) ((rd_T48 l0_3 x5_1).f3) ((rd_T48 l0_3 x5_1).f4) ((rd_T48 l0_3 x5_1).f5)) else (none)) else (none)) else (none)) = some r := by rw [if_neg (show ¬ (false = true) by decide)] at H; exact H
                         clear H
                         have H := H1
                         clear H1
                         by_cases c94 : 0 ≤ x16_4
                         ·rw [if_pos c94] at H
                          have c94b0 : decide (0 ≤ x16_4) = true := decide_eq_true c94
                          clear c94
                          by_cases c95 : x16_4 < (t616.length : Int)
                          ·rw [if_pos c95] at H
                           have c95b0 : decide (x16_4 < (t616.length : Int)) = true := decide_eq_true c95
                           clear c95
                           by_cases c96 : (rd t616 x16_4) = (rd t597 x16_4)
                           ·rw [if_pos c96] at H
                            have c96b0 : ((rd t616 x16_4) == (rd t597 x16_4)) = true := beq_iff_eq.mpr c96
                            have c96b1 : ((rd t616 x16_4) != (rd t597 x16_4)) = false := bne_eq_false_iff_eq.mpr c96
                            clear c96
                            have H' := Aside0.mk H
                            clear H
                            obtain ⟨Ao97, co97, eo97⟩ := Kd.R_slice HO_14.out
                            subst eo97
                            have p630 : 0 ≤ (x16_4 : Int) := of_decide_eq_true (by first | (with_reducible assumption) | assumption)
                            have q630 : x16_4 < (t616.length : Int) := of_decide_eq_true (by first | (with_reducible assumption) | assumption)
                            obtain ⟨ad630, e630, hx630_0⟩ := Kd.at_int (Kd.R_reads' HO_14.out).2.2 x16_4 p630 q630
                            cases e630
                            replace p630 := eq_true p630
                            replace q630 := eq_true q630
                            go_wp2
                            go_roundg kj79
                            case measure => have := HK1.out; have := HJ13.out; have := HJ30.out; have := HK4.out; have := HJ79.out; omega
                            case rel => exact ⟨(wrap64 (x16_4 + 1)), (by first | rfl | (simp; done) | (simp [*]; done)), H', ⟨by have := HK1.out; have := HJ13.out; have := HJ30.out; have := HK4.out; have := HJ79.out; omega⟩, ⟨by (with_reducible repeat (first | apply Kd.R_alloc | apply Kd.R_drewN | apply Kd.R_drew)); exact HO_9.out⟩, ⟨by (with_reducible repeat (first | apply Kd.R_alloc | apply Kd.R_drewN | apply Kd.R_drew)); exact HO_14.out⟩, ⟨by (with_reducible repeat (first | apply Kd.R_alloc | apply Kd.R_drewN | apply Kd.R_drew)); exact HO_568000.out⟩, ⟨by (with_reducible repeat (first | refine blk_drewN ?_ _ | refine blk_drew ?_ | refine blk_alloc ?_ _)); exact BK561.out⟩, ⟨by (with_reducible repeat (first | refine blk_drewN ?_ _ | refine blk_drew ?_ | refine blk_alloc ?_ _)); exact BK590.out⟩, ⟨by repeat (first | (with_reducible first | exact HI567.out | apply IsS61.alloc | apply IsS61.drewN | apply IsS61.drew | apply IsS61.set_0 | apply IsS61.set_1 | refine IsS61.far ?_ NB567_561.out _ | refine IsS61.far ?_ NB567_590.out _) | exact HI567.out)⟩, ⟨by repeat (first | (with_reducible first | exact HB.out | apply below_alloc | apply pw_below_drewN | apply below_drew1 | refine below_set ?_ (IsS61.ge HI567.out) | refine below_set ?_ GE561.out | refine below_set ?_ GE590.out) | exact HB.out)⟩⟩
                           ·rw [if_neg c96] at H
                            exact absurd H (by simp)
                          ·rw [if_neg c95] at H
                           exact absurd H (by simp)
                         ·rw [if_neg c94] at H
                          exact absurd H (by simp)
                     ·rw [if_neg c79] at H
                      exact absurd H (by simp)
                    ·rw [if_neg c78] at H
                     exact absurd H (by simp)
                   ·rw [if_neg c77] at H
                    have c77b0 : decide (x16_4 < 10) = false := decide_eq_false c77
                    clear c77
                    replace H := Option.bind_eq_some_iff.mp H
                    obtain ⟨⟨t631, t632, t635⟩, A980, H⟩ := H
                    replace H : ((gangwaylaw9_num.f t631).bind fun t636 => (if t636 = 21 then ((mem_Memory_Store.f t632 t635 4294967295 4294967295 (rd y591 t594) ((rd_T48 l0_3 x5_1).f4)).bind fun bt637 => ((gangwaylaw9_num.f bt637.1).bind fun t642 => (if t642 = 21 then ((mem_Memory_Write.f bt637.2.1 bt637.2.2 65535 (([1, 2] : List Int))).bind fun bt646 => ((gangwaylaw9_num.f bt646.1).bind fun t651 => (if t651 = 21 then (gangwaylaw9_MemParts.l0 k4 (wrap64 (x5_1 + 1)) a0_0 a0_1 a0_2 l0_3 bt646.2.1 bt646.2.2) else (none)))) else (none)))) else (none))) = some r := H
                    have A98 := Aside0.mk A980
                    clear A980
                    replace H := Option.bind_eq_some_iff.mp H
                    obtain ⟨t636, A990, H⟩ := H
                    replace H : (if t636 = 21 then ((mem_Memory_Store.f t632 t635 4294967295 4294967295 (rd y591 t594) ((rd_T48 l0_3 x5_1).f4)).bind fun bt637 => ((gangwaylaw9_num.f bt637.1).bind fun t642 => (if t642 = 21 then ((mem_Memory_Write.f bt637.2.1 bt637.2.2 65535 (([1, 2] : List Int))).bind fun bt646 => ((gangwaylaw9_num.f bt646.1).bind fun t651 => (if t651 = 21 then (gangwaylaw9_MemParts.l0 k4 (wrap64 (x5_1 + 1)) a0_0 a0_1 a0_2 l0_3 bt646.2.1 bt646.2.2) else (none)))) else (none)))) else (none)) = some r := H
                    have A99 := Aside0.mk A990
                    clear A990
                    by_cases c100 : t636 = 21
                    ·rw [if_pos c100] at H
                     have c100b0 : (t636 == 21) = true := beq_iff_eq.mpr c100
                     have c100b1 : (t636 != 21) = false := bne_eq_false_iff_eq.mpr c100
                     clear c100
                     replace H := Option.bind_eq_some_iff.mp H
                     obtain ⟨⟨t637, t638, t641⟩, A1010, H⟩ := H
                     replace H : ((gangwaylaw9_num.f t637).bind fun t642 => (if t642 = 21 then ((mem_Memory_Write.f t638 t641 65535 (([1, 2] : List Int))).bind fun bt646 => ((gangwaylaw9_num.f bt646.1).bind fun t651 => (if t651 = 21 then (gangwaylaw9_MemParts.l0 k4 (wrap64 (x5_1 + 1)) a0_0 a0_1 a0_2 l0_3 bt646.2.1 bt646.2.2) else (none)))) else (none))) = some r := H
                     have A101 := Aside0.mk A1010
                     clear A1010
                     replace H := Option.bind_eq_some_iff.mp H
                     obtain ⟨t642, A1020, H⟩ := H
                     replace H : (if t642 = 21 then ((mem_Memory_Write.f t638 t641 65535 (([1, 2] : List Int))).bind fun bt646 => ((gangwaylaw9_num.f bt646.1).bind fun t651 => (if t651 = 21 then (gangwaylaw9_MemParts.l0 k4 (wrap64 (x5_1 + 1)) a0_0 a0_1 a0_2 l0_3 bt646.2.1 bt646.2.2) else (none)))) else (none)) = some r := H
                     have A102 := Aside0.mk A1020
                     clear A1020
                     by_cases c103 : t642 = 21
                     ·rw [if_pos c103] at H
                      have c103b0 : (t642 == 21) = true := beq_iff_eq.mpr c103
                      have c103b1 : (t642 != 21) = false := bne_eq_false_iff_eq.mpr c103
                      clear c103
                      obtain ⟨y643, hy643⟩ : ∃ y_ : List Int, y_ = (([1, 2] : List Int)) := ⟨_, rfl⟩
                      replace H : ((mem_Memory_Write.f t638 t641 65535 y643).bind fun bt646 => ((gangwaylaw9_num.f bt646.1).bind fun t651 => (if t651 = 21 then (gangwaylaw9_MemParts.l0 k4 (wrap64 (x5_1 + 1)) a0_0 a0_1 a0_2 l0_3 bt646.2.1 bt646.2.2) else (none)))) = some r := by first | (rw [hy643]; with_reducible exact H) | (have H2_ := (Option.bind_some _ _).symm.trans H; rw [hy643]; with_reducible exact H2_) | (have H2_ := (Option.bind_some _ _).symm.trans H; with_reducible exact H2_) | with_reducible exact H | (rw [hy643]; exact H) | exact H
                      have Ny643 := Aside0.mk hy643
                      clear hy643
                      replace H := Option.bind_eq_some_iff.mp H
                      obtain ⟨⟨t646, t647, t650⟩, A1040, H⟩ := H
                      replace H : ((gangwaylaw9_num.f t646).bind fun t651 => (if t651 = 21 then (gangwaylaw9_MemParts.l0 k4 (wrap64 (x5_1 + 1)) a0_0 a0_1 a0_2 l0_3 t647 t650) else (none))) = some r := H
                      have A104 := Aside0.mk A1040
                      clear A1040
                      replace H := Option.bind_eq_some_iff.mp H
                      obtain ⟨t651, A1050, H⟩ := H
                      replace H : (if t651 = 21 then (gangwaylaw9_MemParts.l0 k4 (wrap64 (x5_1 + 1)) a0_0 a0_1 a0_2 l0_3 t647 t650) else (none)) = some r := H
                      have A105 := Aside0.mk A1050
                      clear A1050
                      by_cases c106 : t651 = 21
                      ·rw [if_pos c106] at H
                       have c106b0 : (t651 == 21) = true := beq_iff_eq.mpr c106
                       have c106b1 : (t651 != 21) = false := bne_eq_false_iff_eq.mpr c106
                       clear c106
                       have H' := Aside0.mk H
                       clear H
                       have hnb107 := NB590_561.out
                       have hnc107 := NB561_590.out
                       have hnb108 := NB590_567.out
                       have hnc108 := NB567_590.out
                       have hcz109_0 : wr.cell? ⟨gb590, 0, none⟩ = some (.int .i64 ((rd_T48 l0_3 x5_1).f0)) := bc BK590 0
                       have hcz109_1 : wr.cell? ⟨gb590, 1, none⟩ = some (.int .i64 ((rd_T48 l0_3 x5_1).f1)) := bc BK590 1
                       have hcz109_2 : wr.cell? ⟨gb590, 2, none⟩ = some (.int .i64 ((rd_T48 l0_3 x5_1).f2)) := bc BK590 2
                       have hcz109_3 : wr.cell? ⟨gb590, 3, none⟩ = some (.int .i64 ((rd_T48 l0_3 x5_1).f3)) := bc BK590 3
                       have hcz109_4 : wr.cell? ⟨gb590, 4, none⟩ = some (.int .u64 ((rd_T48 l0_3 x5_1).f4)) := bc BK590 4
                       have hcz109_5 : wr.cell? ⟨gb590, 5, none⟩ = some (.slice A589_5 ((rd_T48 l0_3 x5_1).f5).length c589_5) := bc BK590 5
                       have hfz109_0 := blk_frozen BK590.out 0
                       have hfz109_1 := blk_frozen BK590.out 1
                       have hfz109_2 := blk_frozen BK590.out 2
                       have hfz109_3 := blk_frozen BK590.out 3
                       have hfz109_4 := blk_frozen BK590.out 4
                       have hfz109_5 := blk_frozen BK590.out 5
                       go_wp2_with (first | ((with_reducible refine gate_callee (f := 12) rfl ?_); refine goesL_ (some 183) rfl rfl Try.func12 (by kernel_rfl) rfl #[.pointer (some ⟨g567, 0, none⟩), .int .i64 (wrap64 (65536 - (rd y591 t594))), .int .i64 1, .int .i64 (rd y591 t594), .int .u64 ((rd_T48 l0_3 x5_1).f4)] rfl (by (try simp only [List.map_toArray, List.map_cons, List.map_nil]); first | done | rfl | (simp only [List.length_drop, List.length_take]; rfl)) ?_; (with_reducible refine (mem_Memory_Store.calls g567 (fun k_ => some k_ = (v621 : Value).ownBlock) v621 t620 t623 (wrap64 (65536 - (rd y591 t594))) 1 (rd y591 t594) ((rd_T48 l0_3 x5_1).f4) t631 t632 t635 w _ ?side1 ?side2 ?side3 A98.out).mono ?_); (case side1 => repeat (first | (with_reducible first | exact HI567.out | apply IsS61.alloc | apply IsS61.drewN | apply IsS61.drew | apply IsS61.set_0 | apply IsS61.set_1 | refine IsS61.far ?_ NB567_561.out _ | refine IsS61.far ?_ NB567_590.out _) | exact HI567.out)); (case side2 => repeat (first | (with_reducible first | exact HB.out | apply below_alloc | apply pw_below_drewN | apply below_drew1 | refine below_set ?_ (IsS61.ge HI567.out) | refine below_set ?_ GE561.out | refine below_set ?_ GE590.out) | exact HB.out)); (case side3 => exact Kd.R_tight rfl HO_568000.out); rintro e w110 ⟨v633, rfl, ho0, hi, hb, hkp⟩; refine ⟨_, rfl, ?_⟩; have n0_ := Aside0.mk (Kd.R_mono (ok' := fun k_ => some k_ ≠ (v617 : Value).ownBlock ∧ some k_ ≠ (v633 : Value).ownBlock) (Kd.R_keptB ((IsS61.apart HI567.out HO_9.out (by decide))) hkp (fun k_ hk_ hs_ => Or.elim hs_ (fun hs_ => (hk_.1.2) hs_) (fun e_ => (hk_.2) e_))) (fun k_ hk_ => ⟨hk_.1.1.1, fun e_ => Or.elim (ho0.1 k_ e_.symm) (fun hs_ => hk_.2.1 (.inl hs_)) (fun hn_ => Nat.not_le.2 hk_.2.2 hn_)⟩)); have n1_ := Aside0.mk (Kd.R_mono (ok' := fun k_ => some k_ ≠ (v598 : Value).ownBlock ∧ some k_ ≠ (v633 : Value).ownBlock) (Kd.R_keptB ((IsS61.apart HI567.out HO_14.out (by decide))) hkp (fun k_ hk_ hs_ => Or.elim hs_ (fun hs_ => (hk_.1.2) hs_) (fun e_ => (hk_.2) e_))) (fun k_ hk_ => ⟨hk_.1.1.1, fun e_ => Or.elim (ho0.1 k_ e_.symm) (fun hs_ => hk_.2.1 (.inl hs_)) (fun hn_ => Nat.not_le.2 hk_.2.2 hn_)⟩)); have n2_ := Aside0.mk (bkept BK561 (by (with_reducible repeat (first | refine blk_drewN ?_ _ | refine blk_drew ?_ | refine blk_alloc ?_ _)); exact BK561.out) hkp (fun hs_ => Or.elim hs_ (fun hs_ => (fun e_ => (Kd.R_ne HO_568000.out BK561.out (by decide)) e_) hs_) (fun e_ => NB561_567.out e_))); have n3_ := Aside0.mk (bkept BK590 (by (with_reducible repeat (first | refine blk_drewN ?_ _ | refine blk_drew ?_ | refine blk_alloc ?_ _)); exact BK590.out) hkp (fun hs_ => Or.elim hs_ (fun hs_ => (fun e_ => (Kd.R_ne HO_568000.out BK590.out (by decide)) e_) hs_) (fun e_ => NB590_567.out e_))); have n4_ := Aside0.mk (hi); have n5_ := Aside0.mk (Kd.R_mono (ok' := fun k_ => some k_ ≠ (v598 : Value).ownBlock ∧ some k_ ≠ (v617 : Value).ownBlock) ho0 (fun k_ hk_ => ⟨Or.elim hk_ (fun hs_ => fun e_ => ((((IsS61.apart HI567.out HO_9.out (by decide))).1 k_ e_.symm).1.2) hs_) (fun hn_ => (Kd.fresh' (Kd.R_lt (by (with_reducible repeat (first | apply Kd.R_alloc | apply Kd.R_drewN | apply Kd.R_drew)); exact HO_9.out)) k_ hn_)), Or.elim hk_ (fun hs_ => fun e_ => ((((IsS61.apart HI567.out HO_14.out (by decide))).1 k_ e_.symm).1.2) hs_) (fun hn_ => (Kd.fresh' (Kd.R_lt (by (with_reducible repeat (first | apply Kd.R_alloc | apply Kd.R_drewN | apply Kd.R_drew)); exact HO_14.out)) k_ hn_))⟩)); have n6_ := Aside0.mk (hb); clear HO_9; clear HO_14; clear BK561; clear BK590; clear HI567; clear HB; clear HO_568000; have HO_9 := n0_; have HO_14 := n1_; have BK561 := n2_; have BK590 := n3_; have HI567 := n4_; have HO634 := n5_; have HB := n6_; clear n0_ n1_ n2_ n3_ n4_ n5_ n6_; (try clear hb); (try clear hkp); (try clear ho0)) | ((with_reducible refine gate_callee (f := 8) rfl ?_); refine goesL_ (some 184) rfl rfl Try.func8 (by kernel_rfl) rfl #[.int .i64 t631] rfl (by (try simp only [List.map_toArray, List.map_cons, List.map_nil]); first | done | rfl | (simp only [List.length_drop, List.length_take]; rfl)) ?_; (with_reducible refine (gangwaylaw9_num.calls t631 t636 _ A99.out).mono ?_); rintro e w' ⟨rfl, ⟨nd, rfl⟩⟩; refine ⟨_, rfl, ?_⟩; have hcz111_0 : w110.cell? ⟨gb590, 0, none⟩ = some (.int .i64 ((rd_T48 l0_3 x5_1).f0)) := (bc BK590 0); have hcz111_1 : w110.cell? ⟨gb590, 1, none⟩ = some (.int .i64 ((rd_T48 l0_3 x5_1).f1)) := (bc BK590 1); have hcz111_2 : w110.cell? ⟨gb590, 2, none⟩ = some (.int .i64 ((rd_T48 l0_3 x5_1).f2)) := (bc BK590 2); have hcz111_3 : w110.cell? ⟨gb590, 3, none⟩ = some (.int .i64 ((rd_T48 l0_3 x5_1).f3)) := (bc BK590 3); have hcz111_4 : w110.cell? ⟨gb590, 4, none⟩ = some (.int .u64 ((rd_T48 l0_3 x5_1).f4)) := (bc BK590 4); have hcz111_5 : w110.cell? ⟨gb590, 5, none⟩ = some (.slice A589_5 ((rd_T48 l0_3 x5_1).f5).length c589_5) := (bc BK590 5); have hfz111_0 := blk_frozen BK590.out 0; have hfz111_1 := blk_frozen BK590.out 1; have hfz111_2 := blk_frozen BK590.out 2; have hfz111_3 := blk_frozen BK590.out 3; have hfz111_4 := blk_frozen BK590.out 4; have hfz111_5 := blk_frozen BK590.out 5) | (go_at_call 12; (with_reducible refine (mem_Memory_Store.calls g567 (fun k_ => some k_ = (v633 : Value).ownBlock) v633 t632 t635 4294967295 4294967295 (rd y591 t594) ((rd_T48 l0_3 x5_1).f4) t637 t638 t641 w _ ?side1 ?side2 ?side3 A101.out).mono ?_); (case side1 => repeat (first | (with_reducible first | exact HI567.out | apply IsS61.alloc | apply IsS61.drewN | apply IsS61.drew | apply IsS61.set_0 | apply IsS61.set_1 | refine IsS61.far ?_ NB567_561.out _ | refine IsS61.far ?_ NB567_590.out _) | exact HI567.out)); (case side2 => repeat (first | (with_reducible first | exact HB.out | apply below_alloc | apply pw_below_drewN | apply below_drew1 | refine below_set ?_ (IsS61.ge HI567.out) | refine below_set ?_ GE561.out | refine below_set ?_ GE590.out) | exact HB.out)); (case side3 => exact Kd.R_tight rfl HO634.out); rintro e w112 ⟨v639, rfl, ho0, hi, hb, hkp⟩; have n0_ := Aside0.mk (Kd.R_mono (ok' := fun k_ => some k_ ≠ (v617 : Value).ownBlock ∧ some k_ ≠ (v639 : Value).ownBlock) (Kd.R_keptB ((IsS61.apart HI567.out HO_9.out (by decide))) hkp (fun k_ hk_ hs_ => Or.elim hs_ (fun hs_ => (hk_.1.2) hs_) (fun e_ => (hk_.2) e_))) (fun k_ hk_ => ⟨hk_.1.1.1, fun e_ => Or.elim (ho0.1 k_ e_.symm) (fun hs_ => hk_.2.1 (.inl hs_)) (fun hn_ => Nat.not_le.2 hk_.2.2 hn_)⟩)); have n1_ := Aside0.mk (Kd.R_mono (ok' := fun k_ => some k_ ≠ (v598 : Value).ownBlock ∧ some k_ ≠ (v639 : Value).ownBlock) (Kd.R_keptB ((IsS61.apart HI567.out HO_14.out (by decide))) hkp (fun k_ hk_ hs_ => Or.elim hs_ (fun hs_ => (hk_.1.2) hs_) (fun e_ => (hk_.2) e_))) (fun k_ hk_ => ⟨hk_.1.1.1, fun e_ => Or.elim (ho0.1 k_ e_.symm) (fun hs_ => hk_.2.1 (.inl hs_)) (fun hn_ => Nat.not_le.2 hk_.2.2 hn_)⟩)); have n2_ := Aside0.mk (bkept BK561 (by (with_reducible repeat (first | refine blk_drewN ?_ _ | refine blk_drew ?_ | refine blk_alloc ?_ _)); exact BK561.out) hkp (fun hs_ => Or.elim hs_ (fun hs_ => (fun e_ => (Kd.R_ne HO634.out BK561.out (by decide)) e_) hs_) (fun e_ => NB561_567.out e_))); have n3_ := Aside0.mk (bkept BK590 (by (with_reducible repeat (first | refine blk_drewN ?_ _ | refine blk_drew ?_ | refine blk_alloc ?_ _)); exact BK590.out) hkp (fun hs_ => Or.elim hs_ (fun hs_ => (fun e_ => (Kd.R_ne HO634.out BK590.out (by decide)) e_) hs_) (fun e_ => NB590_567.out e_))); have n4_ := Aside0.mk (hi); have n5_ := Aside0.mk (Kd.R_mono (ok' := fun k_ => some k_ ≠ (v598 : Value).ownBlock ∧ some k_ ≠ (v617 : Value).ownBlock) ho0 (fun k_ hk_ => ⟨Or.elim hk_ (fun hs_ => fun e_ => ((((IsS61.apart HI567.out HO_9.out (by decide))).1 k_ e_.symm).1.2) hs_) (fun hn_ => (Kd.fresh' (Kd.R_lt (by (with_reducible repeat (first | apply Kd.R_alloc | apply Kd.R_drewN | apply Kd.R_drew)); exact HO_9.out)) k_ hn_)), Or.elim hk_ (fun hs_ => fun e_ => ((((IsS61.apart HI567.out HO_14.out (by decide))).1 k_ e_.symm).1.2) hs_) (fun hn_ => (Kd.fresh' (Kd.R_lt (by (with_reducible repeat (first | apply Kd.R_alloc | apply Kd.R_drewN | apply Kd.R_drew)); exact HO_14.out)) k_ hn_))⟩)); have n6_ := Aside0.mk (hb); clear HO_9; clear HO_14; clear BK561; clear BK590; clear HI567; clear HB; clear HO634; have HO_9 := n0_; have HO_14 := n1_; have BK561 := n2_; have BK590 := n3_; have HI567 := n4_; have HO640 := n5_; have HB := n6_; clear n0_ n1_ n2_ n3_ n4_ n5_ n6_; (try clear hb); (try clear hkp); (try clear ho0)) | (go_at_call 8; (with_reducible refine (gangwaylaw9_num.calls t637 t642 _ A102.out).mono ?_); rintro e w' ⟨rfl, ⟨nd, rfl⟩⟩) | ((with_reducible refine gate_dst (N := 197) rfl ?_); (try (refine gate_guard (by rfl) ?_; dsimp only)); refine Kd.R_lit (Kd.int .u8) _ 5 ?hg (N := 197) ?hd (xs := ([1, 2] : List Int)) (inner := [.int .u8 1, .int .u8 2]) (ok := fun _ => True) (okp := fun _ => True) ?hr ?hp (fun _ hk => hk) trivial (Below.refl _ _) (Nat.le_refl _) (by simp) ?_; (case hd => rfl); (case hg => rfl); (case hr => first | (go_simp; done) | (go_simp; rfl)); (case hp => exact (Reps.one (show Kd.M (Kd.int .u8) _ _ _ 1 [.int .u8 1] from rfl) (Reps.one (show Kd.M (Kd.int .u8) _ _ _ 2 [.int .u8 2] from rfl) (Reps.none _ _)))); intro v644 w113 ho114 hb hg_ hnew_; clear hg_ hnew_; (first | rw [← Ny643.out] at ho114 | (simp only [Int.reduceToNat] at ho114; rw [← Ny643.out] at ho114)); have n0_ := Aside0.mk (Kd.R_elder' (by (with_reducible repeat (first | apply Kd.R_alloc | apply Kd.R_drewN | apply Kd.R_drew)); exact HO_9.out) (Kd.R_base ho114) hb); have n1_ := Aside0.mk (Kd.R_elder' (by (with_reducible repeat (first | apply Kd.R_alloc | apply Kd.R_drewN | apply Kd.R_drew)); exact HO_14.out) (Kd.R_base ho114) hb); have n2_ := Aside0.mk (Kd.R_elder' (by (with_reducible repeat (first | apply Kd.R_alloc | apply Kd.R_drewN | apply Kd.R_drew)); exact HO640.out) (Kd.R_base ho114) hb); have n3_ := Aside0.mk (Kd.R_lower (Kd.R_new' (Kd.R_new' (Kd.R_new' ho114 (Kd.R_lt (by (with_reducible repeat (first | apply Kd.R_alloc | apply Kd.R_drewN | apply Kd.R_drew)); exact HO_9.out))) (Kd.R_lt (by (with_reducible repeat (first | apply Kd.R_alloc | apply Kd.R_drewN | apply Kd.R_drew)); exact HO_14.out))) (Kd.R_lt (by (with_reducible repeat (first | apply Kd.R_alloc | apply Kd.R_drewN | apply Kd.R_drew)); exact HO640.out))) (below_size (by repeat (first | (with_reducible first | exact HB.out | apply below_alloc | apply pw_below_drewN | apply below_drew1 | refine below_set ?_ (IsS61.ge HI567.out) | refine below_set ?_ GE561.out | refine below_set ?_ GE590.out) | exact HB.out)))); have n4_ := Aside0.mk (bbelow BK561 (by (with_reducible repeat (first | refine blk_drewN ?_ _ | refine blk_drew ?_ | refine blk_alloc ?_ _)); exact BK561.out) hb); have n5_ := Aside0.mk (bbelow BK590 (by (with_reducible repeat (first | refine blk_drewN ?_ _ | refine blk_drew ?_ | refine blk_alloc ?_ _)); exact BK590.out) hb); have n6_ := Aside0.mk (IsS61.below (by repeat (first | (with_reducible first | exact HI567.out | apply IsS61.alloc | apply IsS61.drewN | apply IsS61.drew | apply IsS61.set_0 | apply IsS61.set_1 | refine IsS61.far ?_ NB567_561.out _ | refine IsS61.far ?_ NB567_590.out _) | exact HI567.out)) hb); have n7_ := Aside0.mk (below_step (by repeat (first | (with_reducible first | exact HB.out | apply below_alloc | apply pw_below_drewN | apply below_drew1 | refine below_set ?_ (IsS61.ge HI567.out) | refine below_set ?_ GE561.out | refine below_set ?_ GE590.out) | exact HB.out)) hb); clear HO_9; clear HO_14; clear HO640; clear BK561; clear BK590; clear HI567; clear HB; have HO_9 := n0_; have HO_14 := n1_; have HO640 := n2_; have HO645 := n3_; have BK561 := n4_; have BK590 := n5_; have HI567 := n6_; have HB := n7_; clear n0_ n1_ n2_ n3_ n4_ n5_ n6_ n7_; clear hb ho114; obtain ⟨Ao115, co115, eo115⟩ := Kd.R_slice HO645.out; subst eo115) | (go_at_call 15; (with_reducible refine (mem_Memory_Write.calls g567 (fun k_ => some k_ = (v639 : Value).ownBlock) v639 t638 t641 65535 _ _ y643 t646 t647 t650 w _ ?side1 ?side2 ?side3 ?side4 ?side5 A104.out).mono ?_); (case side1 => repeat (first | (with_reducible first | exact HI567.out | apply IsS61.alloc | apply IsS61.drewN | apply IsS61.drew | apply IsS61.set_0 | apply IsS61.set_1 | refine IsS61.far ?_ NB567_561.out _ | refine IsS61.far ?_ NB567_590.out _) | exact HI567.out)); (case side2 => repeat (first | (with_reducible first | exact HB.out | apply below_alloc | apply pw_below_drewN | apply below_drew1 | refine below_set ?_ (IsS61.ge HI567.out) | refine below_set ?_ GE561.out | refine below_set ?_ GE590.out) | exact HB.out)); (case side3 => exact Kd.R_tight rfl HO640.out); (case side4 => exact Kd.C_kept_own ((IsS61.apart HI567.out HO645.out (by decide))) (fun k_ hk_ hs_ => Or.elim hs_ (fun hs_ => (hk_.1.2) hs_) (fun e_ => (hk_.2) e_))); (case side5 => exact (Kd.R_reads' HO645.out).2.1); rintro e w116 ⟨v648, rfl, ho0, hi, hb, hkp⟩; have n0_ := Aside0.mk (Kd.R_mono (ok' := fun k_ => some k_ ≠ (v617 : Value).ownBlock ∧ some k_ ≠ (.slice Ao115 y643.length co115 : Value).ownBlock ∧ some k_ ≠ (v648 : Value).ownBlock) (Kd.R_keptB ((IsS61.apart HI567.out HO_9.out (by decide))) hkp (fun k_ hk_ hs_ => Or.elim hs_ (fun hs_ => (hk_.1.1.2) hs_) (fun e_ => (hk_.2) e_))) (fun k_ hk_ => ⟨hk_.1.1.1.1, hk_.1.1.2, fun e_ => Or.elim (ho0.1 k_ e_.symm) (fun hs_ => hk_.2.1 (.inl hs_)) (fun hn_ => Nat.not_le.2 hk_.2.2 hn_)⟩)); have n1_ := Aside0.mk (Kd.R_mono (ok' := fun k_ => some k_ ≠ (v598 : Value).ownBlock ∧ some k_ ≠ (.slice Ao115 y643.length co115 : Value).ownBlock ∧ some k_ ≠ (v648 : Value).ownBlock) (Kd.R_keptB ((IsS61.apart HI567.out HO_14.out (by decide))) hkp (fun k_ hk_ hs_ => Or.elim hs_ (fun hs_ => (hk_.1.1.2) hs_) (fun e_ => (hk_.2) e_))) (fun k_ hk_ => ⟨hk_.1.1.1.1, hk_.1.1.2, fun e_ => Or.elim (ho0.1 k_ e_.symm) (fun hs_ => hk_.2.1 (.inl hs_)) (fun hn_ => Nat.not_le.2 hk_.2.2 hn_)⟩)); have n2_ := Aside0.mk (bkept BK561 (by (with_reducible repeat (first | refine blk_drewN ?_ _ | refine blk_drew ?_ | refine blk_alloc ?_ _)); exact BK561.out) hkp (fun hs_ => Or.elim hs_ (fun hs_ => (fun e_ => (Kd.R_ne HO640.out BK561.out (by decide)) e_) hs_) (fun e_ => NB561_567.out e_))); have n3_ := Aside0.mk (bkept BK590 (by (with_reducible repeat (first | refine blk_drewN ?_ _ | refine blk_drew ?_ | refine blk_alloc ?_ _)); exact BK590.out) hkp (fun hs_ => Or.elim hs_ (fun hs_ => (fun e_ => (Kd.R_ne HO640.out BK590.out (by decide)) e_) hs_) (fun e_ => NB590_567.out e_))); have n4_ := Aside0.mk (hi); have n5_ := Aside0.mk (Kd.R_mono (ok' := fun k_ => some k_ ≠ (v598 : Value).ownBlock ∧ some k_ ≠ (v617 : Value).ownBlock ∧ some k_ ≠ (v648 : Value).ownBlock) (Kd.R_keptB ((IsS61.apart HI567.out HO645.out (by decide))) hkp (fun k_ hk_ hs_ => Or.elim hs_ (fun hs_ => (hk_.1.2) hs_) (fun e_ => (hk_.2) e_))) (fun k_ hk_ => ⟨hk_.1.1.1.1.2, hk_.1.1.1.2, fun e_ => Or.elim (ho0.1 k_ e_.symm) (fun hs_ => hk_.2.1 (.inl hs_)) (fun hn_ => Nat.not_le.2 hk_.2.2 hn_)⟩)); have n6_ := Aside0.mk (Kd.R_mono (ok' := fun k_ => some k_ ≠ (v598 : Value).ownBlock ∧ some k_ ≠ (v617 : Value).ownBlock ∧ some k_ ≠ (.slice Ao115 y643.length co115 : Value).ownBlock) ho0 (fun k_ hk_ => ⟨Or.elim hk_ (fun hs_ => fun e_ => ((((IsS61.apart HI567.out HO_9.out (by decide))).1 k_ e_.symm).1.1.2) hs_) (fun hn_ => (Kd.fresh' (Kd.R_lt (by (with_reducible repeat (first | apply Kd.R_alloc | apply Kd.R_drewN | apply Kd.R_drew)); exact HO_9.out)) k_ hn_)), Or.elim hk_ (fun hs_ => fun e_ => ((((IsS61.apart HI567.out HO_14.out (by decide))).1 k_ e_.symm).1.1.2) hs_) (fun hn_ => (Kd.fresh' (Kd.R_lt (by (with_reducible repeat (first | apply Kd.R_alloc | apply Kd.R_drewN | apply Kd.R_drew)); exact HO_14.out)) k_ hn_)), Or.elim hk_ (fun hs_ => fun e_ => ((((IsS61.apart HI567.out HO645.out (by decide))).1 k_ e_.symm).1.2) hs_) (fun hn_ => (Kd.fresh' (Kd.R_lt (by (with_reducible repeat (first | apply Kd.R_alloc | apply Kd.R_drewN | apply Kd.R_drew)); exact HO645.out)) k_ hn_))⟩)); have n7_ := Aside0.mk (hb); clear HO_9; clear HO_14; clear BK561; clear BK590; clear HI567; clear HO645; clear HB; clear HO640; have HO_9 := n0_; have HO_14 := n1_; have BK561 := n2_; have BK590 := n3_; have HI567 := n4_; have HO645 := n5_; have HO649 := n6_; have HB := n7_; clear n0_ n1_ n2_ n3_ n4_ n5_ n6_ n7_; (try clear hb); (try clear hkp); (try clear ho0)) | (go_at_call 8; (with_reducible refine (gangwaylaw9_num.calls t646 t651 _ A105.out).mono ?_); rintro e w' ⟨rfl, ⟨nd, rfl⟩⟩))
                       go_roundg k4
                       case measure => have := HK1.out; have := HJ13.out; have := HJ30.out; have := HK4.out; omega
                       case rel => exact ⟨(wrap64 (x5_1 + 1)), (t647), (t650), (v648), (by first | rfl | (simp; done) | (simp [*]; done)), H', ⟨by have := HK1.out; have := HJ13.out; have := HJ30.out; have := HK4.out; omega⟩, ⟨by (with_reducible repeat (first | apply Kd.R_alloc | apply Kd.R_drewN | apply Kd.R_drew)); exact Kd.R_mono HO649.out (fun _ hk => trivial)⟩, ⟨by (with_reducible repeat (first | refine blk_drewN ?_ _ | refine blk_drew ?_ | refine blk_alloc ?_ _)); exact BK561.out⟩, ⟨by repeat (first | (with_reducible first | exact HI567.out | apply IsS61.alloc | apply IsS61.drewN | apply IsS61.drew | apply IsS61.set_0 | apply IsS61.set_1 | refine IsS61.far ?_ NB567_561.out _ | refine IsS61.far ?_ NB567_590.out _) | exact HI567.out)⟩, ⟨by repeat (first | (with_reducible first | exact HB.out | apply below_alloc | apply pw_below_drewN | apply below_drew1 | refine below_set ?_ (IsS61.ge HI567.out) | refine below_set ?_ GE561.out | refine below_set ?_ GE590.out) | exact HB.out)⟩⟩
                      ·rw [if_neg c106] at H
                       exact absurd H (by simp)
                     ·rw [if_neg c103] at H
                      exact absurd H (by simp)
                    ·rw [if_neg c100] at H
                     exact absurd H (by simp)
             ·rw [if_neg c25] at H
              exact absurd H (by simp)
            ·rw [if_neg c24] at H
             exact absurd H (by simp)
           ·rw [if_neg c22] at H
            exact absurd H (by simp)
          ·rw [if_neg c21] at H
           exact absurd H (by simp)
         ·replace c20 := Bool.eq_false_iff.mpr c20
          subst c20
          have H1 : ((mem_Memory_Load.f kj13 x568000_1 x568001_1 65535 0 1).bind fun bt580 => ((gangwaylaw9_num.f bt580.2.1).bind fun t586 => (if t586 = 0 then (if bt580.1 = 0 then ((gangwaylaw9_wakes.f kj13).bind fun t587 => (some t587)) else (if (l0_3.length : Int) > 0 then ((gangwaylaw9_wakes.f kj13).bind fun t588 => (some t588)) else (none))) else (none)))) = some r := by rw [if_neg (show ¬ (false = true) by decide)] at H; exact H
          clear H
          have H := H1
          clear H1
          replace H := Option.bind_eq_some_iff.mp H
          obtain ⟨⟨t580, t581, t582, t585⟩, A1170, H⟩ := H
          replace H : ((gangwaylaw9_num.f t581).bind fun t586 => (if t586 = 0 then (if t580 = 0 then ((gangwaylaw9_wakes.f kj13).bind fun t587 => (some t587)) else (if (l0_3.length : Int) > 0 then ((gangwaylaw9_wakes.f kj13).bind fun t588 => (some t588)) else (none))) else (none))) = some r := H
          have A117 := Aside0.mk A1170
          clear A1170
          replace H := Option.bind_eq_some_iff.mp H
          obtain ⟨t586, A1180, H⟩ := H
          replace H : (if t586 = 0 then (if t580 = 0 then ((gangwaylaw9_wakes.f kj13).bind fun t587 => (some t587)) else (if (l0_3.length : Int) > 0 then ((gangwaylaw9_wakes.f kj13).bind fun t588 => (some t588)) else (none))) else (none)) = some r := H
          have A118 := Aside0.mk A1180
          clear A1180
          by_cases c119 : t586 = 0
          ·rw [if_pos c119] at H
           have c119b0 : (t586 == 0) = true := beq_iff_eq.mpr c119
           have c119b1 : (t586 != 0) = false := bne_eq_false_iff_eq.mpr c119
           clear c119
           by_cases c120 : t580 = 0
           ·rw [if_pos c120] at H
            have c120b0 : (t580 == 0) = true := beq_iff_eq.mpr c120
            have c120b1 : (t580 != 0) = false := bne_eq_false_iff_eq.mpr c120
            clear c120
            replace H := Option.bind_eq_some_iff.mp H
            obtain ⟨t587, A1210, H⟩ := H
            replace H : (some t587) = some r := H
            have A121 := Aside0.mk A1210
            clear A1210
            obtain rfl := Option.some.inj H
            go_wp2_with (first | ((with_reducible refine gate_callee (f := 11) rfl ?_); refine goesL_ (some 204) rfl rfl Try.func11 (by kernel_rfl) rfl #[.pointer (some ⟨g567, 0, none⟩), .int .i64 65535, .int .i64 0, .int .i64 1] rfl (by (try simp only [List.map_toArray, List.map_cons, List.map_nil]); first | done | rfl | (simp only [List.length_drop, List.length_take]; rfl)) ?_; (with_reducible refine (mem_Memory_Load.calls kj13 g567 (fun k_ => some k_ = (u568000 : Value).ownBlock) u568000 x568000_1 x568001_1 65535 0 1 t580 t581 t582 t585 w _ ?side1 ?side2 ?side3 A117.out).mono ?_); (case side1 => repeat (first | (with_reducible first | exact HI567.out | apply IsS61.alloc | apply IsS61.drewN | apply IsS61.drew | apply IsS61.set_0 | apply IsS61.set_1 | refine IsS61.far ?_ NB567_561.out _) | exact HI567.out)); (case side2 => repeat (first | (with_reducible first | exact HB.out | apply below_alloc | apply pw_below_drewN | apply below_drew1 | refine below_set ?_ (IsS61.ge HI567.out) | refine below_set ?_ GE561.out) | exact HB.out)); (case side3 => exact Kd.R_tight rfl HO_568000.out); rintro e w122 ⟨v583, rfl, ho0, hi, hb, hkp⟩; refine ⟨_, rfl, ?_⟩; have n0_ := Aside0.mk (bkept BK561 (by (with_reducible repeat (first | refine blk_drewN ?_ _ | refine blk_drew ?_ | refine blk_alloc ?_ _)); exact BK561.out) hkp (fun hs_ => Or.elim hs_ (fun hs_ => (fun e_ => (Kd.R_ne HO_568000.out BK561.out (by decide)) e_) hs_) (fun e_ => NB561_567.out e_))); have n1_ := Aside0.mk (hi); have n2_ := Aside0.mk (Kd.R_mono (ok' := fun k_ => True) ho0 (fun k_ hk_ => trivial)); have n3_ := Aside0.mk (hb); clear BK561; clear HI567; clear HB; clear HO_568000; have BK561 := n0_; have HI567 := n1_; have HO584 := n2_; have HB := n3_; clear n0_ n1_ n2_ n3_; (try clear hb); (try clear hkp); (try clear ho0)) | ((with_reducible refine gate_callee (f := 8) rfl ?_); refine goesL_ (some 208) rfl rfl Try.func8 (by kernel_rfl) rfl #[.int .i64 t581] rfl (by (try simp only [List.map_toArray, List.map_cons, List.map_nil]); first | done | rfl | (simp only [List.length_drop, List.length_take]; rfl)) ?_; (with_reducible refine (gangwaylaw9_num.calls t581 t586 _ A118.out).mono ?_); rintro e w' ⟨rfl, ⟨nd, rfl⟩⟩; refine ⟨_, rfl, ?_⟩) | (go_at_call 13; (with_reducible refine (gangwaylaw9_wakes.calls kj13  t587 _ A121.out).mono ?_); rintro e w123 ⟨rfl, hb⟩; have n0_ := Aside0.mk (Kd.R_below (by (with_reducible repeat (first | apply Kd.R_alloc | apply Kd.R_drewN | apply Kd.R_drew)); exact HO584.out) hb); have n1_ := Aside0.mk (bbelow BK561 (by (with_reducible repeat (first | refine blk_drewN ?_ _ | refine blk_drew ?_ | refine blk_alloc ?_ _)); exact BK561.out) hb); have n2_ := Aside0.mk (IsS61.below (by repeat (first | (with_reducible first | exact HI567.out | apply IsS61.alloc | apply IsS61.drewN | apply IsS61.drew | apply IsS61.set_0 | apply IsS61.set_1 | refine IsS61.far ?_ NB567_561.out _) | exact HI567.out)) hb); have n3_ := Aside0.mk (below_step (by repeat (first | (with_reducible first | exact HB.out | apply below_alloc | apply pw_below_drewN | apply below_drew1 | refine below_set ?_ (IsS61.ge HI567.out) | refine below_set ?_ GE561.out) | exact HB.out)) hb); clear HO584; clear BK561; clear HI567; clear HB; have HO584 := n0_; have BK561 := n1_; have HI567 := n2_; have HB := n3_; clear n0_ n1_ n2_ n3_; (try clear hb); (try clear hb2); (try clear hk); (try clear hi)))
            go_ret
            exact ⟨by first | rfl | (simp [errW_none, errW_some] <;> rfl) | (simp [*, errW_none, errW_some] <;> rfl), by repeat (first | (with_reducible first | exact HB.out | apply below_alloc | apply pw_below_drewN | apply below_drew1 | refine below_set ?_ (IsS61.ge HI567.out) | refine below_set ?_ GE561.out) | exact HB.out)⟩
           ·rw [if_neg c120] at H
            have c120b0 : (t580 == 0) = false := beq_eq_false_iff_ne.mpr c120
            have c120b1 : (t580 != 0) = true := bne_iff_ne.mpr c120
            by_cases c124 : (l0_3.length : Int) > 0
            ·rw [if_pos c124] at H
             have c124b0 : decide (0 < (l0_3.length : Int)) = true := decide_eq_true c124
             have c124b1 : decide (0 < l0_3.length) = true := decide_eq_true (by omega)
             clear c124
             replace H := Option.bind_eq_some_iff.mp H
             obtain ⟨t588, A1250, H⟩ := H
             replace H : (some t588) = some r := H
             have A125 := Aside0.mk A1250
             clear A1250
             obtain rfl := Option.some.inj H
             go_wp2_with (first | ((with_reducible refine gate_callee (f := 11) rfl ?_); refine goesL_ (some 204) rfl rfl Try.func11 (by kernel_rfl) rfl #[.pointer (some ⟨g567, 0, none⟩), .int .i64 65535, .int .i64 0, .int .i64 1] rfl (by (try simp only [List.map_toArray, List.map_cons, List.map_nil]); first | done | rfl | (simp only [List.length_drop, List.length_take]; rfl)) ?_; (with_reducible refine (mem_Memory_Load.calls kj13 g567 (fun k_ => some k_ = (u568000 : Value).ownBlock) u568000 x568000_1 x568001_1 65535 0 1 t580 t581 t582 t585 w _ ?side1 ?side2 ?side3 A117.out).mono ?_); (case side1 => repeat (first | (with_reducible first | exact HI567.out | apply IsS61.alloc | apply IsS61.drewN | apply IsS61.drew | apply IsS61.set_0 | apply IsS61.set_1 | refine IsS61.far ?_ NB567_561.out _) | exact HI567.out)); (case side2 => repeat (first | (with_reducible first | exact HB.out | apply below_alloc | apply pw_below_drewN | apply below_drew1 | refine below_set ?_ (IsS61.ge HI567.out) | refine below_set ?_ GE561.out) | exact HB.out)); (case side3 => exact Kd.R_tight rfl HO_568000.out); rintro e w126 ⟨v583, rfl, ho0, hi, hb, hkp⟩; refine ⟨_, rfl, ?_⟩; have n0_ := Aside0.mk (bkept BK561 (by (with_reducible repeat (first | refine blk_drewN ?_ _ | refine blk_drew ?_ | refine blk_alloc ?_ _)); exact BK561.out) hkp (fun hs_ => Or.elim hs_ (fun hs_ => (fun e_ => (Kd.R_ne HO_568000.out BK561.out (by decide)) e_) hs_) (fun e_ => NB561_567.out e_))); have n1_ := Aside0.mk (hi); have n2_ := Aside0.mk (Kd.R_mono (ok' := fun k_ => True) ho0 (fun k_ hk_ => trivial)); have n3_ := Aside0.mk (hb); clear BK561; clear HI567; clear HB; clear HO_568000; have BK561 := n0_; have HI567 := n1_; have HO584 := n2_; have HB := n3_; clear n0_ n1_ n2_ n3_; (try clear hb); (try clear hkp); (try clear ho0)) | ((with_reducible refine gate_callee (f := 8) rfl ?_); refine goesL_ (some 208) rfl rfl Try.func8 (by kernel_rfl) rfl #[.int .i64 t581] rfl (by (try simp only [List.map_toArray, List.map_cons, List.map_nil]); first | done | rfl | (simp only [List.length_drop, List.length_take]; rfl)) ?_; (with_reducible refine (gangwaylaw9_num.calls t581 t586 _ A118.out).mono ?_); rintro e w' ⟨rfl, ⟨nd, rfl⟩⟩; refine ⟨_, rfl, ?_⟩; have hnb127 := NB561_567.out; have hnc127 := NB567_561.out; have hcz128_0 : w126.cell? ⟨gb561, 0, none⟩ = some (.int .i64 a0_0) := (bc BK561 0); have hcz128_1 : w126.cell? ⟨gb561, 1, none⟩ = some (.int .i64 a0_1) := (bc BK561 1); have hcz128_2 : w126.cell? ⟨gb561, 2, none⟩ = some (.int .i64 a0_2) := (bc BK561 2); have hcz128_3 : w126.cell? ⟨gb561, 3, none⟩ = some (.slice A0_3 l0_3.length c0_3) := (bc BK561 3); have hfz128_0 := blk_frozen BK561.out 0; have hfz128_1 := blk_frozen BK561.out 1; have hfz128_2 := blk_frozen BK561.out 2; have hfz128_3 := blk_frozen BK561.out 3) | (go_at_call 13; (with_reducible refine (gangwaylaw9_wakes.calls kj13  t588 _ A125.out).mono ?_); rintro e w129 ⟨rfl, hb⟩; have n0_ := Aside0.mk (Kd.R_below (by (with_reducible repeat (first | apply Kd.R_alloc | apply Kd.R_drewN | apply Kd.R_drew)); exact HO584.out) hb); have n1_ := Aside0.mk (bbelow BK561 (by (with_reducible repeat (first | refine blk_drewN ?_ _ | refine blk_drew ?_ | refine blk_alloc ?_ _)); exact BK561.out) hb); have n2_ := Aside0.mk (IsS61.below (by repeat (first | (with_reducible first | exact HI567.out | apply IsS61.alloc | apply IsS61.drewN | apply IsS61.drew | apply IsS61.set_0 | apply IsS61.set_1 | refine IsS61.far ?_ NB567_561.out _) | exact HI567.out)) hb); have n3_ := Aside0.mk (below_step (by repeat (first | (with_reducible first | exact HB.out | apply below_alloc | apply pw_below_drewN | apply below_drew1 | refine below_set ?_ (IsS61.ge HI567.out) | refine below_set ?_ GE561.out) | exact HB.out)) hb); clear HO584; clear BK561; clear HI567; clear HB; have HO584 := n0_; have BK561 := n1_; have HI567 := n2_; have HB := n3_; clear n0_ n1_ n2_ n3_; (try clear hb); (try clear hb2); (try clear hk); (try clear hi)))
             go_ret
             exact ⟨by first | rfl | (simp [errW_none, errW_some] <;> rfl) | (simp [*, errW_none, errW_some] <;> rfl), by repeat (first | (with_reducible first | exact HB.out | apply below_alloc | apply pw_below_drewN | apply below_drew1 | refine below_set ?_ (IsS61.ge HI567.out) | refine below_set ?_ GE561.out) | exact HB.out)⟩
            ·rw [if_neg c124] at H
             exact absurd H (by simp)
          ·rw [if_neg c119] at H
           exact absurd H (by simp)
    ·rw [if_neg c9] at H
     exact absurd H (by simp)
   ·rw [if_neg c7] at H
    exact absurd H (by simp)
  ·rw [if_neg c5] at H
   exact absurd H (by simp)
 ·replace c3 := Bool.eq_false_iff.mpr c3
  subst c3
  have H1 : (none) = some r := by rw [if_neg (show ¬ (false = true) by decide)] at H; exact H
  clear H
  have H := H1
  clear H1
  exact absurd H (by simp)

/-- THE ONE PURE STATEMENT of gangwaylaw9_MemParts: yours. -/
def gangwaylaw9_MemParts.Pure : Prop := ∀ (x0 : S26), okT26 x0 → ∃ k, gangwaylaw9_MemParts.f k x0.f0.f0 x0.f0.f1 x0.f1 x0.f2 = some true
theorem gangwaylaw9_MemParts.walk (P : gangwaylaw9_MemParts.Pure) (w : World) (x0 : S26) (A0_3 : Option Addr) (c0_3 : Nat) (hr0_3 : Kd.C k48 w A0_3 x0.f2.length x0.f2) (hc0_3 : x0.f2.length ≤ c0_3) (hok0 : okT26 x0) :
  Calls Try.prog 6 #[.agg #[.int .i64 x0.f0.f0, .int .i64 x0.f0.f1, .int .i64 x0.f1, .slice A0_3 x0.f2.length c0_3]] w fun e w' => e = .returned (.bool true) ∧ Below w.heap.size w w' := by
 obtain ⟨k, h⟩ := P x0 hok0
 refine (gangwaylaw9_MemParts.calls k x0.f0.f0 x0.f0.f1 x0.f1 _ _ x0.f2 true w hr0_3 hc0_3 h).mono ?_
 rintro e w' ⟨rfl, hd⟩
 exact ⟨rfl, hd⟩

end Go.Proofs.Ytjmajhalgdeicaa.PAll
