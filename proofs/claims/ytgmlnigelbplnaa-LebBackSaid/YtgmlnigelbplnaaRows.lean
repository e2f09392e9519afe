/-
  No cell of these rows narrows 'for every input' (looked for: loops, veiled, ifaces, maps, wideKeys, modest, calm, conditions, laid).
  DERIVED. THE GIVEN ROWS OF THIS SEAT. 6 by the template 'for every input the law returns true; each argument reads behind the call as it read before'; 0 by the template 'total and deterministic' (their statements: YtgmlnigelbplnaaTotals.lean).
  GIVEN WITH THE SEED: the statements are not yours to turn. If you find one false, say at which input.
  Laid BY PROGRAM, IN A SANDBOX (cutbox-rows.mjs): the forced cells as the released guide's own fill.sh prints them over the translation e035e982b84fcb74… (all of the seat's roots in one cut). By AI agents, Wed Nov 11 2026. No macro, syntax, notation, axiom, sorry.
-/
import Derived.Test.YtgmlnigelbplnaaChecked
import GoSem.Claim
import GoSem.ClaimJoined
import GoSem.ClaimMapViews
import Derived.JoinedTies
import Derived.KernelRfl
namespace Go.Proofs.Ytgmlnigelbplnaa
/- THE CELL 'sum', in the pinned program and in every row, IS THE sha256 OF THE DUMP (.gsa) THAT YtgmlnigelbplnaaProg.lean LOADS. Nothing in Lean hashes anything: it is a label: what it is worth is what the hold of that sum in a sandbox is worth. -/
noncomputable def Try.pinned : Pinned := { name := "ytgmlnigelbplnaa", sum := "e035e982b84fcb742cae771dab04b815414b4ba1b6965e2046c5496857fca39d", checked := Try.checked }
namespace Rows
def none {H : Type} : Left H := { results := [], args := [] }

/-- 'gangwaylaw1.LebUints': WHATEVER THE INPUT: true; the input reads as it did. -/
def lebUintsSpec : ChangeSpec := { name := "lebUints", fn := fun _ => fun
  | [d] => { results := [.lit (.bool true)], args := [d] }
  | _ => none }
def lebUintsRow : OpenClaim := { program := "ytgmlnigelbplnaa", sum := "e035e982b84fcb742cae771dab04b815414b4ba1b6965e2046c5496857fca39d", func := "gangway/gangwaylaw1.LebUints", spec := "lebUints", unfollowed := true, recurses := true, apart := false }
def LebUintsSaid : Prop := lebUintsRow.holds Try.pinned (OpenSpec.ofChange lebUintsSpec)

/-- ITS FALSE NEIGHBOUR: 'it returns false'. Refute it at one input. -/
def lebUintsWrong : ChangeSpec := { name := "lebUints", fn := fun _ => fun
  | [d] => { results := [.lit (.bool false)], args := [d] }
  | _ => none }
def LebUintsWrongFalsely : Prop := lebUintsRow.holds Try.pinned (OpenSpec.ofChange lebUintsWrong)

/-- 'gangwaylaw1.LebPuts': WHATEVER THE INPUT: true; the input reads as it did. -/
def lebPutsSpec : ChangeSpec := { name := "lebPuts", fn := fun _ => fun
  | [d] => { results := [.lit (.bool true)], args := [d] }
  | _ => none }
def lebPutsRow : OpenClaim := { program := "ytgmlnigelbplnaa", sum := "e035e982b84fcb742cae771dab04b815414b4ba1b6965e2046c5496857fca39d", func := "gangway/gangwaylaw1.LebPuts", spec := "lebPuts", unfollowed := true, recurses := true, apart := false }
def LebPutsSaid : Prop := lebPutsRow.holds Try.pinned (OpenSpec.ofChange lebPutsSpec)

/-- ITS FALSE NEIGHBOUR: 'it returns false'. Refute it at one input. -/
def lebPutsWrong : ChangeSpec := { name := "lebPuts", fn := fun _ => fun
  | [d] => { results := [.lit (.bool false)], args := [d] }
  | _ => none }
def LebPutsWrongFalsely : Prop := lebPutsRow.holds Try.pinned (OpenSpec.ofChange lebPutsWrong)

/-- 'gangwaylaw1.LebSints': WHATEVER THE INPUT: true; the input reads as it did. -/
def lebSintsSpec : ChangeSpec := { name := "lebSints", fn := fun _ => fun
  | [d] => { results := [.lit (.bool true)], args := [d] }
  | _ => none }
def lebSintsRow : OpenClaim := { program := "ytgmlnigelbplnaa", sum := "e035e982b84fcb742cae771dab04b815414b4ba1b6965e2046c5496857fca39d", func := "gangway/gangwaylaw1.LebSints", spec := "lebSints", unfollowed := true, recurses := true, apart := false }
def LebSintsSaid : Prop := lebSintsRow.holds Try.pinned (OpenSpec.ofChange lebSintsSpec)

/-- ITS FALSE NEIGHBOUR: 'it returns false'. Refute it at one input. -/
def lebSintsWrong : ChangeSpec := { name := "lebSints", fn := fun _ => fun
  | [d] => { results := [.lit (.bool false)], args := [d] }
  | _ => none }
def LebSintsWrongFalsely : Prop := lebSintsRow.holds Try.pinned (OpenSpec.ofChange lebSintsWrong)

/-- 'gangwaylaw1.LebBack': WHATEVER THE INPUT: true; the input reads as it did. -/
def lebBackSpec : ChangeSpec := { name := "lebBack", fn := fun _ => fun
  | [d] => { results := [.lit (.bool true)], args := [d] }
  | _ => none }
def lebBackRow : OpenClaim := { program := "ytgmlnigelbplnaa", sum := "e035e982b84fcb742cae771dab04b815414b4ba1b6965e2046c5496857fca39d", func := "gangway/gangwaylaw1.LebBack", spec := "lebBack", unfollowed := true, recurses := true, apart := false }
def LebBackSaid : Prop := lebBackRow.holds Try.pinned (OpenSpec.ofChange lebBackSpec)

/-- ITS FALSE NEIGHBOUR: 'it returns false'. Refute it at one input. -/
def lebBackWrong : ChangeSpec := { name := "lebBack", fn := fun _ => fun
  | [d] => { results := [.lit (.bool false)], args := [d] }
  | _ => none }
def LebBackWrongFalsely : Prop := lebBackRow.holds Try.pinned (OpenSpec.ofChange lebBackWrong)

/-- 'gangwaylaw1.LebSmall': WHATEVER THE INPUT: true; the input reads as it did. -/
def lebSmallSpec : ChangeSpec := { name := "lebSmall", fn := fun _ => fun
  | [d] => { results := [.lit (.bool true)], args := [d] }
  | _ => none }
def lebSmallRow : OpenClaim := { program := "ytgmlnigelbplnaa", sum := "e035e982b84fcb742cae771dab04b815414b4ba1b6965e2046c5496857fca39d", func := "gangway/gangwaylaw1.LebSmall", spec := "lebSmall", unfollowed := true, recurses := true, apart := false }
def LebSmallSaid : Prop := lebSmallRow.holds Try.pinned (OpenSpec.ofChange lebSmallSpec)

/-- ITS FALSE NEIGHBOUR: 'it returns false'. Refute it at one input. -/
def lebSmallWrong : ChangeSpec := { name := "lebSmall", fn := fun _ => fun
  | [d] => { results := [.lit (.bool false)], args := [d] }
  | _ => none }
def LebSmallWrongFalsely : Prop := lebSmallRow.holds Try.pinned (OpenSpec.ofChange lebSmallWrong)

/-- 'gangwaylaw1.LebSizes': WHATEVER THE INPUT: true; the input reads as it did. -/
def lebSizesSpec : ChangeSpec := { name := "lebSizes", fn := fun _ => fun
  | [d] => { results := [.lit (.bool true)], args := [d] }
  | _ => none }
def lebSizesRow : OpenClaim := { program := "ytgmlnigelbplnaa", sum := "e035e982b84fcb742cae771dab04b815414b4ba1b6965e2046c5496857fca39d", func := "gangway/gangwaylaw1.LebSizes", spec := "lebSizes", unfollowed := true, recurses := true, apart := false }
def LebSizesSaid : Prop := lebSizesRow.holds Try.pinned (OpenSpec.ofChange lebSizesSpec)

/-- ITS FALSE NEIGHBOUR: 'it returns false'. Refute it at one input. -/
def lebSizesWrong : ChangeSpec := { name := "lebSizes", fn := fun _ => fun
  | [d] => { results := [.lit (.bool false)], args := [d] }
  | _ => none }
def LebSizesWrongFalsely : Prop := lebSizesRow.holds Try.pinned (OpenSpec.ofChange lebSizesWrong)

/- THE SECOND FORM. 'bulk': how many values and letters a reading holds, each counted each time it is reached (what is shared counts as often as it is met; a slice's spare places count too). A statement '..UptoSaid' is the law's where the arguments, and the package variables that the reading takes, are together of bulk at most 1048576: NARROWER than '..Said'. Prove '..Said' where nothing that the law and all that it calls make is longer than what came in: it says more and counts as full. Else prove '..UptoSaid'. A law counts once. -/
mutual
def uptoBulk {H : Type} : DataW H → Nat
  | .lit (.string bytes) => bytes.length + 1
  | .lit _ => 1
  | .nil => 1
  | .ptr d => uptoBulk d + 1
  | .slice elems spare => uptoBulkAll elems + uptoBulkAll spare + 1
  | .agg parts => uptoBulkAll parts + 1
  | .iface _ d => uptoBulk d + 1
  | .map entries => uptoBulkEntries entries + 1
  | .held _ => 1
def uptoBulkAll {H : Type} : List (DataW H) → Nat
  | [] => 0
  | d :: r => uptoBulk d + uptoBulkAll r
def uptoBulkEntries {H : Type} : List (Lit × DataW H) → Nat
  | [] => 0
  | x :: r => uptoBulkEntry x + uptoBulkEntries r
def uptoBulkEntry {H : Type} : Lit × DataW H → Nat
  | (.string bytes, d) => bytes.length + uptoBulk d + 1
  | (_, d) => uptoBulk d + 1
 end
def uptoSmall : (H : Type) → List (DataW H) → Bool := fun _ ds => decide (uptoBulkAll ds ≤ 1048576)
def OpenSpec.upto (s : _root_.Go.ChangeSpec) : _root_.Go.OpenSpec := { _root_.Go.OpenSpec.ofChange s with cond := some uptoSmall }

/-- 'gangwaylaw1.LebUints', WHERE WHAT IT READS IS OF BULK AT MOST 1048576: true; the input reads as it did. -/
def lebUintsUptoRow : OpenClaim := { program := "ytgmlnigelbplnaa", sum := "e035e982b84fcb742cae771dab04b815414b4ba1b6965e2046c5496857fca39d", func := "gangway/gangwaylaw1.LebUints", spec := "lebUints", unfollowed := true, recurses := true, apart := false, narrowed := true }
def LebUintsUptoSaid : Prop := lebUintsUptoRow.holds Try.pinned (OpenSpec.upto lebUintsSpec)

/-- 'gangwaylaw1.LebPuts', WHERE WHAT IT READS IS OF BULK AT MOST 1048576: true; the input reads as it did. -/
def lebPutsUptoRow : OpenClaim := { program := "ytgmlnigelbplnaa", sum := "e035e982b84fcb742cae771dab04b815414b4ba1b6965e2046c5496857fca39d", func := "gangway/gangwaylaw1.LebPuts", spec := "lebPuts", unfollowed := true, recurses := true, apart := false, narrowed := true }
def LebPutsUptoSaid : Prop := lebPutsUptoRow.holds Try.pinned (OpenSpec.upto lebPutsSpec)

/-- 'gangwaylaw1.LebSints', WHERE WHAT IT READS IS OF BULK AT MOST 1048576: true; the input reads as it did. -/
def lebSintsUptoRow : OpenClaim := { program := "ytgmlnigelbplnaa", sum := "e035e982b84fcb742cae771dab04b815414b4ba1b6965e2046c5496857fca39d", func := "gangway/gangwaylaw1.LebSints", spec := "lebSints", unfollowed := true, recurses := true, apart := false, narrowed := true }
def LebSintsUptoSaid : Prop := lebSintsUptoRow.holds Try.pinned (OpenSpec.upto lebSintsSpec)

/-- 'gangwaylaw1.LebBack', WHERE WHAT IT READS IS OF BULK AT MOST 1048576: true; the input reads as it did. -/
def lebBackUptoRow : OpenClaim := { program := "ytgmlnigelbplnaa", sum := "e035e982b84fcb742cae771dab04b815414b4ba1b6965e2046c5496857fca39d", func := "gangway/gangwaylaw1.LebBack", spec := "lebBack", unfollowed := true, recurses := true, apart := false, narrowed := true }
def LebBackUptoSaid : Prop := lebBackUptoRow.holds Try.pinned (OpenSpec.upto lebBackSpec)

/-- 'gangwaylaw1.LebSmall', WHERE WHAT IT READS IS OF BULK AT MOST 1048576: true; the input reads as it did. -/
def lebSmallUptoRow : OpenClaim := { program := "ytgmlnigelbplnaa", sum := "e035e982b84fcb742cae771dab04b815414b4ba1b6965e2046c5496857fca39d", func := "gangway/gangwaylaw1.LebSmall", spec := "lebSmall", unfollowed := true, recurses := true, apart := false, narrowed := true }
def LebSmallUptoSaid : Prop := lebSmallUptoRow.holds Try.pinned (OpenSpec.upto lebSmallSpec)

/-- 'gangwaylaw1.LebSizes', WHERE WHAT IT READS IS OF BULK AT MOST 1048576: true; the input reads as it did. -/
def lebSizesUptoRow : OpenClaim := { program := "ytgmlnigelbplnaa", sum := "e035e982b84fcb742cae771dab04b815414b4ba1b6965e2046c5496857fca39d", func := "gangway/gangwaylaw1.LebSizes", spec := "lebSizes", unfollowed := true, recurses := true, apart := false, narrowed := true }
def LebSizesUptoSaid : Prop := lebSizesUptoRow.holds Try.pinned (OpenSpec.upto lebSizesSpec)

end Rows
end Go.Proofs.Ytgmlnigelbplnaa
