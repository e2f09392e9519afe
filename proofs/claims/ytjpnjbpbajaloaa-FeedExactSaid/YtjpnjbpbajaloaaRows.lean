/-
  No cell of these rows narrows 'for every input' (looked for: loops, veiled, ifaces, maps, wideKeys, modest, calm, conditions, laid).
  DERIVED. THE GIVEN ROWS OF THIS SEAT. 3 by the template 'for every input the law returns true; each argument reads behind the call as it read before'; 0 by the template 'total and deterministic' (their statements: YtjpnjbpbajaloaaTotals.lean).
  GIVEN WITH THE SEED: the statements are not yours to turn. If you find one false, say at which input.
  Laid BY PROGRAM, IN A SANDBOX (cutbox-rows.mjs): the forced cells as the released guide's own fill.sh prints them over the translation 50c8115e43ecfccb… (all of the seat's roots in one cut). By AI agents, Wed Nov 11 2026. No macro, syntax, notation, axiom, sorry.
-/
import Derived.Test.YtjpnjbpbajaloaaChecked
import GoSem.Claim
import GoSem.ClaimJoined
import GoSem.ClaimMapViews
import Derived.JoinedTies
import Derived.KernelRfl
namespace Go.Proofs.Ytjpnjbpbajaloaa
/- THE CELL 'sum', in the pinned program and in every row, IS THE sha256 OF THE DUMP (.gsa) THAT YtjpnjbpbajaloaaProg.lean LOADS. Nothing in Lean hashes anything: it is a label: what it is worth is what the hold of that sum in a sandbox is worth. -/
noncomputable def Try.pinned : Pinned := { name := "ytjpnjbpbajaloaa", sum := "50c8115e43ecfccb73eae58690096f04b9aea814a7c84e6d86928f962a0825a0", checked := Try.checked }
namespace Rows
def none {H : Type} : Left H := { results := [], args := [] }

/-- 'gangwaylaw23.FeedClocks': WHATEVER THE INPUT: true; the input reads as it did. -/
def feedClocksSpec : ChangeSpec := { name := "feedClocks", fn := fun _ => fun
  | [d] => { results := [.lit (.bool true)], args := [d] }
  | _ => none }
def feedClocksRow : OpenClaim := { program := "ytjpnjbpbajaloaa", sum := "50c8115e43ecfccb73eae58690096f04b9aea814a7c84e6d86928f962a0825a0", func := "gangway/gangwaylaw23.FeedClocks", spec := "feedClocks", apart := false }
def FeedClocksSaid : Prop := feedClocksRow.holds Try.pinned (OpenSpec.ofChange feedClocksSpec)

/-- ITS FALSE NEIGHBOUR: 'it returns false'. Refute it at one input. -/
def feedClocksWrong : ChangeSpec := { name := "feedClocks", fn := fun _ => fun
  | [d] => { results := [.lit (.bool false)], args := [d] }
  | _ => none }
def FeedClocksWrongFalsely : Prop := feedClocksRow.holds Try.pinned (OpenSpec.ofChange feedClocksWrong)

/-- 'gangwaylaw23.FeedExact': WHATEVER THE INPUT: true; the input reads as it did. -/
def feedExactSpec : ChangeSpec := { name := "feedExact", fn := fun _ => fun
  | [d] => { results := [.lit (.bool true)], args := [d] }
  | _ => none }
def feedExactRow : OpenClaim := { program := "ytjpnjbpbajaloaa", sum := "50c8115e43ecfccb73eae58690096f04b9aea814a7c84e6d86928f962a0825a0", func := "gangway/gangwaylaw23.FeedExact", spec := "feedExact", unfollowed := true, recurses := true, apart := false }
def FeedExactSaid : Prop := feedExactRow.holds Try.pinned (OpenSpec.ofChange feedExactSpec)

/-- ITS FALSE NEIGHBOUR: 'it returns false'. Refute it at one input. -/
def feedExactWrong : ChangeSpec := { name := "feedExact", fn := fun _ => fun
  | [d] => { results := [.lit (.bool false)], args := [d] }
  | _ => none }
def FeedExactWrongFalsely : Prop := feedExactRow.holds Try.pinned (OpenSpec.ofChange feedExactWrong)

/-- 'gangwaylaw23.FeedParts': WHATEVER THE INPUT: true; the input reads as it did. -/
def feedPartsSpec : ChangeSpec := { name := "feedParts", fn := fun _ => fun
  | [d] => { results := [.lit (.bool true)], args := [d] }
  | _ => none }
def feedPartsRow : OpenClaim := { program := "ytjpnjbpbajaloaa", sum := "50c8115e43ecfccb73eae58690096f04b9aea814a7c84e6d86928f962a0825a0", func := "gangway/gangwaylaw23.FeedParts", spec := "feedParts", unfollowed := true, recurses := true, apart := false }
def FeedPartsSaid : Prop := feedPartsRow.holds Try.pinned (OpenSpec.ofChange feedPartsSpec)

/-- ITS FALSE NEIGHBOUR: 'it returns false'. Refute it at one input. -/
def feedPartsWrong : ChangeSpec := { name := "feedParts", fn := fun _ => fun
  | [d] => { results := [.lit (.bool false)], args := [d] }
  | _ => none }
def FeedPartsWrongFalsely : Prop := feedPartsRow.holds Try.pinned (OpenSpec.ofChange feedPartsWrong)

/- THE SECOND FORM. 'bulk': how many values and letters a reading holds, each counted each time it is reached (what is shared counts as often as it is met; a slice's spare places count too). A statement '..UptoSaid' is the law's where the arguments, and the package variables that the reading takes, are together of bulk at most 1048576: NARROWER than '..Said'. Prove '..Said' where nothing that the law and all that it calls make is longer than what came in: it says more and counts as full. Else prove '..UptoSaid'. A law counts once. -/
mutual
def uptoBulk {H : Type} : DataW H → Nat
  | .lit (.string bytes) => bytes.length + 1
  | .lit _ => 1
  | .nil => 1
  | .ptr d => uptoBulk d + 1
  | .slice elems spare => uptoBulkAll elems + uptoBulkAll spare + 1
  | .agg parts => uptoBulkAll parts + 1
  | .iface _ d => uptoBulk d + 1
  | .map entries => uptoBulkEntries entries + 1
  | .held _ => 1
def uptoBulkAll {H : Type} : List (DataW H) → Nat
  | [] => 0
  | d :: r => uptoBulk d + uptoBulkAll r
def uptoBulkEntries {H : Type} : List (Lit × DataW H) → Nat
  | [] => 0
  | x :: r => uptoBulkEntry x + uptoBulkEntries r
def uptoBulkEntry {H : Type} : Lit × DataW H → Nat
  | (.string bytes, d) => bytes.length + uptoBulk d + 1
  | (_, d) => uptoBulk d + 1
 end
def uptoSmall : (H : Type) → List (DataW H) → Bool := fun _ ds => decide (uptoBulkAll ds ≤ 1048576)
def OpenSpec.upto (s : _root_.Go.ChangeSpec) : _root_.Go.OpenSpec := { _root_.Go.OpenSpec.ofChange s with cond := some uptoSmall }

/-- 'gangwaylaw23.FeedClocks', WHERE WHAT IT READS IS OF BULK AT MOST 1048576: true; the input reads as it did. -/
def feedClocksUptoRow : OpenClaim := { program := "ytjpnjbpbajaloaa", sum := "50c8115e43ecfccb73eae58690096f04b9aea814a7c84e6d86928f962a0825a0", func := "gangway/gangwaylaw23.FeedClocks", spec := "feedClocks", apart := false, narrowed := true }
def FeedClocksUptoSaid : Prop := feedClocksUptoRow.holds Try.pinned (OpenSpec.upto feedClocksSpec)

/-- 'gangwaylaw23.FeedExact', WHERE WHAT IT READS IS OF BULK AT MOST 1048576: true; the input reads as it did. -/
def feedExactUptoRow : OpenClaim := { program := "ytjpnjbpbajaloaa", sum := "50c8115e43ecfccb73eae58690096f04b9aea814a7c84e6d86928f962a0825a0", func := "gangway/gangwaylaw23.FeedExact", spec := "feedExact", unfollowed := true, recurses := true, apart := false, narrowed := true }
def FeedExactUptoSaid : Prop := feedExactUptoRow.holds Try.pinned (OpenSpec.upto feedExactSpec)

/-- 'gangwaylaw23.FeedParts', WHERE WHAT IT READS IS OF BULK AT MOST 1048576: true; the input reads as it did. -/
def feedPartsUptoRow : OpenClaim := { program := "ytjpnjbpbajaloaa", sum := "50c8115e43ecfccb73eae58690096f04b9aea814a7c84e6d86928f962a0825a0", func := "gangway/gangwaylaw23.FeedParts", spec := "feedParts", unfollowed := true, recurses := true, apart := false, narrowed := true }
def FeedPartsUptoSaid : Prop := feedPartsUptoRow.holds Try.pinned (OpenSpec.upto feedPartsSpec)

end Rows
end Go.Proofs.Ytjpnjbpbajaloaa
