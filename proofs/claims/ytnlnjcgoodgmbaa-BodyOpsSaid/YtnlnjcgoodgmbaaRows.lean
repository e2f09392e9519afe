/-
  NARROWER THAN 'FOR EVERY INPUT', by the rows' own cells (each row's printed sentence says how): BodyExact: loops · BodyNops: loops · BodyEnds: loops · BodyOps: loops · BodyBlocks: loops.
  DERIVED. THE GIVEN ROWS OF THIS SEAT. 5 by the template 'for every input the law returns true; each argument reads behind the call as it read before'; 0 by the template 'total and deterministic' (their statements: YtnlnjcgoodgmbaaTotals.lean).
  GIVEN WITH THE SEED: the statements are not yours to turn. If you find one false, say at which input.
  Laid BY PROGRAM, IN A SANDBOX (cutbox-rows.mjs): the forced cells as the released guide's own fill.sh prints them over the translation 94e0a24ecf57fde1… (all of the seat's roots in one cut). By AI agents, Wed Nov 11 2026. No macro, syntax, notation, axiom, sorry.
-/
import Derived.Test.YtnlnjcgoodgmbaaChecked
import GoSem.Claim
import GoSem.ClaimJoined
import GoSem.ClaimMapViews
import Derived.JoinedTies
import Derived.KernelRfl
namespace Go.Proofs.Ytnlnjcgoodgmbaa
/- THE CELL 'sum', in the pinned program and in every row, IS THE sha256 OF THE DUMP (.gsa) THAT YtnlnjcgoodgmbaaProg.lean LOADS. Nothing in Lean hashes anything: it is a label: what it is worth is what the hold of that sum in a sandbox is worth. -/
noncomputable def Try.pinned : Pinned := { name := "ytnlnjcgoodgmbaa", sum := "94e0a24ecf57fde12bc25a503485313093fa8a9aaa51daa554636a148e7820e7", checked := Try.checked }
namespace Rows
def none {H : Type} : Left H := { results := [], args := [] }

/-- 'gangwaylaw8.BodyExact': WHATEVER THE INPUT: true; the input reads as it did. -/
def bodyExactSpec : ChangeSpec := { name := "bodyExact", fn := fun _ => fun
  | [d] => { results := [.lit (.bool true)], args := [d] }
  | _ => none }
def bodyExactRow : OpenClaim := { program := "ytnlnjcgoodgmbaa", sum := "94e0a24ecf57fde12bc25a503485313093fa8a9aaa51daa554636a148e7820e7", func := "gangway/gangwaylaw8.BodyExact", spec := "bodyExact", unfollowed := true, recurses := true, loops := true, apart := false }
def BodyExactSaid : Prop := bodyExactRow.holds Try.pinned (OpenSpec.ofChange bodyExactSpec)

/-- ITS FALSE NEIGHBOUR: 'it returns false'. Refute it at one input. -/
def bodyExactWrong : ChangeSpec := { name := "bodyExact", fn := fun _ => fun
  | [d] => { results := [.lit (.bool false)], args := [d] }
  | _ => none }
def BodyExactWrongFalsely : Prop := bodyExactRow.holds Try.pinned (OpenSpec.ofChange bodyExactWrong)

/-- 'gangwaylaw8.BodyNops': WHATEVER THE INPUT: true; the input reads as it did. -/
def bodyNopsSpec : ChangeSpec := { name := "bodyNops", fn := fun _ => fun
  | [d] => { results := [.lit (.bool true)], args := [d] }
  | _ => none }
def bodyNopsRow : OpenClaim := { program := "ytnlnjcgoodgmbaa", sum := "94e0a24ecf57fde12bc25a503485313093fa8a9aaa51daa554636a148e7820e7", func := "gangway/gangwaylaw8.BodyNops", spec := "bodyNops", unfollowed := true, recurses := true, loops := true, apart := false }
def BodyNopsSaid : Prop := bodyNopsRow.holds Try.pinned (OpenSpec.ofChange bodyNopsSpec)

/-- ITS FALSE NEIGHBOUR: 'it returns false'. Refute it at one input. -/
def bodyNopsWrong : ChangeSpec := { name := "bodyNops", fn := fun _ => fun
  | [d] => { results := [.lit (.bool false)], args := [d] }
  | _ => none }
def BodyNopsWrongFalsely : Prop := bodyNopsRow.holds Try.pinned (OpenSpec.ofChange bodyNopsWrong)

/-- 'gangwaylaw8.BodyEnds': WHATEVER THE INPUT: true; the input reads as it did. -/
def bodyEndsSpec : ChangeSpec := { name := "bodyEnds", fn := fun _ => fun
  | [d] => { results := [.lit (.bool true)], args := [d] }
  | _ => none }
def bodyEndsRow : OpenClaim := { program := "ytnlnjcgoodgmbaa", sum := "94e0a24ecf57fde12bc25a503485313093fa8a9aaa51daa554636a148e7820e7", func := "gangway/gangwaylaw8.BodyEnds", spec := "bodyEnds", unfollowed := true, recurses := true, loops := true, apart := false }
def BodyEndsSaid : Prop := bodyEndsRow.holds Try.pinned (OpenSpec.ofChange bodyEndsSpec)

/-- ITS FALSE NEIGHBOUR: 'it returns false'. Refute it at one input. -/
def bodyEndsWrong : ChangeSpec := { name := "bodyEnds", fn := fun _ => fun
  | [d] => { results := [.lit (.bool false)], args := [d] }
  | _ => none }
def BodyEndsWrongFalsely : Prop := bodyEndsRow.holds Try.pinned (OpenSpec.ofChange bodyEndsWrong)

/-- 'gangwaylaw8.BodyOps': WHATEVER THE INPUT: true; the input reads as it did. -/
def bodyOpsSpec : ChangeSpec := { name := "bodyOps", fn := fun _ => fun
  | [d] => { results := [.lit (.bool true)], args := [d] }
  | _ => none }
def bodyOpsRow : OpenClaim := { program := "ytnlnjcgoodgmbaa", sum := "94e0a24ecf57fde12bc25a503485313093fa8a9aaa51daa554636a148e7820e7", func := "gangway/gangwaylaw8.BodyOps", spec := "bodyOps", unfollowed := true, recurses := true, loops := true, apart := false }
def BodyOpsSaid : Prop := bodyOpsRow.holds Try.pinned (OpenSpec.ofChange bodyOpsSpec)

/-- ITS FALSE NEIGHBOUR: 'it returns false'. Refute it at one input. -/
def bodyOpsWrong : ChangeSpec := { name := "bodyOps", fn := fun _ => fun
  | [d] => { results := [.lit (.bool false)], args := [d] }
  | _ => none }
def BodyOpsWrongFalsely : Prop := bodyOpsRow.holds Try.pinned (OpenSpec.ofChange bodyOpsWrong)

/-- 'gangwaylaw8.BodyBlocks': WHATEVER THE INPUT: true; the input reads as it did. -/
def bodyBlocksSpec : ChangeSpec := { name := "bodyBlocks", fn := fun _ => fun
  | [d] => { results := [.lit (.bool true)], args := [d] }
  | _ => none }
def bodyBlocksRow : OpenClaim := { program := "ytnlnjcgoodgmbaa", sum := "94e0a24ecf57fde12bc25a503485313093fa8a9aaa51daa554636a148e7820e7", func := "gangway/gangwaylaw8.BodyBlocks", spec := "bodyBlocks", unfollowed := true, recurses := true, loops := true, apart := false }
def BodyBlocksSaid : Prop := bodyBlocksRow.holds Try.pinned (OpenSpec.ofChange bodyBlocksSpec)

/-- ITS FALSE NEIGHBOUR: 'it returns false'. Refute it at one input. -/
def bodyBlocksWrong : ChangeSpec := { name := "bodyBlocks", fn := fun _ => fun
  | [d] => { results := [.lit (.bool false)], args := [d] }
  | _ => none }
def BodyBlocksWrongFalsely : Prop := bodyBlocksRow.holds Try.pinned (OpenSpec.ofChange bodyBlocksWrong)

/- THE SECOND FORM. 'bulk': how many values and letters a reading holds, each counted each time it is reached (what is shared counts as often as it is met; a slice's spare places count too). A statement '..UptoSaid' is the law's where the arguments, and the package variables that the reading takes, are together of bulk at most 1048576: NARROWER than '..Said'. Prove '..Said' where nothing that the law and all that it calls make is longer than what came in: it says more and counts as full. Else prove '..UptoSaid'. A law counts once. -/
mutual
def uptoBulk {H : Type} : DataW H → Nat
  | .lit (.string bytes) => bytes.length + 1
  | .lit _ => 1
  | .nil => 1
  | .ptr d => uptoBulk d + 1
  | .slice elems spare => uptoBulkAll elems + uptoBulkAll spare + 1
  | .agg parts => uptoBulkAll parts + 1
  | .iface _ d => uptoBulk d + 1
  | .map entries => uptoBulkEntries entries + 1
  | .held _ => 1
def uptoBulkAll {H : Type} : List (DataW H) → Nat
  | [] => 0
  | d :: r => uptoBulk d + uptoBulkAll r
def uptoBulkEntries {H : Type} : List (Lit × DataW H) → Nat
  | [] => 0
  | x :: r => uptoBulkEntry x + uptoBulkEntries r
def uptoBulkEntry {H : Type} : Lit × DataW H → Nat
  | (.string bytes, d) => bytes.length + uptoBulk d + 1
  | (_, d) => uptoBulk d + 1
 end
def uptoSmall : (H : Type) → List (DataW H) → Bool := fun _ ds => decide (uptoBulkAll ds ≤ 1048576)
def OpenSpec.upto (s : _root_.Go.ChangeSpec) : _root_.Go.OpenSpec := { _root_.Go.OpenSpec.ofChange s with cond := some uptoSmall }

/-- 'gangwaylaw8.BodyExact', WHERE WHAT IT READS IS OF BULK AT MOST 1048576: true; the input reads as it did. -/
def bodyExactUptoRow : OpenClaim := { program := "ytnlnjcgoodgmbaa", sum := "94e0a24ecf57fde12bc25a503485313093fa8a9aaa51daa554636a148e7820e7", func := "gangway/gangwaylaw8.BodyExact", spec := "bodyExact", unfollowed := true, recurses := true, loops := true, apart := false, narrowed := true }
def BodyExactUptoSaid : Prop := bodyExactUptoRow.holds Try.pinned (OpenSpec.upto bodyExactSpec)

/-- 'gangwaylaw8.BodyNops', WHERE WHAT IT READS IS OF BULK AT MOST 1048576: true; the input reads as it did. -/
def bodyNopsUptoRow : OpenClaim := { program := "ytnlnjcgoodgmbaa", sum := "94e0a24ecf57fde12bc25a503485313093fa8a9aaa51daa554636a148e7820e7", func := "gangway/gangwaylaw8.BodyNops", spec := "bodyNops", unfollowed := true, recurses := true, loops := true, apart := false, narrowed := true }
def BodyNopsUptoSaid : Prop := bodyNopsUptoRow.holds Try.pinned (OpenSpec.upto bodyNopsSpec)

/-- 'gangwaylaw8.BodyEnds', WHERE WHAT IT READS IS OF BULK AT MOST 1048576: true; the input reads as it did. -/
def bodyEndsUptoRow : OpenClaim := { program := "ytnlnjcgoodgmbaa", sum := "94e0a24ecf57fde12bc25a503485313093fa8a9aaa51daa554636a148e7820e7", func := "gangway/gangwaylaw8.BodyEnds", spec := "bodyEnds", unfollowed := true, recurses := true, loops := true, apart := false, narrowed := true }
def BodyEndsUptoSaid : Prop := bodyEndsUptoRow.holds Try.pinned (OpenSpec.upto bodyEndsSpec)

/-- 'gangwaylaw8.BodyOps', WHERE WHAT IT READS IS OF BULK AT MOST 1048576: true; the input reads as it did. -/
def bodyOpsUptoRow : OpenClaim := { program := "ytnlnjcgoodgmbaa", sum := "94e0a24ecf57fde12bc25a503485313093fa8a9aaa51daa554636a148e7820e7", func := "gangway/gangwaylaw8.BodyOps", spec := "bodyOps", unfollowed := true, recurses := true, loops := true, apart := false, narrowed := true }
def BodyOpsUptoSaid : Prop := bodyOpsUptoRow.holds Try.pinned (OpenSpec.upto bodyOpsSpec)

/-- 'gangwaylaw8.BodyBlocks', WHERE WHAT IT READS IS OF BULK AT MOST 1048576: true; the input reads as it did. -/
def bodyBlocksUptoRow : OpenClaim := { program := "ytnlnjcgoodgmbaa", sum := "94e0a24ecf57fde12bc25a503485313093fa8a9aaa51daa554636a148e7820e7", func := "gangway/gangwaylaw8.BodyBlocks", spec := "bodyBlocks", unfollowed := true, recurses := true, loops := true, apart := false, narrowed := true }
def BodyBlocksUptoSaid : Prop := bodyBlocksUptoRow.holds Try.pinned (OpenSpec.upto bodyBlocksSpec)

end Rows
end Go.Proofs.Ytnlnjcgoodgmbaa
