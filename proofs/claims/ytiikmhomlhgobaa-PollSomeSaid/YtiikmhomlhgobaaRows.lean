/-
  No cell of these rows narrows 'for every input' (looked for: loops, veiled, ifaces, maps, wideKeys, modest, calm, conditions, laid).
  DERIVED. THE GIVEN ROWS OF THIS SEAT. 3 by the template 'for every input the law returns true; each argument reads behind the call as it read before'; 0 by the template 'total and deterministic' (their statements: YtiikmhomlhgobaaTotals.lean).
  GIVEN WITH THE SEED: the statements are not yours to turn. If you find one false, say at which input.
  Laid BY PROGRAM, IN A SANDBOX (cutbox-rows.mjs): the forced cells as the released guide's own fill.sh prints them over the translation c5cd087d1053a934… (all of the seat's roots in one cut). By AI agents, Wed Nov 11 2026. No macro, syntax, notation, axiom, sorry.
-/
import Derived.Test.YtiikmhomlhgobaaChecked
import GoSem.Claim
import GoSem.ClaimJoined
import GoSem.ClaimMapViews
import Derived.JoinedTies
import Derived.KernelRfl
namespace Go.Proofs.Ytiikmhomlhgobaa
/- THE CELL 'sum', in the pinned program and in every row, IS THE sha256 OF THE DUMP (.gsa) THAT YtiikmhomlhgobaaProg.lean LOADS. Nothing in Lean hashes anything: it is a label: what it is worth is what the hold of that sum in a sandbox is worth. -/
noncomputable def Try.pinned : Pinned := { name := "ytiikmhomlhgobaa", sum := "c5cd087d1053a9344ae521c6c1eb38715ffbb201b3d0006d88c659f4104a8b54", checked := Try.checked }
namespace Rows
def none {H : Type} : Left H := { results := [], args := [] }

/-- 'gangwaylaw24.PollExact': WHATEVER THE INPUT: true; the input reads as it did. -/
def pollExactSpec : ChangeSpec := { name := "pollExact", fn := fun _ => fun
  | [d] => { results := [.lit (.bool true)], args := [d] }
  | _ => none }
def pollExactRow : OpenClaim := { program := "ytiikmhomlhgobaa", sum := "c5cd087d1053a9344ae521c6c1eb38715ffbb201b3d0006d88c659f4104a8b54", func := "gangway/gangwaylaw24.PollExact", spec := "pollExact", unfollowed := true, recurses := true, apart := false }
def PollExactSaid : Prop := pollExactRow.holds Try.pinned (OpenSpec.ofChange pollExactSpec)

/-- ITS FALSE NEIGHBOUR: 'it returns false'. Refute it at one input. -/
def pollExactWrong : ChangeSpec := { name := "pollExact", fn := fun _ => fun
  | [d] => { results := [.lit (.bool false)], args := [d] }
  | _ => none }
def PollExactWrongFalsely : Prop := pollExactRow.holds Try.pinned (OpenSpec.ofChange pollExactWrong)

/-- 'gangwaylaw24.PollSome': WHATEVER THE INPUT: true; the input reads as it did. -/
def pollSomeSpec : ChangeSpec := { name := "pollSome", fn := fun _ => fun
  | [d] => { results := [.lit (.bool true)], args := [d] }
  | _ => none }
def pollSomeRow : OpenClaim := { program := "ytiikmhomlhgobaa", sum := "c5cd087d1053a9344ae521c6c1eb38715ffbb201b3d0006d88c659f4104a8b54", func := "gangway/gangwaylaw24.PollSome", spec := "pollSome", unfollowed := true, recurses := true, apart := false }
def PollSomeSaid : Prop := pollSomeRow.holds Try.pinned (OpenSpec.ofChange pollSomeSpec)

/-- ITS FALSE NEIGHBOUR: 'it returns false'. Refute it at one input. -/
def pollSomeWrong : ChangeSpec := { name := "pollSome", fn := fun _ => fun
  | [d] => { results := [.lit (.bool false)], args := [d] }
  | _ => none }
def PollSomeWrongFalsely : Prop := pollSomeRow.holds Try.pinned (OpenSpec.ofChange pollSomeWrong)

/-- 'gangwaylaw24.PollClocks': WHATEVER THE INPUT: true; the input reads as it did. -/
def pollClocksSpec : ChangeSpec := { name := "pollClocks", fn := fun _ => fun
  | [d] => { results := [.lit (.bool true)], args := [d] }
  | _ => none }
def pollClocksRow : OpenClaim := { program := "ytiikmhomlhgobaa", sum := "c5cd087d1053a9344ae521c6c1eb38715ffbb201b3d0006d88c659f4104a8b54", func := "gangway/gangwaylaw24.PollClocks", spec := "pollClocks", unfollowed := true, recurses := true, apart := false }
def PollClocksSaid : Prop := pollClocksRow.holds Try.pinned (OpenSpec.ofChange pollClocksSpec)

/-- ITS FALSE NEIGHBOUR: 'it returns false'. Refute it at one input. -/
def pollClocksWrong : ChangeSpec := { name := "pollClocks", fn := fun _ => fun
  | [d] => { results := [.lit (.bool false)], args := [d] }
  | _ => none }
def PollClocksWrongFalsely : Prop := pollClocksRow.holds Try.pinned (OpenSpec.ofChange pollClocksWrong)

/- THE SECOND FORM. 'bulk': how many values and letters a reading holds, each counted each time it is reached (what is shared counts as often as it is met; a slice's spare places count too). A statement '..UptoSaid' is the law's where the arguments, and the package variables that the reading takes, are together of bulk at most 1048576: NARROWER than '..Said'. Prove '..Said' where nothing that the law and all that it calls make is longer than what came in: it says more and counts as full. Else prove '..UptoSaid'. A law counts once. -/
mutual
def uptoBulk {H : Type} : DataW H → Nat
  | .lit (.string bytes) => bytes.length + 1
  | .lit _ => 1
  | .nil => 1
  | .ptr d => uptoBulk d + 1
  | .slice elems spare => uptoBulkAll elems + uptoBulkAll spare + 1
  | .agg parts => uptoBulkAll parts + 1
  | .iface _ d => uptoBulk d + 1
  | .map entries => uptoBulkEntries entries + 1
  | .held _ => 1
def uptoBulkAll {H : Type} : List (DataW H) → Nat
  | [] => 0
  | d :: r => uptoBulk d + uptoBulkAll r
def uptoBulkEntries {H : Type} : List (Lit × DataW H) → Nat
  | [] => 0
  | x :: r => uptoBulkEntry x + uptoBulkEntries r
def uptoBulkEntry {H : Type} : Lit × DataW H → Nat
  | (.string bytes, d) => bytes.length + uptoBulk d + 1
  | (_, d) => uptoBulk d + 1
 end
def uptoSmall : (H : Type) → List (DataW H) → Bool := fun _ ds => decide (uptoBulkAll ds ≤ 1048576)
def OpenSpec.upto (s : _root_.Go.ChangeSpec) : _root_.Go.OpenSpec := { _root_.Go.OpenSpec.ofChange s with cond := some uptoSmall }

/-- 'gangwaylaw24.PollExact', WHERE WHAT IT READS IS OF BULK AT MOST 1048576: true; the input reads as it did. -/
def pollExactUptoRow : OpenClaim := { program := "ytiikmhomlhgobaa", sum := "c5cd087d1053a9344ae521c6c1eb38715ffbb201b3d0006d88c659f4104a8b54", func := "gangway/gangwaylaw24.PollExact", spec := "pollExact", unfollowed := true, recurses := true, apart := false, narrowed := true }
def PollExactUptoSaid : Prop := pollExactUptoRow.holds Try.pinned (OpenSpec.upto pollExactSpec)

/-- 'gangwaylaw24.PollSome', WHERE WHAT IT READS IS OF BULK AT MOST 1048576: true; the input reads as it did. -/
def pollSomeUptoRow : OpenClaim := { program := "ytiikmhomlhgobaa", sum := "c5cd087d1053a9344ae521c6c1eb38715ffbb201b3d0006d88c659f4104a8b54", func := "gangway/gangwaylaw24.PollSome", spec := "pollSome", unfollowed := true, recurses := true, apart := false, narrowed := true }
def PollSomeUptoSaid : Prop := pollSomeUptoRow.holds Try.pinned (OpenSpec.upto pollSomeSpec)

/-- 'gangwaylaw24.PollClocks', WHERE WHAT IT READS IS OF BULK AT MOST 1048576: true; the input reads as it did. -/
def pollClocksUptoRow : OpenClaim := { program := "ytiikmhomlhgobaa", sum := "c5cd087d1053a9344ae521c6c1eb38715ffbb201b3d0006d88c659f4104a8b54", func := "gangway/gangwaylaw24.PollClocks", spec := "pollClocks", unfollowed := true, recurses := true, apart := false, narrowed := true }
def PollClocksUptoSaid : Prop := pollClocksUptoRow.holds Try.pinned (OpenSpec.upto pollClocksSpec)

end Rows
end Go.Proofs.Ytiikmhomlhgobaa
