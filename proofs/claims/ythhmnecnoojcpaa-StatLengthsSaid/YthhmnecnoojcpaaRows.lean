/-
  No cell of these rows narrows 'for every input' (looked for: loops, veiled, ifaces, maps, wideKeys, modest, calm, conditions, laid).
  DERIVED. THE GIVEN ROWS OF THIS SEAT. 7 by the template 'for every input the law returns true; each argument reads behind the call as it read before'; 0 by the template 'total and deterministic' (their statements: YthhmnecnoojcpaaTotals.lean).
  GIVEN WITH THE SEED: the statements are not yours to turn. If you find one false, say at which input.
  Laid BY PROGRAM, IN A SANDBOX (cutbox-rows.mjs): the forced cells as the released guide's own fill.sh prints them over the translation 86e581723aa9f60a… (all of the seat's roots in one cut). By AI agents, Wed Nov 11 2026. No macro, syntax, notation, axiom, sorry.
-/
import Derived.Test.YthhmnecnoojcpaaChecked
import GoSem.Claim
import GoSem.ClaimJoined
import GoSem.ClaimMapViews
import Derived.JoinedTies
import Derived.KernelRfl
namespace Go.Proofs.Ythhmnecnoojcpaa
/- THE CELL 'sum', in the pinned program and in every row, IS THE sha256 OF THE DUMP (.gsa) THAT YthhmnecnoojcpaaProg.lean LOADS. Nothing in Lean hashes anything: it is a label: what it is worth is what the hold of that sum in a sandbox is worth. -/
noncomputable def Try.pinned : Pinned := { name := "ythhmnecnoojcpaa", sum := "86e581723aa9f60a72b7b0002e6373687c81da8971ef7c908851dd183067c61e", checked := Try.checked }
namespace Rows
def none {H : Type} : Left H := { results := [], args := [] }

/-- 'gangwaylaw20.StatEvents': WHATEVER THE INPUT: true; the input reads as it did. -/
def statEventsSpec : ChangeSpec := { name := "statEvents", fn := fun _ => fun
  | [d] => { results := [.lit (.bool true)], args := [d] }
  | _ => none }
def statEventsRow : OpenClaim := { program := "ythhmnecnoojcpaa", sum := "86e581723aa9f60a72b7b0002e6373687c81da8971ef7c908851dd183067c61e", func := "gangway/gangwaylaw20.StatEvents", spec := "statEvents", unfollowed := true, recurses := true, apart := false }
def StatEventsSaid : Prop := statEventsRow.holds Try.pinned (OpenSpec.ofChange statEventsSpec)

/-- ITS FALSE NEIGHBOUR: 'it returns false'. Refute it at one input. -/
def statEventsWrong : ChangeSpec := { name := "statEvents", fn := fun _ => fun
  | [d] => { results := [.lit (.bool false)], args := [d] }
  | _ => none }
def StatEventsWrongFalsely : Prop := statEventsRow.holds Try.pinned (OpenSpec.ofChange statEventsWrong)

/-- 'gangwaylaw20.StatEntries': WHATEVER THE INPUT: true; the input reads as it did. -/
def statEntriesSpec : ChangeSpec := { name := "statEntries", fn := fun _ => fun
  | [d] => { results := [.lit (.bool true)], args := [d] }
  | _ => none }
def statEntriesRow : OpenClaim := { program := "ythhmnecnoojcpaa", sum := "86e581723aa9f60a72b7b0002e6373687c81da8971ef7c908851dd183067c61e", func := "gangway/gangwaylaw20.StatEntries", spec := "statEntries", unfollowed := true, recurses := true, apart := false }
def StatEntriesSaid : Prop := statEntriesRow.holds Try.pinned (OpenSpec.ofChange statEntriesSpec)

/-- ITS FALSE NEIGHBOUR: 'it returns false'. Refute it at one input. -/
def statEntriesWrong : ChangeSpec := { name := "statEntries", fn := fun _ => fun
  | [d] => { results := [.lit (.bool false)], args := [d] }
  | _ => none }
def StatEntriesWrongFalsely : Prop := statEntriesRow.holds Try.pinned (OpenSpec.ofChange statEntriesWrong)

/-- 'gangwaylaw20.StatSubs': WHATEVER THE INPUT: true; the input reads as it did. -/
def statSubsSpec : ChangeSpec := { name := "statSubs", fn := fun _ => fun
  | [d] => { results := [.lit (.bool true)], args := [d] }
  | _ => none }
def statSubsRow : OpenClaim := { program := "ythhmnecnoojcpaa", sum := "86e581723aa9f60a72b7b0002e6373687c81da8971ef7c908851dd183067c61e", func := "gangway/gangwaylaw20.StatSubs", spec := "statSubs", unfollowed := true, recurses := true, apart := false }
def StatSubsSaid : Prop := statSubsRow.holds Try.pinned (OpenSpec.ofChange statSubsSpec)

/-- ITS FALSE NEIGHBOUR: 'it returns false'. Refute it at one input. -/
def statSubsWrong : ChangeSpec := { name := "statSubs", fn := fun _ => fun
  | [d] => { results := [.lit (.bool false)], args := [d] }
  | _ => none }
def StatSubsWrongFalsely : Prop := statSubsRow.holds Try.pinned (OpenSpec.ofChange statSubsWrong)

/-- 'gangwaylaw20.StatFds': WHATEVER THE INPUT: true; the input reads as it did. -/
def statFdsSpec : ChangeSpec := { name := "statFds", fn := fun _ => fun
  | [d] => { results := [.lit (.bool true)], args := [d] }
  | _ => none }
def statFdsRow : OpenClaim := { program := "ythhmnecnoojcpaa", sum := "86e581723aa9f60a72b7b0002e6373687c81da8971ef7c908851dd183067c61e", func := "gangway/gangwaylaw20.StatFds", spec := "statFds", unfollowed := true, recurses := true, apart := false }
def StatFdsSaid : Prop := statFdsRow.holds Try.pinned (OpenSpec.ofChange statFdsSpec)

/-- ITS FALSE NEIGHBOUR: 'it returns false'. Refute it at one input. -/
def statFdsWrong : ChangeSpec := { name := "statFds", fn := fun _ => fun
  | [d] => { results := [.lit (.bool false)], args := [d] }
  | _ => none }
def StatFdsWrongFalsely : Prop := statFdsRow.holds Try.pinned (OpenSpec.ofChange statFdsWrong)

/-- 'gangwaylaw20.StatNodes': WHATEVER THE INPUT: true; the input reads as it did. -/
def statNodesSpec : ChangeSpec := { name := "statNodes", fn := fun _ => fun
  | [d] => { results := [.lit (.bool true)], args := [d] }
  | _ => none }
def statNodesRow : OpenClaim := { program := "ythhmnecnoojcpaa", sum := "86e581723aa9f60a72b7b0002e6373687c81da8971ef7c908851dd183067c61e", func := "gangway/gangwaylaw20.StatNodes", spec := "statNodes", unfollowed := true, recurses := true, apart := false }
def StatNodesSaid : Prop := statNodesRow.holds Try.pinned (OpenSpec.ofChange statNodesSpec)

/-- ITS FALSE NEIGHBOUR: 'it returns false'. Refute it at one input. -/
def statNodesWrong : ChangeSpec := { name := "statNodes", fn := fun _ => fun
  | [d] => { results := [.lit (.bool false)], args := [d] }
  | _ => none }
def StatNodesWrongFalsely : Prop := statNodesRow.holds Try.pinned (OpenSpec.ofChange statNodesWrong)

/-- 'gangwaylaw20.StatExact': WHATEVER THE INPUT: true; the input reads as it did. -/
def statExactSpec : ChangeSpec := { name := "statExact", fn := fun _ => fun
  | [d] => { results := [.lit (.bool true)], args := [d] }
  | _ => none }
def statExactRow : OpenClaim := { program := "ythhmnecnoojcpaa", sum := "86e581723aa9f60a72b7b0002e6373687c81da8971ef7c908851dd183067c61e", func := "gangway/gangwaylaw20.StatExact", spec := "statExact", unfollowed := true, recurses := true, apart := false }
def StatExactSaid : Prop := statExactRow.holds Try.pinned (OpenSpec.ofChange statExactSpec)

/-- ITS FALSE NEIGHBOUR: 'it returns false'. Refute it at one input. -/
def statExactWrong : ChangeSpec := { name := "statExact", fn := fun _ => fun
  | [d] => { results := [.lit (.bool false)], args := [d] }
  | _ => none }
def StatExactWrongFalsely : Prop := statExactRow.holds Try.pinned (OpenSpec.ofChange statExactWrong)

/-- 'gangwaylaw20.StatLengths': WHATEVER THE INPUT: true; the input reads as it did. -/
def statLengthsSpec : ChangeSpec := { name := "statLengths", fn := fun _ => fun
  | [d] => { results := [.lit (.bool true)], args := [d] }
  | _ => none }
def statLengthsRow : OpenClaim := { program := "ythhmnecnoojcpaa", sum := "86e581723aa9f60a72b7b0002e6373687c81da8971ef7c908851dd183067c61e", func := "gangway/gangwaylaw20.StatLengths", spec := "statLengths", unfollowed := true, recurses := true, apart := false }
def StatLengthsSaid : Prop := statLengthsRow.holds Try.pinned (OpenSpec.ofChange statLengthsSpec)

/-- ITS FALSE NEIGHBOUR: 'it returns false'. Refute it at one input. -/
def statLengthsWrong : ChangeSpec := { name := "statLengths", fn := fun _ => fun
  | [d] => { results := [.lit (.bool false)], args := [d] }
  | _ => none }
def StatLengthsWrongFalsely : Prop := statLengthsRow.holds Try.pinned (OpenSpec.ofChange statLengthsWrong)

/- THE SECOND FORM. 'bulk': how many values and letters a reading holds, each counted each time it is reached (what is shared counts as often as it is met; a slice's spare places count too). A statement '..UptoSaid' is the law's where the arguments, and the package variables that the reading takes, are together of bulk at most 1048576: NARROWER than '..Said'. Prove '..Said' where nothing that the law and all that it calls make is longer than what came in: it says more and counts as full. Else prove '..UptoSaid'. A law counts once. -/
mutual
def uptoBulk {H : Type} : DataW H → Nat
  | .lit (.string bytes) => bytes.length + 1
  | .lit _ => 1
  | .nil => 1
  | .ptr d => uptoBulk d + 1
  | .slice elems spare => uptoBulkAll elems + uptoBulkAll spare + 1
  | .agg parts => uptoBulkAll parts + 1
  | .iface _ d => uptoBulk d + 1
  | .map entries => uptoBulkEntries entries + 1
  | .held _ => 1
def uptoBulkAll {H : Type} : List (DataW H) → Nat
  | [] => 0
  | d :: r => uptoBulk d + uptoBulkAll r
def uptoBulkEntries {H : Type} : List (Lit × DataW H) → Nat
  | [] => 0
  | x :: r => uptoBulkEntry x + uptoBulkEntries r
def uptoBulkEntry {H : Type} : Lit × DataW H → Nat
  | (.string bytes, d) => bytes.length + uptoBulk d + 1
  | (_, d) => uptoBulk d + 1
 end
def uptoSmall : (H : Type) → List (DataW H) → Bool := fun _ ds => decide (uptoBulkAll ds ≤ 1048576)
def OpenSpec.upto (s : _root_.Go.ChangeSpec) : _root_.Go.OpenSpec := { _root_.Go.OpenSpec.ofChange s with cond := some uptoSmall }

/-- 'gangwaylaw20.StatEvents', WHERE WHAT IT READS IS OF BULK AT MOST 1048576: true; the input reads as it did. -/
def statEventsUptoRow : OpenClaim := { program := "ythhmnecnoojcpaa", sum := "86e581723aa9f60a72b7b0002e6373687c81da8971ef7c908851dd183067c61e", func := "gangway/gangwaylaw20.StatEvents", spec := "statEvents", unfollowed := true, recurses := true, apart := false, narrowed := true }
def StatEventsUptoSaid : Prop := statEventsUptoRow.holds Try.pinned (OpenSpec.upto statEventsSpec)

/-- 'gangwaylaw20.StatEntries', WHERE WHAT IT READS IS OF BULK AT MOST 1048576: true; the input reads as it did. -/
def statEntriesUptoRow : OpenClaim := { program := "ythhmnecnoojcpaa", sum := "86e581723aa9f60a72b7b0002e6373687c81da8971ef7c908851dd183067c61e", func := "gangway/gangwaylaw20.StatEntries", spec := "statEntries", unfollowed := true, recurses := true, apart := false, narrowed := true }
def StatEntriesUptoSaid : Prop := statEntriesUptoRow.holds Try.pinned (OpenSpec.upto statEntriesSpec)

/-- 'gangwaylaw20.StatSubs', WHERE WHAT IT READS IS OF BULK AT MOST 1048576: true; the input reads as it did. -/
def statSubsUptoRow : OpenClaim := { program := "ythhmnecnoojcpaa", sum := "86e581723aa9f60a72b7b0002e6373687c81da8971ef7c908851dd183067c61e", func := "gangway/gangwaylaw20.StatSubs", spec := "statSubs", unfollowed := true, recurses := true, apart := false, narrowed := true }
def StatSubsUptoSaid : Prop := statSubsUptoRow.holds Try.pinned (OpenSpec.upto statSubsSpec)

/-- 'gangwaylaw20.StatFds', WHERE WHAT IT READS IS OF BULK AT MOST 1048576: true; the input reads as it did. -/
def statFdsUptoRow : OpenClaim := { program := "ythhmnecnoojcpaa", sum := "86e581723aa9f60a72b7b0002e6373687c81da8971ef7c908851dd183067c61e", func := "gangway/gangwaylaw20.StatFds", spec := "statFds", unfollowed := true, recurses := true, apart := false, narrowed := true }
def StatFdsUptoSaid : Prop := statFdsUptoRow.holds Try.pinned (OpenSpec.upto statFdsSpec)

/-- 'gangwaylaw20.StatNodes', WHERE WHAT IT READS IS OF BULK AT MOST 1048576: true; the input reads as it did. -/
def statNodesUptoRow : OpenClaim := { program := "ythhmnecnoojcpaa", sum := "86e581723aa9f60a72b7b0002e6373687c81da8971ef7c908851dd183067c61e", func := "gangway/gangwaylaw20.StatNodes", spec := "statNodes", unfollowed := true, recurses := true, apart := false, narrowed := true }
def StatNodesUptoSaid : Prop := statNodesUptoRow.holds Try.pinned (OpenSpec.upto statNodesSpec)

/-- 'gangwaylaw20.StatExact', WHERE WHAT IT READS IS OF BULK AT MOST 1048576: true; the input reads as it did. -/
def statExactUptoRow : OpenClaim := { program := "ythhmnecnoojcpaa", sum := "86e581723aa9f60a72b7b0002e6373687c81da8971ef7c908851dd183067c61e", func := "gangway/gangwaylaw20.StatExact", spec := "statExact", unfollowed := true, recurses := true, apart := false, narrowed := true }
def StatExactUptoSaid : Prop := statExactUptoRow.holds Try.pinned (OpenSpec.upto statExactSpec)

/-- 'gangwaylaw20.StatLengths', WHERE WHAT IT READS IS OF BULK AT MOST 1048576: true; the input reads as it did. -/
def statLengthsUptoRow : OpenClaim := { program := "ythhmnecnoojcpaa", sum := "86e581723aa9f60a72b7b0002e6373687c81da8971ef7c908851dd183067c61e", func := "gangway/gangwaylaw20.StatLengths", spec := "statLengths", unfollowed := true, recurses := true, apart := false, narrowed := true }
def StatLengthsUptoSaid : Prop := statLengthsUptoRow.holds Try.pinned (OpenSpec.upto statLengthsSpec)

end Rows
end Go.Proofs.Ythhmnecnoojcpaa
