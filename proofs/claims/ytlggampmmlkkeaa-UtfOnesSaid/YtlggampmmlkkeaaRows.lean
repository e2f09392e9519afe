/-
  No cell of these rows narrows 'for every input' (looked for: loops, veiled, ifaces, maps, wideKeys, modest, calm, conditions, laid).
  DERIVED. THE GIVEN ROWS OF THIS SEAT. 4 by the template 'for every input the law returns true; each argument reads behind the call as it read before'; 0 by the template 'total and deterministic' (their statements: YtlggampmmlkkeaaTotals.lean).
  GIVEN WITH THE SEED: the statements are not yours to turn. If you find one false, say at which input.
  Laid BY PROGRAM, IN A SANDBOX (cutbox-rows.mjs): the forced cells as the released guide's own fill.sh prints them over the translation 81eadad15bdacd09… (all of the seat's roots in one cut). By AI agents, Wed Nov 11 2026. No macro, syntax, notation, axiom, sorry.
-/
import Derived.Test.YtlggampmmlkkeaaChecked
import GoSem.Claim
import GoSem.ClaimJoined
import GoSem.ClaimMapViews
import Derived.JoinedTies
import Derived.KernelRfl
namespace Go.Proofs.Ytlggampmmlkkeaa
/- THE CELL 'sum', in the pinned program and in every row, IS THE sha256 OF THE DUMP (.gsa) THAT YtlggampmmlkkeaaProg.lean LOADS. Nothing in Lean hashes anything: it is a label: what it is worth is what the hold of that sum in a sandbox is worth. -/
noncomputable def Try.pinned : Pinned := { name := "ytlggampmmlkkeaa", sum := "81eadad15bdacd09fbaa7ebcc121f8185004a1dfa92cc7eac773a5fdbaf1629e", checked := Try.checked }
namespace Rows
def none {H : Type} : Left H := { results := [], args := [] }

/-- 'gangwaylaw2.UtfPoints': WHATEVER THE INPUT: true; the input reads as it did. -/
def utfPointsSpec : ChangeSpec := { name := "utfPoints", fn := fun _ => fun
  | [d] => { results := [.lit (.bool true)], args := [d] }
  | _ => none }
def utfPointsRow : OpenClaim := { program := "ytlggampmmlkkeaa", sum := "81eadad15bdacd09fbaa7ebcc121f8185004a1dfa92cc7eac773a5fdbaf1629e", func := "gangway/gangwaylaw2.UtfPoints", spec := "utfPoints", unfollowed := true, recurses := true, apart := false }
def UtfPointsSaid : Prop := utfPointsRow.holds Try.pinned (OpenSpec.ofChange utfPointsSpec)

/-- ITS FALSE NEIGHBOUR: 'it returns false'. Refute it at one input. -/
def utfPointsWrong : ChangeSpec := { name := "utfPoints", fn := fun _ => fun
  | [d] => { results := [.lit (.bool false)], args := [d] }
  | _ => none }
def UtfPointsWrongFalsely : Prop := utfPointsRow.holds Try.pinned (OpenSpec.ofChange utfPointsWrong)

/-- 'gangwaylaw2.UtfBytes': WHATEVER THE INPUT: true; the input reads as it did. -/
def utfBytesSpec : ChangeSpec := { name := "utfBytes", fn := fun _ => fun
  | [d] => { results := [.lit (.bool true)], args := [d] }
  | _ => none }
def utfBytesRow : OpenClaim := { program := "ytlggampmmlkkeaa", sum := "81eadad15bdacd09fbaa7ebcc121f8185004a1dfa92cc7eac773a5fdbaf1629e", func := "gangway/gangwaylaw2.UtfBytes", spec := "utfBytes", unfollowed := true, recurses := true, apart := false }
def UtfBytesSaid : Prop := utfBytesRow.holds Try.pinned (OpenSpec.ofChange utfBytesSpec)

/-- ITS FALSE NEIGHBOUR: 'it returns false'. Refute it at one input. -/
def utfBytesWrong : ChangeSpec := { name := "utfBytes", fn := fun _ => fun
  | [d] => { results := [.lit (.bool false)], args := [d] }
  | _ => none }
def UtfBytesWrongFalsely : Prop := utfBytesRow.holds Try.pinned (OpenSpec.ofChange utfBytesWrong)

/-- 'gangwaylaw2.UtfBack': WHATEVER THE INPUT: true; the input reads as it did. -/
def utfBackSpec : ChangeSpec := { name := "utfBack", fn := fun _ => fun
  | [d] => { results := [.lit (.bool true)], args := [d] }
  | _ => none }
def utfBackRow : OpenClaim := { program := "ytlggampmmlkkeaa", sum := "81eadad15bdacd09fbaa7ebcc121f8185004a1dfa92cc7eac773a5fdbaf1629e", func := "gangway/gangwaylaw2.UtfBack", spec := "utfBack", unfollowed := true, recurses := true, apart := false }
def UtfBackSaid : Prop := utfBackRow.holds Try.pinned (OpenSpec.ofChange utfBackSpec)

/-- ITS FALSE NEIGHBOUR: 'it returns false'. Refute it at one input. -/
def utfBackWrong : ChangeSpec := { name := "utfBack", fn := fun _ => fun
  | [d] => { results := [.lit (.bool false)], args := [d] }
  | _ => none }
def UtfBackWrongFalsely : Prop := utfBackRow.holds Try.pinned (OpenSpec.ofChange utfBackWrong)

/-- 'gangwaylaw2.UtfOnes': WHATEVER THE INPUT: true; the input reads as it did. -/
def utfOnesSpec : ChangeSpec := { name := "utfOnes", fn := fun _ => fun
  | [d] => { results := [.lit (.bool true)], args := [d] }
  | _ => none }
def utfOnesRow : OpenClaim := { program := "ytlggampmmlkkeaa", sum := "81eadad15bdacd09fbaa7ebcc121f8185004a1dfa92cc7eac773a5fdbaf1629e", func := "gangway/gangwaylaw2.UtfOnes", spec := "utfOnes", unfollowed := true, recurses := true, apart := false }
def UtfOnesSaid : Prop := utfOnesRow.holds Try.pinned (OpenSpec.ofChange utfOnesSpec)

/-- ITS FALSE NEIGHBOUR: 'it returns false'. Refute it at one input. -/
def utfOnesWrong : ChangeSpec := { name := "utfOnes", fn := fun _ => fun
  | [d] => { results := [.lit (.bool false)], args := [d] }
  | _ => none }
def UtfOnesWrongFalsely : Prop := utfOnesRow.holds Try.pinned (OpenSpec.ofChange utfOnesWrong)

/- THE SECOND FORM. 'bulk': how many values and letters a reading holds, each counted each time it is reached (what is shared counts as often as it is met; a slice's spare places count too). A statement '..UptoSaid' is the law's where the arguments, and the package variables that the reading takes, are together of bulk at most 1048576: NARROWER than '..Said'. Prove '..Said' where nothing that the law and all that it calls make is longer than what came in: it says more and counts as full. Else prove '..UptoSaid'. A law counts once. -/
mutual
def uptoBulk {H : Type} : DataW H → Nat
  | .lit (.string bytes) => bytes.length + 1
  | .lit _ => 1
  | .nil => 1
  | .ptr d => uptoBulk d + 1
  | .slice elems spare => uptoBulkAll elems + uptoBulkAll spare + 1
  | .agg parts => uptoBulkAll parts + 1
  | .iface _ d => uptoBulk d + 1
  | .map entries => uptoBulkEntries entries + 1
  | .held _ => 1
def uptoBulkAll {H : Type} : List (DataW H) → Nat
  | [] => 0
  | d :: r => uptoBulk d + uptoBulkAll r
def uptoBulkEntries {H : Type} : List (Lit × DataW H) → Nat
  | [] => 0
  | x :: r => uptoBulkEntry x + uptoBulkEntries r
def uptoBulkEntry {H : Type} : Lit × DataW H → Nat
  | (.string bytes, d) => bytes.length + uptoBulk d + 1
  | (_, d) => uptoBulk d + 1
 end
def uptoSmall : (H : Type) → List (DataW H) → Bool := fun _ ds => decide (uptoBulkAll ds ≤ 1048576)
def OpenSpec.upto (s : _root_.Go.ChangeSpec) : _root_.Go.OpenSpec := { _root_.Go.OpenSpec.ofChange s with cond := some uptoSmall }

/-- 'gangwaylaw2.UtfPoints', WHERE WHAT IT READS IS OF BULK AT MOST 1048576: true; the input reads as it did. -/
def utfPointsUptoRow : OpenClaim := { program := "ytlggampmmlkkeaa", sum := "81eadad15bdacd09fbaa7ebcc121f8185004a1dfa92cc7eac773a5fdbaf1629e", func := "gangway/gangwaylaw2.UtfPoints", spec := "utfPoints", unfollowed := true, recurses := true, apart := false, narrowed := true }
def UtfPointsUptoSaid : Prop := utfPointsUptoRow.holds Try.pinned (OpenSpec.upto utfPointsSpec)

/-- 'gangwaylaw2.UtfBytes', WHERE WHAT IT READS IS OF BULK AT MOST 1048576: true; the input reads as it did. -/
def utfBytesUptoRow : OpenClaim := { program := "ytlggampmmlkkeaa", sum := "81eadad15bdacd09fbaa7ebcc121f8185004a1dfa92cc7eac773a5fdbaf1629e", func := "gangway/gangwaylaw2.UtfBytes", spec := "utfBytes", unfollowed := true, recurses := true, apart := false, narrowed := true }
def UtfBytesUptoSaid : Prop := utfBytesUptoRow.holds Try.pinned (OpenSpec.upto utfBytesSpec)

/-- 'gangwaylaw2.UtfBack', WHERE WHAT IT READS IS OF BULK AT MOST 1048576: true; the input reads as it did. -/
def utfBackUptoRow : OpenClaim := { program := "ytlggampmmlkkeaa", sum := "81eadad15bdacd09fbaa7ebcc121f8185004a1dfa92cc7eac773a5fdbaf1629e", func := "gangway/gangwaylaw2.UtfBack", spec := "utfBack", unfollowed := true, recurses := true, apart := false, narrowed := true }
def UtfBackUptoSaid : Prop := utfBackUptoRow.holds Try.pinned (OpenSpec.upto utfBackSpec)

/-- 'gangwaylaw2.UtfOnes', WHERE WHAT IT READS IS OF BULK AT MOST 1048576: true; the input reads as it did. -/
def utfOnesUptoRow : OpenClaim := { program := "ytlggampmmlkkeaa", sum := "81eadad15bdacd09fbaa7ebcc121f8185004a1dfa92cc7eac773a5fdbaf1629e", func := "gangway/gangwaylaw2.UtfOnes", spec := "utfOnes", unfollowed := true, recurses := true, apart := false, narrowed := true }
def UtfOnesUptoSaid : Prop := utfOnesUptoRow.holds Try.pinned (OpenSpec.upto utfOnesSpec)

end Rows
end Go.Proofs.Ytlggampmmlkkeaa
