/-
  No cell of these rows narrows 'for every input' (looked for: loops, veiled, ifaces, maps, wideKeys, modest, calm, conditions, laid).
  DERIVED. THE GIVEN ROWS OF THIS SEAT. 3 by the template 'for every input the law returns true; each argument reads behind the call as it read before'; 0 by the template 'total and deterministic' (their statements: YtpaodfhhnhbacaaTotals.lean).
  GIVEN WITH THE SEED: the statements are not yours to turn. If you find one false, say at which input.
  Laid BY PROGRAM, IN A SANDBOX (cutbox-rows.mjs): the forced cells as the released guide's own fill.sh prints them over the translation b29bbb543b257ddb… (all of the seat's roots in one cut). By AI agents, Wed Nov 11 2026. No macro, syntax, notation, axiom, sorry.
-/
import Derived.Test.YtpaodfhhnhbacaaChecked
import GoSem.Claim
import GoSem.ClaimJoined
import GoSem.ClaimMapViews
import Derived.JoinedTies
import Derived.KernelRfl
namespace Go.Proofs.Ytpaodfhhnhbacaa
/- THE CELL 'sum', in the pinned program and in every row, IS THE sha256 OF THE DUMP (.gsa) THAT YtpaodfhhnhbacaaProg.lean LOADS. Nothing in Lean hashes anything: it is a label: what it is worth is what the hold of that sum in a sandbox is worth. -/
noncomputable def Try.pinned : Pinned := { name := "ytpaodfhhnhbacaa", sum := "b29bbb543b257ddbafd7a587ceaa70f5f3d1623f93910921b1fb59d49e127577", checked := Try.checked }
namespace Rows
def none {H : Type} : Left H := { results := [], args := [] }

/-- 'gangwaylaw22.EnvSizes': WHATEVER THE INPUT: true; the input reads as it did. -/
def envSizesSpec : ChangeSpec := { name := "envSizes", fn := fun _ => fun
  | [d] => { results := [.lit (.bool true)], args := [d] }
  | _ => none }
def envSizesRow : OpenClaim := { program := "ytpaodfhhnhbacaa", sum := "b29bbb543b257ddbafd7a587ceaa70f5f3d1623f93910921b1fb59d49e127577", func := "gangway/gangwaylaw22.EnvSizes", spec := "envSizes", inPlace := ["internal/bytealg.IndexByteString"], apart := false }
def EnvSizesSaid : Prop := envSizesRow.holds Try.pinned (OpenSpec.ofChange envSizesSpec)

/-- ITS FALSE NEIGHBOUR: 'it returns false'. Refute it at one input. -/
def envSizesWrong : ChangeSpec := { name := "envSizes", fn := fun _ => fun
  | [d] => { results := [.lit (.bool false)], args := [d] }
  | _ => none }
def EnvSizesWrongFalsely : Prop := envSizesRow.holds Try.pinned (OpenSpec.ofChange envSizesWrong)

/-- 'gangwaylaw22.EnvExact': WHATEVER THE INPUT: true; the input reads as it did. -/
def envExactSpec : ChangeSpec := { name := "envExact", fn := fun _ => fun
  | [d] => { results := [.lit (.bool true)], args := [d] }
  | _ => none }
def envExactRow : OpenClaim := { program := "ytpaodfhhnhbacaa", sum := "b29bbb543b257ddbafd7a587ceaa70f5f3d1623f93910921b1fb59d49e127577", func := "gangway/gangwaylaw22.EnvExact", spec := "envExact", inPlace := ["internal/bytealg.IndexByteString"], unfollowed := true, recurses := true, apart := false }
def EnvExactSaid : Prop := envExactRow.holds Try.pinned (OpenSpec.ofChange envExactSpec)

/-- ITS FALSE NEIGHBOUR: 'it returns false'. Refute it at one input. -/
def envExactWrong : ChangeSpec := { name := "envExact", fn := fun _ => fun
  | [d] => { results := [.lit (.bool false)], args := [d] }
  | _ => none }
def EnvExactWrongFalsely : Prop := envExactRow.holds Try.pinned (OpenSpec.ofChange envExactWrong)

/-- 'gangwaylaw22.EnvBack': WHATEVER THE INPUT: true; the input reads as it did. -/
def envBackSpec : ChangeSpec := { name := "envBack", fn := fun _ => fun
  | [d] => { results := [.lit (.bool true)], args := [d] }
  | _ => none }
def envBackRow : OpenClaim := { program := "ytpaodfhhnhbacaa", sum := "b29bbb543b257ddbafd7a587ceaa70f5f3d1623f93910921b1fb59d49e127577", func := "gangway/gangwaylaw22.EnvBack", spec := "envBack", inPlace := ["internal/bytealg.IndexByteString"], unfollowed := true, recurses := true, apart := false }
def EnvBackSaid : Prop := envBackRow.holds Try.pinned (OpenSpec.ofChange envBackSpec)

/-- ITS FALSE NEIGHBOUR: 'it returns false'. Refute it at one input. -/
def envBackWrong : ChangeSpec := { name := "envBack", fn := fun _ => fun
  | [d] => { results := [.lit (.bool false)], args := [d] }
  | _ => none }
def EnvBackWrongFalsely : Prop := envBackRow.holds Try.pinned (OpenSpec.ofChange envBackWrong)

/- THE SECOND FORM. 'bulk': how many values and letters a reading holds, each counted each time it is reached (what is shared counts as often as it is met; a slice's spare places count too). A statement '..UptoSaid' is the law's where the arguments, and the package variables that the reading takes, are together of bulk at most 1048576: NARROWER than '..Said'. Prove '..Said' where nothing that the law and all that it calls make is longer than what came in: it says more and counts as full. Else prove '..UptoSaid'. A law counts once. -/
mutual
def uptoBulk {H : Type} : DataW H → Nat
  | .lit (.string bytes) => bytes.length + 1
  | .lit _ => 1
  | .nil => 1
  | .ptr d => uptoBulk d + 1
  | .slice elems spare => uptoBulkAll elems + uptoBulkAll spare + 1
  | .agg parts => uptoBulkAll parts + 1
  | .iface _ d => uptoBulk d + 1
  | .map entries => uptoBulkEntries entries + 1
  | .held _ => 1
def uptoBulkAll {H : Type} : List (DataW H) → Nat
  | [] => 0
  | d :: r => uptoBulk d + uptoBulkAll r
def uptoBulkEntries {H : Type} : List (Lit × DataW H) → Nat
  | [] => 0
  | x :: r => uptoBulkEntry x + uptoBulkEntries r
def uptoBulkEntry {H : Type} : Lit × DataW H → Nat
  | (.string bytes, d) => bytes.length + uptoBulk d + 1
  | (_, d) => uptoBulk d + 1
 end
def uptoSmall : (H : Type) → List (DataW H) → Bool := fun _ ds => decide (uptoBulkAll ds ≤ 1048576)
def OpenSpec.upto (s : _root_.Go.ChangeSpec) : _root_.Go.OpenSpec := { _root_.Go.OpenSpec.ofChange s with cond := some uptoSmall }

/-- 'gangwaylaw22.EnvSizes', WHERE WHAT IT READS IS OF BULK AT MOST 1048576: true; the input reads as it did. -/
def envSizesUptoRow : OpenClaim := { program := "ytpaodfhhnhbacaa", sum := "b29bbb543b257ddbafd7a587ceaa70f5f3d1623f93910921b1fb59d49e127577", func := "gangway/gangwaylaw22.EnvSizes", spec := "envSizes", inPlace := ["internal/bytealg.IndexByteString"], apart := false, narrowed := true }
def EnvSizesUptoSaid : Prop := envSizesUptoRow.holds Try.pinned (OpenSpec.upto envSizesSpec)

/-- 'gangwaylaw22.EnvExact', WHERE WHAT IT READS IS OF BULK AT MOST 1048576: true; the input reads as it did. -/
def envExactUptoRow : OpenClaim := { program := "ytpaodfhhnhbacaa", sum := "b29bbb543b257ddbafd7a587ceaa70f5f3d1623f93910921b1fb59d49e127577", func := "gangway/gangwaylaw22.EnvExact", spec := "envExact", inPlace := ["internal/bytealg.IndexByteString"], unfollowed := true, recurses := true, apart := false, narrowed := true }
def EnvExactUptoSaid : Prop := envExactUptoRow.holds Try.pinned (OpenSpec.upto envExactSpec)

/-- 'gangwaylaw22.EnvBack', WHERE WHAT IT READS IS OF BULK AT MOST 1048576: true; the input reads as it did. -/
def envBackUptoRow : OpenClaim := { program := "ytpaodfhhnhbacaa", sum := "b29bbb543b257ddbafd7a587ceaa70f5f3d1623f93910921b1fb59d49e127577", func := "gangway/gangwaylaw22.EnvBack", spec := "envBack", inPlace := ["internal/bytealg.IndexByteString"], unfollowed := true, recurses := true, apart := false, narrowed := true }
def EnvBackUptoSaid : Prop := envBackUptoRow.holds Try.pinned (OpenSpec.upto envBackSpec)

end Rows
end Go.Proofs.Ytpaodfhhnhbacaa
