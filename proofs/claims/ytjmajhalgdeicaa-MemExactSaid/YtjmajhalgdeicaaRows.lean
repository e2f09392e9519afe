/-
  No cell of these rows narrows 'for every input' (looked for: loops, veiled, ifaces, maps, wideKeys, modest, calm, conditions, laid).
  DERIVED. THE GIVEN ROWS OF THIS SEAT. 4 by the template 'for every input the law returns true; each argument reads behind the call as it read before'; 0 by the template 'total and deterministic' (their statements: YtjmajhalgdeicaaTotals.lean).
  GIVEN WITH THE SEED: the statements are not yours to turn. If you find one false, say at which input.
  Laid BY PROGRAM, IN A SANDBOX (cutbox-rows.mjs): the forced cells as the released guide's own fill.sh prints them over the translation 39a9cbbcbe41139e… (all of the seat's roots in one cut). By AI agents, Wed Nov 11 2026. No macro, syntax, notation, axiom, sorry.
-/
import Derived.Test.YtjmajhalgdeicaaChecked
import GoSem.Claim
import GoSem.ClaimJoined
import GoSem.ClaimMapViews
import Derived.JoinedTies
import Derived.KernelRfl
namespace Go.Proofs.Ytjmajhalgdeicaa
/- THE CELL 'sum', in the pinned program and in every row, IS THE sha256 OF THE DUMP (.gsa) THAT YtjmajhalgdeicaaProg.lean LOADS. Nothing in Lean hashes anything: it is a label: what it is worth is what the hold of that sum in a sandbox is worth. -/
noncomputable def Try.pinned : Pinned := { name := "ytjmajhalgdeicaa", sum := "39a9cbbcbe41139ed58b93c241cafd0a57446752cbdee623859cc6492c6d7d09", checked := Try.checked }
namespace Rows
def none {H : Type} : Left H := { results := [], args := [] }

/-- 'gangwaylaw9.MemGrows': WHATEVER THE INPUT: true; the input reads as it did. -/
def memGrowsSpec : ChangeSpec := { name := "memGrows", fn := fun _ => fun
  | [d] => { results := [.lit (.bool true)], args := [d] }
  | _ => none }
def memGrowsRow : OpenClaim := { program := "ytjmajhalgdeicaa", sum := "39a9cbbcbe41139ed58b93c241cafd0a57446752cbdee623859cc6492c6d7d09", func := "gangway/gangwaylaw9.MemGrows", spec := "memGrows", unfollowed := true, recurses := true, apart := false }
def MemGrowsSaid : Prop := memGrowsRow.holds Try.pinned (OpenSpec.ofChange memGrowsSpec)

/-- ITS FALSE NEIGHBOUR: 'it returns false'. Refute it at one input. -/
def memGrowsWrong : ChangeSpec := { name := "memGrows", fn := fun _ => fun
  | [d] => { results := [.lit (.bool false)], args := [d] }
  | _ => none }
def MemGrowsWrongFalsely : Prop := memGrowsRow.holds Try.pinned (OpenSpec.ofChange memGrowsWrong)

/-- 'gangwaylaw9.MemBounds': WHATEVER THE INPUT: true; the input reads as it did. -/
def memBoundsSpec : ChangeSpec := { name := "memBounds", fn := fun _ => fun
  | [d] => { results := [.lit (.bool true)], args := [d] }
  | _ => none }
def memBoundsRow : OpenClaim := { program := "ytjmajhalgdeicaa", sum := "39a9cbbcbe41139ed58b93c241cafd0a57446752cbdee623859cc6492c6d7d09", func := "gangway/gangwaylaw9.MemBounds", spec := "memBounds", unfollowed := true, recurses := true, apart := false }
def MemBoundsSaid : Prop := memBoundsRow.holds Try.pinned (OpenSpec.ofChange memBoundsSpec)

/-- ITS FALSE NEIGHBOUR: 'it returns false'. Refute it at one input. -/
def memBoundsWrong : ChangeSpec := { name := "memBounds", fn := fun _ => fun
  | [d] => { results := [.lit (.bool false)], args := [d] }
  | _ => none }
def MemBoundsWrongFalsely : Prop := memBoundsRow.holds Try.pinned (OpenSpec.ofChange memBoundsWrong)

/-- 'gangwaylaw9.MemExact': WHATEVER THE INPUT: true; the input reads as it did. -/
def memExactSpec : ChangeSpec := { name := "memExact", fn := fun _ => fun
  | [d] => { results := [.lit (.bool true)], args := [d] }
  | _ => none }
def memExactRow : OpenClaim := { program := "ytjmajhalgdeicaa", sum := "39a9cbbcbe41139ed58b93c241cafd0a57446752cbdee623859cc6492c6d7d09", func := "gangway/gangwaylaw9.MemExact", spec := "memExact", unfollowed := true, recurses := true, apart := false }
def MemExactSaid : Prop := memExactRow.holds Try.pinned (OpenSpec.ofChange memExactSpec)

/-- ITS FALSE NEIGHBOUR: 'it returns false'. Refute it at one input. -/
def memExactWrong : ChangeSpec := { name := "memExact", fn := fun _ => fun
  | [d] => { results := [.lit (.bool false)], args := [d] }
  | _ => none }
def MemExactWrongFalsely : Prop := memExactRow.holds Try.pinned (OpenSpec.ofChange memExactWrong)

/-- 'gangwaylaw9.MemParts': WHATEVER THE INPUT: true; the input reads as it did. -/
def memPartsSpec : ChangeSpec := { name := "memParts", fn := fun _ => fun
  | [d] => { results := [.lit (.bool true)], args := [d] }
  | _ => none }
def memPartsRow : OpenClaim := { program := "ytjmajhalgdeicaa", sum := "39a9cbbcbe41139ed58b93c241cafd0a57446752cbdee623859cc6492c6d7d09", func := "gangway/gangwaylaw9.MemParts", spec := "memParts", unfollowed := true, recurses := true, apart := false }
def MemPartsSaid : Prop := memPartsRow.holds Try.pinned (OpenSpec.ofChange memPartsSpec)

/-- ITS FALSE NEIGHBOUR: 'it returns false'. Refute it at one input. -/
def memPartsWrong : ChangeSpec := { name := "memParts", fn := fun _ => fun
  | [d] => { results := [.lit (.bool false)], args := [d] }
  | _ => none }
def MemPartsWrongFalsely : Prop := memPartsRow.holds Try.pinned (OpenSpec.ofChange memPartsWrong)

/- THE SECOND FORM. 'bulk': how many values and letters a reading holds, each counted each time it is reached (what is shared counts as often as it is met; a slice's spare places count too). A statement '..UptoSaid' is the law's where the arguments, and the package variables that the reading takes, are together of bulk at most 1048576: NARROWER than '..Said'. Prove '..Said' where nothing that the law and all that it calls make is longer than what came in: it says more and counts as full. Else prove '..UptoSaid'. A law counts once. -/
mutual
def uptoBulk {H : Type} : DataW H → Nat
  | .lit (.string bytes) => bytes.length + 1
  | .lit _ => 1
  | .nil => 1
  | .ptr d => uptoBulk d + 1
  | .slice elems spare => uptoBulkAll elems + uptoBulkAll spare + 1
  | .agg parts => uptoBulkAll parts + 1
  | .iface _ d => uptoBulk d + 1
  | .map entries => uptoBulkEntries entries + 1
  | .held _ => 1
def uptoBulkAll {H : Type} : List (DataW H) → Nat
  | [] => 0
  | d :: r => uptoBulk d + uptoBulkAll r
def uptoBulkEntries {H : Type} : List (Lit × DataW H) → Nat
  | [] => 0
  | x :: r => uptoBulkEntry x + uptoBulkEntries r
def uptoBulkEntry {H : Type} : Lit × DataW H → Nat
  | (.string bytes, d) => bytes.length + uptoBulk d + 1
  | (_, d) => uptoBulk d + 1
 end
def uptoSmall : (H : Type) → List (DataW H) → Bool := fun _ ds => decide (uptoBulkAll ds ≤ 1048576)
def OpenSpec.upto (s : _root_.Go.ChangeSpec) : _root_.Go.OpenSpec := { _root_.Go.OpenSpec.ofChange s with cond := some uptoSmall }

/-- 'gangwaylaw9.MemGrows', WHERE WHAT IT READS IS OF BULK AT MOST 1048576: true; the input reads as it did. -/
def memGrowsUptoRow : OpenClaim := { program := "ytjmajhalgdeicaa", sum := "39a9cbbcbe41139ed58b93c241cafd0a57446752cbdee623859cc6492c6d7d09", func := "gangway/gangwaylaw9.MemGrows", spec := "memGrows", unfollowed := true, recurses := true, apart := false, narrowed := true }
def MemGrowsUptoSaid : Prop := memGrowsUptoRow.holds Try.pinned (OpenSpec.upto memGrowsSpec)

/-- 'gangwaylaw9.MemBounds', WHERE WHAT IT READS IS OF BULK AT MOST 1048576: true; the input reads as it did. -/
def memBoundsUptoRow : OpenClaim := { program := "ytjmajhalgdeicaa", sum := "39a9cbbcbe41139ed58b93c241cafd0a57446752cbdee623859cc6492c6d7d09", func := "gangway/gangwaylaw9.MemBounds", spec := "memBounds", unfollowed := true, recurses := true, apart := false, narrowed := true }
def MemBoundsUptoSaid : Prop := memBoundsUptoRow.holds Try.pinned (OpenSpec.upto memBoundsSpec)

/-- 'gangwaylaw9.MemExact', WHERE WHAT IT READS IS OF BULK AT MOST 1048576: true; the input reads as it did. -/
def memExactUptoRow : OpenClaim := { program := "ytjmajhalgdeicaa", sum := "39a9cbbcbe41139ed58b93c241cafd0a57446752cbdee623859cc6492c6d7d09", func := "gangway/gangwaylaw9.MemExact", spec := "memExact", unfollowed := true, recurses := true, apart := false, narrowed := true }
def MemExactUptoSaid : Prop := memExactUptoRow.holds Try.pinned (OpenSpec.upto memExactSpec)

/-- 'gangwaylaw9.MemParts', WHERE WHAT IT READS IS OF BULK AT MOST 1048576: true; the input reads as it did. -/
def memPartsUptoRow : OpenClaim := { program := "ytjmajhalgdeicaa", sum := "39a9cbbcbe41139ed58b93c241cafd0a57446752cbdee623859cc6492c6d7d09", func := "gangway/gangwaylaw9.MemParts", spec := "memParts", unfollowed := true, recurses := true, apart := false, narrowed := true }
def MemPartsUptoSaid : Prop := memPartsUptoRow.holds Try.pinned (OpenSpec.upto memPartsSpec)

end Rows
end Go.Proofs.Ytjmajhalgdeicaa
