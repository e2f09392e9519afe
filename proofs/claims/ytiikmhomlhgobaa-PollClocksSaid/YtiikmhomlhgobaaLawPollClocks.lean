/- The law PollClocks answers true for every input that its row lets in, and its arguments read behind the call as before. Conditions: those of the given row alone. -/
import Derived.Test.YtiikmhomlhgobaaRows
import Derived.Test.YtiikmhomlhgobaaK
import Derived.Test.YtiikmhomlhgobaaO
import Derived.Test.YtiikmhomlhgobaaPurePollClocks
import Derived.Test.YtiikmhomlhgobaaD18
import Derived.WalkKit
import Derived.ProofKit
import Derived.OpenShut
import Derived.ShutString
import Derived.ChangeOld
import Derived.Below
import Derived.SizedLaws
namespace Go.Proofs.Ytiikmhomlhgobaa.pollClocks
open Go.ChangeShapes Go.WideShapes Go.ChangeAt Go.RowKit Go.Proofs.YtiikmhomlhgobaaW.PrintWords Go.Proofs.YtiikmhomlhgobaaM Go.Proofs.Ytiikmhomlhgobaa.Den
open Go.ChangeMaps (open_string shut_string)
set_option linter.unusedVariables false
theorem own : ownKnob Try.prog.godebug = none := by kernel_rfl
theorem laidOut : laidOutB Try.prog = true := by kernel_rfl
set_option maxRecDepth 100000 in
theorem lifted (os : Os) (started : os.Started) (H : Type) (enc : TypeId × Value → H) :
    ReturnsInHanded {} Try.checked os 5 .any (Rows.pollClocksSpec.pre6 enc Try.prog Try.f5 Rows.pollClocksRow.domain false) (Rows.pollClocksSpec.post enc Try.prog Try.f5 false true false false) := by
  refine returnsInHanded_of_change_sized (C := Try.checked) own started (by kernel_rfl) Try.func5
    (ChangeSpec.witness6 (enc := enc) (C := Try.checked) false ⟨#[], #[.slice none 0 0], []⟩ 8 (by kernel_rfl) (by kernel_rfl) (by kernel_rfl) (by kernel_rfl)) ?_
  intro W base args ds gs before hval0 hW hcnd hsz0 _
  have hsz : (DataW.weightsEach Try.prog (Try.f5.params.toList ++ Rows.pollClocksSpec.plain.varTypes Try.prog) (ds ++ gs)).all (· ≤ reachBytes) = true := hsz0
  have hval : ∀ (j : Nat) t v, Try.f5.params[j]? = some t → args[j]? = some v → Value.okWide Try.prog W .any base t v := hval0
  have hW' := hW
  obtain ⟨p, q, hA0, hV, rfl, hfz, hnd⟩ := hW
  have hA : DataW.TrodAll enc Try.prog W 0 (fun _ => true) true Try.f5.params.toList args.toList ds p := hA0
  rw [Try.params5] at hA hval hsz
  obtain ⟨v0, vs0, d0, ds0, p0, q0, hargs, rfl, rfl, h0, r0⟩ := trodAll_cons hA
  obtain ⟨rfl, rfl, rfl⟩ := trodAll_nil r0
  obtain rfl : args = #[v0] := by cases args; simp_all
  obtain ⟨rfl, rfl⟩ := trodVars_none hV
  have k0 := h0
  have lt0 : ∀ x ∈ p0, x.block < W.heap.size := by obtain ⟨m, hm⟩ := k0; exact DataW.trod_lt m _ _ _ hm
  obtain ⟨x0, hk0, ok0⟩ := Go.Proofs.YtiikmhomlhgobaaO.opens_arg (W := W) (Go.Proofs.YtiikmhomlhgobaaO.opens_slice (B := 56) Try.underlying22 (by kernel_rfl) (by kernel_rfl) (op26 W)) h0 (j := 0) hsz rfl rfl
  obtain ⟨a0, len0, cap0, rfl⟩ := okWide_slice Try.underlying22 (hval 0 22 v0 rfl rfl)
  clear hA0 hval0 hsz0 hsz
  obtain ⟨k, hp⟩ := pure_PollClocks x0 ok0
  have hA9 : ∀ E, RepL E 0 W (fun k => k < W.heap.size) (encL gangwaylaw24_PollClocks.ash (x0, ())) [(.slice a0 len0 cap0 : Value)] := fun E => ⟨.slice a0 len0 cap0, _, rfl, law_cell (a := Cod.list 26 (Kds.kd 26)) (Cod.list_ok 26) (Kd.heap_slice 26 hp26) rfl hk0 E, rfl⟩
  refine (law_walk (ash := gangwaylaw24_PollClocks.ash) (F := fun t => gangwaylaw24_PollClocks.f k t.1) (gangwaylaw24_PollClocks.ok k) (x0, ()) hp W _ hA9).mono fun e W' ⟨he, bel⟩ => ?_
  subst he
  exact ⟨_, rfl, _, _, _, [], _, [], hW', trodAll_mk1 (shut_bool Try.underlying4 _), (trodAll_cons_mk (Below.trod laidOut (by kernel_rfl) (of_decide_eq_true (by kernel_rfl)) k0 bel lt0) trodAll_mk0), rfl, bel.frame _, fun h => by cases h⟩
theorem over : Rows.pollClocksRow.holds Try.pinned (OpenSpec.ofChange Rows.pollClocksSpec) :=
  OpenClaim.holds_of_wide 5 Try.f5 rfl rfl rfl rfl rfl rfl rfl ⟨rfl, rfl, rfl, rfl, rfl⟩ rfl rfl rfl rfl rfl (by kernel_rfl) Try.func5 (by kernel_rfl)
    (of_decide_eq_true (by kernel_rfl)) (by unfold Func.isWrapper; first | (rw [if_pos (by decide +kernel)]; kernel_rfl) | (rw [if_neg (by decide +kernel)]; exact ⟨rfl, rfl⟩))
    (fun os started H enc _ => lifted os started H enc)
theorem proved : Rows.PollClocksSaid := over
#print axioms proved
end Go.Proofs.Ytiikmhomlhgobaa.pollClocks
namespace Go.Proofs.Ytiikmhomlhgobaa
/-- The row, under a short name, for the claim. -/
theorem pollClocks_holds : Rows.PollClocksSaid := pollClocks.proved
end Go.Proofs.Ytiikmhomlhgobaa
