/- The law BodyOps answers true for every input that its row lets in, and its arguments read behind the call as before. Conditions: those of the given row alone. -/
import Derived.Test.YtnlnjcgoodgmbaaRows
import Derived.Test.YtnlnjcgoodgmbaaK2
import Derived.Test.YtnlnjcgoodgmbaaO
import Derived.Test.YtnlnjcgoodgmbaaPureBodyOps
import Derived.Test.YtnlnjcgoodgmbaaD18
import Derived.WalkKit
import Derived.ProofKit
import Derived.OpenShut
import Derived.ShutString
import Derived.ChangeOld
import Derived.Below
import Derived.SizedLaws
namespace Go.Proofs.Ytnlnjcgoodgmbaa.bodyOps
open Go.ChangeShapes Go.WideShapes Go.ChangeAt Go.RowKit Go.Proofs.YtnlnjcgoodgmbaaW.PrintWords Go.Proofs.YtnlnjcgoodgmbaaM Go.Proofs.Ytnlnjcgoodgmbaa.Den
open Go.ChangeMaps (open_string shut_string)
set_option linter.unusedVariables false
theorem own : ownKnob Try.prog.godebug = none := by kernel_rfl
theorem laidOut : laidOutB Try.prog = true := by kernel_rfl
set_option maxRecDepth 100000 in
theorem lifted (os : Os) (started : os.Started) (H : Type) (enc : TypeId × Value → H) :
    ReturnsInHanded {} Try.checked os 6 .any (Rows.bodyOpsSpec.pre6 enc Try.prog Try.f6 Rows.bodyOpsRow.domain false) (Rows.bodyOpsSpec.post enc Try.prog Try.f6 false true false false) := by
  refine returnsInHanded_of_change_sized (C := Try.checked) own started (by kernel_rfl) Try.func6
    (ChangeSpec.witness6 (enc := enc) (C := Try.checked) false ⟨#[], #[.slice none 0 0], []⟩ 8 (by kernel_rfl) (by kernel_rfl) (by kernel_rfl) (by kernel_rfl)) ?_
  intro W base args ds gs before hval0 hW hcnd hsz0 _
  have hsz : (DataW.weightsEach Try.prog (Try.f6.params.toList ++ Rows.bodyOpsSpec.plain.varTypes Try.prog) (ds ++ gs)).all (· ≤ reachBytes) = true := hsz0
  have hval : ∀ (j : Nat) t v, Try.f6.params[j]? = some t → args[j]? = some v → Value.okWide Try.prog W .any base t v := hval0
  have hW' := hW
  obtain ⟨p, q, hA0, hV, rfl, hfz, hnd⟩ := hW
  have hA : DataW.TrodAll enc Try.prog W 0 (fun _ => true) true Try.f6.params.toList args.toList ds p := hA0
  rw [Try.params6] at hA hval hsz
  obtain ⟨v0, vs0, d0, ds0, p0, q0, hargs, rfl, rfl, h0, r0⟩ := trodAll_cons hA
  obtain ⟨rfl, rfl, rfl⟩ := trodAll_nil r0
  obtain rfl : args = #[v0] := by cases args; simp_all
  obtain ⟨rfl, rfl⟩ := trodVars_none hV
  have k0 := h0
  have lt0 : ∀ x ∈ p0, x.block < W.heap.size := by obtain ⟨m, hm⟩ := k0; exact DataW.trod_lt m _ _ _ hm
  obtain ⟨x0, hk0, ok0⟩ := Go.Proofs.YtnlnjcgoodgmbaaO.opens_arg (W := W) (Go.Proofs.YtnlnjcgoodgmbaaO.opens_slice (B := 176) Try.underlying22 (by kernel_rfl) (by kernel_rfl) (op30 W)) h0 (j := 0) hsz rfl rfl
  obtain ⟨a0, len0, cap0, rfl⟩ := okWide_slice Try.underlying22 (hval 0 22 v0 rfl rfl)
  clear hA0 hval0 hsz0 hsz
  obtain ⟨k, hp⟩ := pure_BodyOps x0 ok0
  have hA9 : ∀ E, RepL E 0 W (fun k => k < W.heap.size) (encL gangwaylaw8_BodyOps.ash (x0, ())) [(.slice a0 len0 cap0 : Value)] := fun E => ⟨.slice a0 len0 cap0, _, rfl, law_cell (a := Cod.list 30 (Kds.kd 30)) (Cod.list_ok 30) (Kd.heap_slice 30 hp30) rfl hk0 E, rfl⟩
  refine (law_walk (ash := gangwaylaw8_BodyOps.ash) (F := fun t => gangwaylaw8_BodyOps.f k t.1) (gangwaylaw8_BodyOps.ok k) (x0, ()) hp W _ hA9).mono fun e W' ⟨he, bel⟩ => ?_
  subst he
  exact ⟨_, rfl, _, _, _, [], _, [], hW', trodAll_mk1 (shut_bool Try.underlying4 _), (trodAll_cons_mk (Below.trod laidOut (by kernel_rfl) (of_decide_eq_true (by kernel_rfl)) k0 bel lt0) trodAll_mk0), rfl, bel.frame _, fun h => by cases h⟩
theorem over : Rows.bodyOpsRow.holds Try.pinned (OpenSpec.ofChange Rows.bodyOpsSpec) :=
  OpenClaim.holds_of_wide 6 Try.f6 rfl rfl rfl rfl rfl rfl rfl ⟨rfl, rfl, rfl, rfl, rfl⟩ rfl rfl rfl rfl rfl (by kernel_rfl) Try.func6 (by kernel_rfl)
    (of_decide_eq_true (by kernel_rfl)) (by unfold Func.isWrapper; first | (rw [if_pos (by decide +kernel)]; kernel_rfl) | (rw [if_neg (by decide +kernel)]; exact ⟨rfl, rfl⟩))
    (fun os started H enc _ => lifted os started H enc)
theorem proved : Rows.BodyOpsSaid := over
#print axioms proved
end Go.Proofs.Ytnlnjcgoodgmbaa.bodyOps
namespace Go.Proofs.Ytnlnjcgoodgmbaa
/-- The row, under a short name, for the claim. -/
theorem bodyOps_holds : Rows.BodyOpsSaid := bodyOps.proved
end Go.Proofs.Ytnlnjcgoodgmbaa
