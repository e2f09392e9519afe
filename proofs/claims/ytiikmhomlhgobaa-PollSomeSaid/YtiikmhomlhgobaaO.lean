import Derived.Test.YtiikmhomlhgobaaU
import Derived.Test.YtiikmhomlhgobaaD18
import Derived.Test.YtiikmhomlhgobaaOpn
import Derived.Test.YtiikmhomlhgobaaWFoot
set_option linter.unusedVariables false
namespace Go.Proofs.Ytiikmhomlhgobaa.Den
open Go Go.Proofs.YtiikmhomlhgobaaM Go.Proofs.YtiikmhomlhgobaaM.Tys Go.Proofs.YtiikmhomlhgobaaM.Tab
open Go.RowKit Go.Proofs.YtiikmhomlhgobaaW.PrintWords Go.Proofs.YtiikmhomlhgobaaM.Kds
theorem op40 (W : World) : Go.Proofs.YtiikmhomlhgobaaO.Opens Try.prog W 40 c40.kd ok_api_Sub :=
  Go.Proofs.YtiikmhomlhgobaaO.opens_iso (Go.Proofs.YtiikmhomlhgobaaO.opens_struct Try.underlying40 (by kernel_rfl) (Go.Proofs.YtiikmhomlhgobaaO.fields_cons (by kernel_rfl) (by kernel_rfl) (Go.Proofs.YtiikmhomlhgobaaO.opens_int Try.underlying2) (Go.Proofs.YtiikmhomlhgobaaO.fields_cons (by kernel_rfl) (by kernel_rfl) (Go.Proofs.YtiikmhomlhgobaaO.opens_int Try.underlying3) (Go.Proofs.YtiikmhomlhgobaaO.fields_cons (by kernel_rfl) (by kernel_rfl) (Go.Proofs.YtiikmhomlhgobaaO.opens_int Try.underlying3) (Go.Proofs.YtiikmhomlhgobaaO.fields_cons (by kernel_rfl) (by kernel_rfl) (Go.Proofs.YtiikmhomlhgobaaO.opens_int Try.underlying2) (Go.Proofs.YtiikmhomlhgobaaO.fields_last (by kernel_rfl) (by kernel_rfl) (Go.Proofs.YtiikmhomlhgobaaO.opens_bool Try.underlying4))))))) _ (fun p => ⟨p.1, p.2.1, p.2.2.1, p.2.2.2.1, p.2.2.2.2⟩) (fun _ => rfl)
theorem hp40 : Kd.Heap c40.kd := Kd.heap_iso _ (Kd.heap_pair (Kd.heap_int _) (Kd.heap_pair (Kd.heap_int _) (Kd.heap_pair (Kd.heap_int _) (Kd.heap_pair (Kd.heap_int _) Kd.heap_bool))))
theorem op42 (W : World) : Go.Proofs.YtiikmhomlhgobaaO.Opens Try.prog W 42 c42.kd ok_api_Event :=
  Go.Proofs.YtiikmhomlhgobaaO.opens_iso (Go.Proofs.YtiikmhomlhgobaaO.opens_struct Try.underlying42 (by kernel_rfl) (Go.Proofs.YtiikmhomlhgobaaO.fields_cons (by kernel_rfl) (by kernel_rfl) (Go.Proofs.YtiikmhomlhgobaaO.opens_int Try.underlying2) (Go.Proofs.YtiikmhomlhgobaaO.fields_cons (by kernel_rfl) (by kernel_rfl) (Go.Proofs.YtiikmhomlhgobaaO.opens_int Try.underlying31) (Go.Proofs.YtiikmhomlhgobaaO.fields_cons (by kernel_rfl) (by kernel_rfl) (Go.Proofs.YtiikmhomlhgobaaO.opens_int Try.underlying3) (Go.Proofs.YtiikmhomlhgobaaO.fields_last (by kernel_rfl) (by kernel_rfl) (Go.Proofs.YtiikmhomlhgobaaO.opens_int Try.underlying2)))))) _ (fun p => ⟨p.1, p.2.1, p.2.2.1, p.2.2.2⟩) (fun _ => rfl)
theorem hp42 : Kd.Heap c42.kd := Kd.heap_iso _ (Kd.heap_pair (Kd.heap_int _) (Kd.heap_pair (Kd.heap_int _) (Kd.heap_pair (Kd.heap_int _) (Kd.heap_int _))))
theorem op26 (W : World) : Go.Proofs.YtiikmhomlhgobaaO.Opens Try.prog W 26 c26.kd ok_gangwaylaw24_Ask :=
  Go.Proofs.YtiikmhomlhgobaaO.opens_iso (Go.Proofs.YtiikmhomlhgobaaO.opens_struct Try.underlying26 (by kernel_rfl) (Go.Proofs.YtiikmhomlhgobaaO.fields_cons (by kernel_rfl) (by kernel_rfl) (Go.Proofs.YtiikmhomlhgobaaO.opens_slice (B := 40) Try.underlying23 (by kernel_rfl) (by kernel_rfl) (op40 W)) (Go.Proofs.YtiikmhomlhgobaaO.fields_cons (by kernel_rfl) (by kernel_rfl) (Go.Proofs.YtiikmhomlhgobaaO.opens_int Try.underlying2) (Go.Proofs.YtiikmhomlhgobaaO.fields_last (by kernel_rfl) (by kernel_rfl) (Go.Proofs.YtiikmhomlhgobaaO.opens_slice (B := 32) Try.underlying24 (by kernel_rfl) (by kernel_rfl) (op42 W)))))) _ (fun p => ⟨p.1, p.2.1, p.2.2⟩) (fun _ => rfl)
theorem hp26 : Kd.Heap c26.kd := Kd.heap_iso _ (Kd.heap_pair (Kd.heap_slice 40 hp40) (Kd.heap_pair (Kd.heap_int _) (Kd.heap_slice 42 hp42)))
end Go.Proofs.Ytiikmhomlhgobaa.Den
