import Derived.Test.YtiikmhomlhgobaaF
import Derived.Test.YtiikmhomlhgobaaU
set_option linter.unusedVariables false
namespace Go.Proofs.Ytiikmhomlhgobaa.Den
open Go Go.Proofs.YtiikmhomlhgobaaM Go.Proofs.YtiikmhomlhgobaaM.Tys Go.Proofs.YtiikmhomlhgobaaM.Tab
/-! ### gangway/gangwayref0.Time -/
def gangwayref0_Time.onR (ρ : Type) (r : gangwayref0_Time.R) (K : AV → List Ob → Option ρ) : Option ρ := K (.bo r) []
def gangwayref0_Time.rets : List (Ret gangwayref0_Time.R) := [⟨.bo, [], fun t u => t⟩]
def gangwayref0_Time.stps : List (Stp gangwayref0_Time.L) := []
def gangwayref0_Time.ash : List Sh := [.int .i64]
def gangwayref0_Time.aosh : List OSh := []
def gangwayref0_Time.cps (k : Nat) : Cps := cpsOf gangwayref0_Time.ash gangwayref0_Time.aosh (fun t u => gangwayref0_Time.f k t.1) gangwayref0_Time.onR
def gangwayref0_Time.tab (k : Nat) : List (Nat × Cps × List Bool) := []
def gangwayref0_Time.qtab (k : Nat) : List QEnt := []
theorem gangwayref0_Time.run (k : Nat) (t : TyL gangwayref0_Time.ash) (u : TyO gangwayref0_Time.aosh) : runF (orcL (gangwayref0_Time.tab k)) (orcQ (gangwayref0_Time.qtab k)) Try.f16 (liveS gangwayref0_Time.stps) 0 (stpJ (gangwayref0_Time.go k) gangwayref0_Time.stps) (retD gangwayref0_Time.rets) [.code (bodyOf Try.f16)] (mkS Try.f16.ntmps (upto 1) (encL gangwayref0_Time.ash t) (encO gangwayref0_Time.aosh u)) = gangwayref0_Time.f k t.1 := by kernel_rfl
theorem gangwayref0_Time.ok (k : Nat) : FOk Try.prog 16 (gangwayref0_Time.cps k) := fok (fn := Try.f16) (c := bodyOf Try.f16) (by kernel_rfl) (by kernel_rfl) (by kernel_rfl) (rets := gangwayref0_Time.rets) (onR := gangwayref0_Time.onR) (ash := gangwayref0_Time.ash) (aosh := gangwayref0_Time.aosh) (F := fun t u => gangwayref0_Time.f k t.1) (stps := gangwayref0_Time.stps) (go := gangwayref0_Time.go) (Ok := fun k => orcL (gangwayref0_Time.tab k)) (Qk := fun k => orcQ (gangwayref0_Time.qtab k))
  (List.forall_mem_cons.2 ⟨fun t u ρ K => rfl, List.forall_mem_nil _⟩) (by kernel_rfl) (by kernel_rfl) k (fun x => by cases x <;> rfl) (List.forall_mem_nil _)
  (List.forall_mem_nil _) (gangwayref0_Time.run k) (fun C k r => orcL_ok r C _ (List.forall_mem_nil _)) (fun k => orcQ_ok _ (List.forall_mem_nil _))
/-! ### gangway/gangwayref23.MayOrder -/
def gangwayref23_MayOrder.onR (ρ : Type) (r : gangwayref23_MayOrder.R) (K : AV → List Ob → Option ρ) : Option ρ := K (.bo r) []
def gangwayref23_MayOrder.rets : List (Ret gangwayref23_MayOrder.R) := [⟨.bo, [], fun t u => t⟩]
def gangwayref23_MayOrder.stps : List (Stp gangwayref23_MayOrder.L) := [⟨4, [0, 7], [.ro 40, .int .i64], [], fun t u => .s4 t.1 t.2.1⟩]
def gangwayref23_MayOrder.ash : List Sh := [.ro 40, .int .i64, .ro 42]
def gangwayref23_MayOrder.aosh : List OSh := []
def gangwayref23_MayOrder.cps (k : Nat) : Cps := cpsOf gangwayref23_MayOrder.ash gangwayref23_MayOrder.aosh (fun t u => gangwayref23_MayOrder.f k t.1 t.2.1 t.2.2.1) gangwayref23_MayOrder.onR
def gangwayref23_MayOrder.tab (k : Nat) : List (Nat × Cps × List Bool) := [(16, gangwayref0_Time.cps k, [false])]
def gangwayref23_MayOrder.qtab (k : Nat) : List QEnt := []
theorem gangwayref23_MayOrder.run_s4 (k : Nat) (t : TyL [.ro 40, .int .i64]) (u : TyO []) : runF (orcL (gangwayref23_MayOrder.tab k)) (orcQ (gangwayref23_MayOrder.qtab k)) Try.f6 (liveS gangwayref23_MayOrder.stps) 0 (stpJ (gangwayref23_MayOrder.go k) gangwayref23_MayOrder.stps) (retD gangwayref23_MayOrder.rets) (stackAt (bodyOf Try.f6) 4) (mkS Try.f6.ntmps [0, 7] (encL _ t) (encO _ u)) = gangwayref23_MayOrder.go (k + 1) (.s4 t.1 t.2.1) := by kernel_rfl
theorem gangwayref23_MayOrder.run (k : Nat) (t : TyL gangwayref23_MayOrder.ash) (u : TyO gangwayref23_MayOrder.aosh) : runF (orcL (gangwayref23_MayOrder.tab k)) (orcQ (gangwayref23_MayOrder.qtab k)) Try.f6 (liveS gangwayref23_MayOrder.stps) 0 (stpJ (gangwayref23_MayOrder.go k) gangwayref23_MayOrder.stps) (retD gangwayref23_MayOrder.rets) [.code (bodyOf Try.f6)] (mkS Try.f6.ntmps (upto 3) (encL gangwayref23_MayOrder.ash t) (encO gangwayref23_MayOrder.aosh u)) = gangwayref23_MayOrder.f k t.1 t.2.1 t.2.2.1 := by kernel_rfl
theorem gangwayref23_MayOrder.ok (k : Nat) : FOk Try.prog 6 (gangwayref23_MayOrder.cps k) := fok (fn := Try.f6) (c := bodyOf Try.f6) (by kernel_rfl) (by kernel_rfl) (by kernel_rfl) (rets := gangwayref23_MayOrder.rets) (onR := gangwayref23_MayOrder.onR) (ash := gangwayref23_MayOrder.ash) (aosh := gangwayref23_MayOrder.aosh) (F := fun t u => gangwayref23_MayOrder.f k t.1 t.2.1 t.2.2.1) (stps := gangwayref23_MayOrder.stps) (go := gangwayref23_MayOrder.go) (Ok := fun k => orcL (gangwayref23_MayOrder.tab k)) (Qk := fun k => orcQ (gangwayref23_MayOrder.qtab k))
  (List.forall_mem_cons.2 ⟨fun t u ρ K => rfl, List.forall_mem_nil _⟩) (by kernel_rfl) (by kernel_rfl) k (fun x => by cases x <;> rfl) (List.forall_mem_cons.2 ⟨by kernel_rfl, List.forall_mem_nil _⟩)
  (List.forall_mem_cons.2 ⟨gangwayref23_MayOrder.run_s4, List.forall_mem_nil _⟩) (gangwayref23_MayOrder.run k) (fun C k r => orcL_ok r C _ (List.forall_mem_cons.2 ⟨gangwayref0_Time.ok k, List.forall_mem_nil _⟩)) (fun k => orcQ_ok _ (List.forall_mem_nil _))
/-! ### gangway/gangwayref23.when -/
def gangwayref23_when.onR (ρ : Type) (r : gangwayref23_when.R) (K : AV → List Ob → Option ρ) : Option ρ := K (.int .i64 r) []
def gangwayref23_when.rets : List (Ret gangwayref23_when.R) := [⟨.int .i64, [], fun t u => t⟩]
def gangwayref23_when.stps : List (Stp gangwayref23_when.L) := []
def gangwayref23_when.ash : List Sh := [.agg [.int .i64, .int .i64, .int .i64, .int .i64, .bo], .int .i64]
def gangwayref23_when.aosh : List OSh := []
def gangwayref23_when.cps (k : Nat) : Cps := cpsOf gangwayref23_when.ash gangwayref23_when.aosh (fun t u => gangwayref23_when.f k t.1.1 t.1.2.1 t.1.2.2.1 t.1.2.2.2.1 t.1.2.2.2.2.1 t.2.1) gangwayref23_when.onR
def gangwayref23_when.tab (k : Nat) : List (Nat × Cps × List Bool) := []
def gangwayref23_when.qtab (k : Nat) : List QEnt := []
theorem gangwayref23_when.run (k : Nat) (t : TyL gangwayref23_when.ash) (u : TyO gangwayref23_when.aosh) : runF (orcL (gangwayref23_when.tab k)) (orcQ (gangwayref23_when.qtab k)) Try.f17 (liveS gangwayref23_when.stps) 0 (stpJ (gangwayref23_when.go k) gangwayref23_when.stps) (retD gangwayref23_when.rets) [.code (bodyOf Try.f17)] (mkS Try.f17.ntmps (upto 2) (encL gangwayref23_when.ash t) (encO gangwayref23_when.aosh u)) = gangwayref23_when.f k t.1.1 t.1.2.1 t.1.2.2.1 t.1.2.2.2.1 t.1.2.2.2.2.1 t.2.1 := by kernel_rfl
theorem gangwayref23_when.ok (k : Nat) : FOk Try.prog 17 (gangwayref23_when.cps k) := fok (fn := Try.f17) (c := bodyOf Try.f17) (by kernel_rfl) (by kernel_rfl) (by kernel_rfl) (rets := gangwayref23_when.rets) (onR := gangwayref23_when.onR) (ash := gangwayref23_when.ash) (aosh := gangwayref23_when.aosh) (F := fun t u => gangwayref23_when.f k t.1.1 t.1.2.1 t.1.2.2.1 t.1.2.2.2.1 t.1.2.2.2.2.1 t.2.1) (stps := gangwayref23_when.stps) (go := gangwayref23_when.go) (Ok := fun k => orcL (gangwayref23_when.tab k)) (Qk := fun k => orcQ (gangwayref23_when.qtab k))
  (List.forall_mem_cons.2 ⟨fun t u ρ K => rfl, List.forall_mem_nil _⟩) (by kernel_rfl) (by kernel_rfl) k (fun x => by cases x <;> rfl) (List.forall_mem_nil _)
  (List.forall_mem_nil _) (gangwayref23_when.run k) (fun C k r => orcL_ok r C _ (List.forall_mem_nil _)) (fun k => orcQ_ok _ (List.forall_mem_nil _))
/-! ### gangway/gangwayref23.Order -/
def gangwayref23_Order.onR (ρ : Type) (r : gangwayref23_Order.R) (K : AV → List Ob → Option ρ) : Option ρ := K (.own 0) [.row 42 r]
def gangwayref23_Order.rets : List (Ret gangwayref23_Order.R) := [⟨.own 0, [.row 42], fun t u => u.1⟩]
def gangwayref23_Order.stps : List (Stp gangwayref23_Order.L) := [⟨6, [0, 1, 2, 7, 8, 9, 10, 11], [.ro 40, .int .i64, .ro 42, .own 0, .int .i64, .int .i64, .bo, .int .i64], [.row 42], fun t u => .s6 t.1 t.2.1 t.2.2.1 t.2.2.2.2.1 t.2.2.2.2.2.1 t.2.2.2.2.2.2.1 t.2.2.2.2.2.2.2.1 u.1⟩,
  ⟨16, [0, 1, 7, 8, 12], [.ro 40, .int .i64, .own 0, .int .i64, .ptr 1 0], [.row 42, .arr 46 4], fun t u => .s16 t.1 t.2.1 t.2.2.2.1 u.1 u.2.1⟩,
  ⟨18, [0, 1, 7, 8, 12, 13, 14], [.ro 40, .int .i64, .own 0, .int .i64, .ptr 1 0, .int .i64, .int .i64], [.row 42, .arr 46 4], fun t u => .s18 t.1 t.2.1 t.2.2.2.1 t.2.2.2.2.2.1 t.2.2.2.2.2.2.1 u.1 u.2.1⟩]
def gangwayref23_Order.ash : List Sh := [.ro 40, .int .i64, .ro 42]
def gangwayref23_Order.aosh : List OSh := []
def gangwayref23_Order.cps (k : Nat) : Cps := cpsOf gangwayref23_Order.ash gangwayref23_Order.aosh (fun t u => gangwayref23_Order.f k t.1 t.2.1 t.2.2.1) gangwayref23_Order.onR
def gangwayref23_Order.tab (k : Nat) : List (Nat × Cps × List Bool) := [(17, gangwayref23_when.cps k, [false, false])]
def gangwayref23_Order.qtab (k : Nat) : List QEnt := [⟨17, gangwayref23_when.ash, gangwayref23_when.R, fun t => gangwayref23_when.f k t.1.1 t.1.2.1 t.1.2.2.1 t.1.2.2.2.1 t.1.2.2.2.2.1 t.2.1, fun r => .int .i64 r⟩]
theorem gangwayref23_Order.run_s6 (k : Nat) (t : TyL [.ro 40, .int .i64, .ro 42, .own 0, .int .i64, .int .i64, .bo, .int .i64]) (u : TyO [.row 42]) : runF (orcL (gangwayref23_Order.tab k)) (orcQ (gangwayref23_Order.qtab k)) Try.f7 (liveS gangwayref23_Order.stps) 0 (stpJ (gangwayref23_Order.go k) gangwayref23_Order.stps) (retD gangwayref23_Order.rets) (stackAt (bodyOf Try.f7) 6) (mkS Try.f7.ntmps [0, 1, 2, 7, 8, 9, 10, 11] (encL _ t) (encO _ u)) = gangwayref23_Order.go (k + 1) (.s6 t.1 t.2.1 t.2.2.1 t.2.2.2.2.1 t.2.2.2.2.2.1 t.2.2.2.2.2.2.1 t.2.2.2.2.2.2.2.1 u.1) := by kernel_rfl
theorem gangwayref23_Order.run_s16 (k : Nat) (t : TyL [.ro 40, .int .i64, .own 0, .int .i64, .ptr 1 0]) (u : TyO [.row 42, .arr 46 4]) : runF (orcL (gangwayref23_Order.tab k)) (orcQ (gangwayref23_Order.qtab k)) Try.f7 (liveS gangwayref23_Order.stps) 0 (stpJ (gangwayref23_Order.go k) gangwayref23_Order.stps) (retD gangwayref23_Order.rets) (stackAt (bodyOf Try.f7) 16) (mkS Try.f7.ntmps [0, 1, 7, 8, 12] (encL _ t) (encO _ u)) = gangwayref23_Order.go (k + 1) (.s16 t.1 t.2.1 t.2.2.2.1 u.1 u.2.1) := by kernel_rfl
theorem gangwayref23_Order.run_s18 (k : Nat) (t : TyL [.ro 40, .int .i64, .own 0, .int .i64, .ptr 1 0, .int .i64, .int .i64]) (u : TyO [.row 42, .arr 46 4]) : runF (orcL (gangwayref23_Order.tab k)) (orcQ (gangwayref23_Order.qtab k)) Try.f7 (liveS gangwayref23_Order.stps) 0 (stpJ (gangwayref23_Order.go k) gangwayref23_Order.stps) (retD gangwayref23_Order.rets) (stackAt (bodyOf Try.f7) 18) (mkS Try.f7.ntmps [0, 1, 7, 8, 12, 13, 14] (encL _ t) (encO _ u)) = gangwayref23_Order.go (k + 1) (.s18 t.1 t.2.1 t.2.2.2.1 t.2.2.2.2.2.1 t.2.2.2.2.2.2.1 u.1 u.2.1) := by kernel_rfl
theorem gangwayref23_Order.run (k : Nat) (t : TyL gangwayref23_Order.ash) (u : TyO gangwayref23_Order.aosh) : runF (orcL (gangwayref23_Order.tab k)) (orcQ (gangwayref23_Order.qtab k)) Try.f7 (liveS gangwayref23_Order.stps) 0 (stpJ (gangwayref23_Order.go k) gangwayref23_Order.stps) (retD gangwayref23_Order.rets) [.code (bodyOf Try.f7)] (mkS Try.f7.ntmps (upto 3) (encL gangwayref23_Order.ash t) (encO gangwayref23_Order.aosh u)) = gangwayref23_Order.f k t.1 t.2.1 t.2.2.1 := by kernel_rfl
theorem gangwayref23_Order.ok (k : Nat) : FOk Try.prog 7 (gangwayref23_Order.cps k) := fok (fn := Try.f7) (c := bodyOf Try.f7) (by kernel_rfl) (by kernel_rfl) (by kernel_rfl) (rets := gangwayref23_Order.rets) (onR := gangwayref23_Order.onR) (ash := gangwayref23_Order.ash) (aosh := gangwayref23_Order.aosh) (F := fun t u => gangwayref23_Order.f k t.1 t.2.1 t.2.2.1) (stps := gangwayref23_Order.stps) (go := gangwayref23_Order.go) (Ok := fun k => orcL (gangwayref23_Order.tab k)) (Qk := fun k => orcQ (gangwayref23_Order.qtab k))
  (List.forall_mem_cons.2 ⟨fun t u ρ K => rfl, List.forall_mem_nil _⟩) (by kernel_rfl) (by kernel_rfl) k (fun x => by cases x <;> rfl) (List.forall_mem_cons.2 ⟨by kernel_rfl, (List.forall_mem_cons.2 ⟨by kernel_rfl, (List.forall_mem_cons.2 ⟨by kernel_rfl, List.forall_mem_nil _⟩)⟩)⟩)
  (List.forall_mem_cons.2 ⟨gangwayref23_Order.run_s6, (List.forall_mem_cons.2 ⟨gangwayref23_Order.run_s16, (List.forall_mem_cons.2 ⟨gangwayref23_Order.run_s18, List.forall_mem_nil _⟩)⟩)⟩) (gangwayref23_Order.run k) (fun C k r => orcL_ok r C _ (List.forall_mem_cons.2 ⟨gangwayref23_when.ok k, List.forall_mem_nil _⟩)) (fun k => orcQ_ok _ (List.forall_mem_cons.2 ⟨gangwayref23_when.ok k, List.forall_mem_nil _⟩))
/-! ### gangway/gangwayref0.CopySubs -/
def gangwayref0_CopySubs.onR (ρ : Type) (r : gangwayref0_CopySubs.R) (K : AV → List Ob → Option ρ) : Option ρ := K (.own 0) [.row 40 r]
def gangwayref0_CopySubs.rets : List (Ret gangwayref0_CopySubs.R) := [⟨.own 0, [.row 40], fun t u => u.1⟩]
def gangwayref0_CopySubs.stps : List (Stp gangwayref0_CopySubs.L) := [⟨3, [0, 3, 4], [.ro 40, .own 0, .int .i64], [.row 40], fun t u => .s3 t.1 t.2.2.1 u.1⟩]
def gangwayref0_CopySubs.ash : List Sh := [.ro 40]
def gangwayref0_CopySubs.aosh : List OSh := []
def gangwayref0_CopySubs.cps (k : Nat) : Cps := cpsOf gangwayref0_CopySubs.ash gangwayref0_CopySubs.aosh (fun t u => gangwayref0_CopySubs.f k t.1) gangwayref0_CopySubs.onR
def gangwayref0_CopySubs.tab (k : Nat) : List (Nat × Cps × List Bool) := []
def gangwayref0_CopySubs.qtab (k : Nat) : List QEnt := []
theorem gangwayref0_CopySubs.run_s3 (k : Nat) (t : TyL [.ro 40, .own 0, .int .i64]) (u : TyO [.row 40]) : runF (orcL (gangwayref0_CopySubs.tab k)) (orcQ (gangwayref0_CopySubs.qtab k)) Try.f8 (liveS gangwayref0_CopySubs.stps) 0 (stpJ (gangwayref0_CopySubs.go k) gangwayref0_CopySubs.stps) (retD gangwayref0_CopySubs.rets) (stackAt (bodyOf Try.f8) 3) (mkS Try.f8.ntmps [0, 3, 4] (encL _ t) (encO _ u)) = gangwayref0_CopySubs.go (k + 1) (.s3 t.1 t.2.2.1 u.1) := by kernel_rfl
theorem gangwayref0_CopySubs.run (k : Nat) (t : TyL gangwayref0_CopySubs.ash) (u : TyO gangwayref0_CopySubs.aosh) : runF (orcL (gangwayref0_CopySubs.tab k)) (orcQ (gangwayref0_CopySubs.qtab k)) Try.f8 (liveS gangwayref0_CopySubs.stps) 0 (stpJ (gangwayref0_CopySubs.go k) gangwayref0_CopySubs.stps) (retD gangwayref0_CopySubs.rets) [.code (bodyOf Try.f8)] (mkS Try.f8.ntmps (upto 1) (encL gangwayref0_CopySubs.ash t) (encO gangwayref0_CopySubs.aosh u)) = gangwayref0_CopySubs.f k t.1 := by kernel_rfl
theorem gangwayref0_CopySubs.ok (k : Nat) : FOk Try.prog 8 (gangwayref0_CopySubs.cps k) := fok (fn := Try.f8) (c := bodyOf Try.f8) (by kernel_rfl) (by kernel_rfl) (by kernel_rfl) (rets := gangwayref0_CopySubs.rets) (onR := gangwayref0_CopySubs.onR) (ash := gangwayref0_CopySubs.ash) (aosh := gangwayref0_CopySubs.aosh) (F := fun t u => gangwayref0_CopySubs.f k t.1) (stps := gangwayref0_CopySubs.stps) (go := gangwayref0_CopySubs.go) (Ok := fun k => orcL (gangwayref0_CopySubs.tab k)) (Qk := fun k => orcQ (gangwayref0_CopySubs.qtab k))
  (List.forall_mem_cons.2 ⟨fun t u ρ K => rfl, List.forall_mem_nil _⟩) (by kernel_rfl) (by kernel_rfl) k (fun x => by cases x <;> rfl) (List.forall_mem_cons.2 ⟨by kernel_rfl, List.forall_mem_nil _⟩)
  (List.forall_mem_cons.2 ⟨gangwayref0_CopySubs.run_s3, List.forall_mem_nil _⟩) (gangwayref0_CopySubs.run k) (fun C k r => orcL_ok r C _ (List.forall_mem_nil _)) (fun k => orcQ_ok _ (List.forall_mem_nil _))
/-! ### gangway/gangwayref0.CopyEvents -/
def gangwayref0_CopyEvents.onR (ρ : Type) (r : gangwayref0_CopyEvents.R) (K : AV → List Ob → Option ρ) : Option ρ := K (.own 0) [.row 42 r]
def gangwayref0_CopyEvents.rets : List (Ret gangwayref0_CopyEvents.R) := [⟨.own 0, [.row 42], fun t u => u.1⟩]
def gangwayref0_CopyEvents.stps : List (Stp gangwayref0_CopyEvents.L) := [⟨3, [0, 3, 4], [.ro 42, .own 0, .int .i64], [.row 42], fun t u => .s3 t.1 t.2.2.1 u.1⟩]
def gangwayref0_CopyEvents.ash : List Sh := [.ro 42]
def gangwayref0_CopyEvents.aosh : List OSh := []
def gangwayref0_CopyEvents.cps (k : Nat) : Cps := cpsOf gangwayref0_CopyEvents.ash gangwayref0_CopyEvents.aosh (fun t u => gangwayref0_CopyEvents.f k t.1) gangwayref0_CopyEvents.onR
def gangwayref0_CopyEvents.tab (k : Nat) : List (Nat × Cps × List Bool) := []
def gangwayref0_CopyEvents.qtab (k : Nat) : List QEnt := []
theorem gangwayref0_CopyEvents.run_s3 (k : Nat) (t : TyL [.ro 42, .own 0, .int .i64]) (u : TyO [.row 42]) : runF (orcL (gangwayref0_CopyEvents.tab k)) (orcQ (gangwayref0_CopyEvents.qtab k)) Try.f9 (liveS gangwayref0_CopyEvents.stps) 0 (stpJ (gangwayref0_CopyEvents.go k) gangwayref0_CopyEvents.stps) (retD gangwayref0_CopyEvents.rets) (stackAt (bodyOf Try.f9) 3) (mkS Try.f9.ntmps [0, 3, 4] (encL _ t) (encO _ u)) = gangwayref0_CopyEvents.go (k + 1) (.s3 t.1 t.2.2.1 u.1) := by kernel_rfl
theorem gangwayref0_CopyEvents.run (k : Nat) (t : TyL gangwayref0_CopyEvents.ash) (u : TyO gangwayref0_CopyEvents.aosh) : runF (orcL (gangwayref0_CopyEvents.tab k)) (orcQ (gangwayref0_CopyEvents.qtab k)) Try.f9 (liveS gangwayref0_CopyEvents.stps) 0 (stpJ (gangwayref0_CopyEvents.go k) gangwayref0_CopyEvents.stps) (retD gangwayref0_CopyEvents.rets) [.code (bodyOf Try.f9)] (mkS Try.f9.ntmps (upto 1) (encL gangwayref0_CopyEvents.ash t) (encO gangwayref0_CopyEvents.aosh u)) = gangwayref0_CopyEvents.f k t.1 := by kernel_rfl
theorem gangwayref0_CopyEvents.ok (k : Nat) : FOk Try.prog 9 (gangwayref0_CopyEvents.cps k) := fok (fn := Try.f9) (c := bodyOf Try.f9) (by kernel_rfl) (by kernel_rfl) (by kernel_rfl) (rets := gangwayref0_CopyEvents.rets) (onR := gangwayref0_CopyEvents.onR) (ash := gangwayref0_CopyEvents.ash) (aosh := gangwayref0_CopyEvents.aosh) (F := fun t u => gangwayref0_CopyEvents.f k t.1) (stps := gangwayref0_CopyEvents.stps) (go := gangwayref0_CopyEvents.go) (Ok := fun k => orcL (gangwayref0_CopyEvents.tab k)) (Qk := fun k => orcQ (gangwayref0_CopyEvents.qtab k))
  (List.forall_mem_cons.2 ⟨fun t u ρ K => rfl, List.forall_mem_nil _⟩) (by kernel_rfl) (by kernel_rfl) k (fun x => by cases x <;> rfl) (List.forall_mem_cons.2 ⟨by kernel_rfl, List.forall_mem_nil _⟩)
  (List.forall_mem_cons.2 ⟨gangwayref0_CopyEvents.run_s3, List.forall_mem_nil _⟩) (gangwayref0_CopyEvents.run k) (fun C k r => orcL_ok r C _ (List.forall_mem_nil _)) (fun k => orcQ_ok _ (List.forall_mem_nil _))
/-! ### gangway/poll.time -/
def poll_time.onR (ρ : Type) (r : poll_time.R) (K : AV → List Ob → Option ρ) : Option ρ := K (.bo r) []
def poll_time.rets : List (Ret poll_time.R) := [⟨.bo, [], fun t u => t⟩]
def poll_time.stps : List (Stp poll_time.L) := []
def poll_time.ash : List Sh := [.int .i64]
def poll_time.aosh : List OSh := []
def poll_time.cps (k : Nat) : Cps := cpsOf poll_time.ash poll_time.aosh (fun t u => poll_time.f k t.1) poll_time.onR
def poll_time.tab (k : Nat) : List (Nat × Cps × List Bool) := []
def poll_time.qtab (k : Nat) : List QEnt := []
theorem poll_time.run (k : Nat) (t : TyL poll_time.ash) (u : TyO poll_time.aosh) : runF (orcL (poll_time.tab k)) (orcQ (poll_time.qtab k)) Try.f22 (liveS poll_time.stps) 0 (stpJ (poll_time.go k) poll_time.stps) (retD poll_time.rets) [.code (bodyOf Try.f22)] (mkS Try.f22.ntmps (upto 1) (encL poll_time.ash t) (encO poll_time.aosh u)) = poll_time.f k t.1 := by kernel_rfl
theorem poll_time.ok (k : Nat) : FOk Try.prog 22 (poll_time.cps k) := fok (fn := Try.f22) (c := bodyOf Try.f22) (by kernel_rfl) (by kernel_rfl) (by kernel_rfl) (rets := poll_time.rets) (onR := poll_time.onR) (ash := poll_time.ash) (aosh := poll_time.aosh) (F := fun t u => poll_time.f k t.1) (stps := poll_time.stps) (go := poll_time.go) (Ok := fun k => orcL (poll_time.tab k)) (Qk := fun k => orcQ (poll_time.qtab k))
  (List.forall_mem_cons.2 ⟨fun t u ρ K => rfl, List.forall_mem_nil _⟩) (by kernel_rfl) (by kernel_rfl) k (fun x => by cases x <;> rfl) (List.forall_mem_nil _)
  (List.forall_mem_nil _) (poll_time.run k) (fun C k r => orcL_ok r C _ (List.forall_mem_nil _)) (fun k => orcQ_ok _ (List.forall_mem_nil _))
/-! ### gangway/poll.may -/
def poll_may.onR (ρ : Type) (r : poll_may.R) (K : AV → List Ob → Option ρ) : Option ρ := K (.bo r) []
def poll_may.rets : List (Ret poll_may.R) := [⟨.bo, [], fun t u => t⟩]
def poll_may.stps : List (Stp poll_may.L) := [⟨2, [0, 1, 2, 9, 10, 11], [.ro 40, .int .i64, .ro 42, .ro 40, .int .i64, .int .i64], [], fun t u => .s2 t.1 t.2.1 t.2.2.1 t.2.2.2.1 t.2.2.2.2.1 t.2.2.2.2.2.1⟩]
def poll_may.ash : List Sh := [.ro 40, .int .i64, .ro 42]
def poll_may.aosh : List OSh := []
def poll_may.cps (k : Nat) : Cps := cpsOf poll_may.ash poll_may.aosh (fun t u => poll_may.f k t.1 t.2.1 t.2.2.1) poll_may.onR
def poll_may.tab (k : Nat) : List (Nat × Cps × List Bool) := [(22, poll_time.cps k, [false])]
def poll_may.qtab (k : Nat) : List QEnt := []
theorem poll_may.run_s2 (k : Nat) (t : TyL [.ro 40, .int .i64, .ro 42, .ro 40, .int .i64, .int .i64]) (u : TyO []) : runF (orcL (poll_may.tab k)) (orcQ (poll_may.qtab k)) Try.f18 (liveS poll_may.stps) 0 (stpJ (poll_may.go k) poll_may.stps) (retD poll_may.rets) (stackAt (bodyOf Try.f18) 2) (mkS Try.f18.ntmps [0, 1, 2, 9, 10, 11] (encL _ t) (encO _ u)) = poll_may.go (k + 1) (.s2 t.1 t.2.1 t.2.2.1 t.2.2.2.1 t.2.2.2.2.1 t.2.2.2.2.2.1) := by kernel_rfl
theorem poll_may.run (k : Nat) (t : TyL poll_may.ash) (u : TyO poll_may.aosh) : runF (orcL (poll_may.tab k)) (orcQ (poll_may.qtab k)) Try.f18 (liveS poll_may.stps) 0 (stpJ (poll_may.go k) poll_may.stps) (retD poll_may.rets) [.code (bodyOf Try.f18)] (mkS Try.f18.ntmps (upto 3) (encL poll_may.ash t) (encO poll_may.aosh u)) = poll_may.f k t.1 t.2.1 t.2.2.1 := by kernel_rfl
theorem poll_may.ok (k : Nat) : FOk Try.prog 18 (poll_may.cps k) := fok (fn := Try.f18) (c := bodyOf Try.f18) (by kernel_rfl) (by kernel_rfl) (by kernel_rfl) (rets := poll_may.rets) (onR := poll_may.onR) (ash := poll_may.ash) (aosh := poll_may.aosh) (F := fun t u => poll_may.f k t.1 t.2.1 t.2.2.1) (stps := poll_may.stps) (go := poll_may.go) (Ok := fun k => orcL (poll_may.tab k)) (Qk := fun k => orcQ (poll_may.qtab k))
  (List.forall_mem_cons.2 ⟨fun t u ρ K => rfl, List.forall_mem_nil _⟩) (by kernel_rfl) (by kernel_rfl) k (fun x => by cases x <;> rfl) (List.forall_mem_cons.2 ⟨by kernel_rfl, List.forall_mem_nil _⟩)
  (List.forall_mem_cons.2 ⟨poll_may.run_s2, List.forall_mem_nil _⟩) (poll_may.run k) (fun C k r => orcL_ok r C _ (List.forall_mem_cons.2 ⟨poll_time.ok k, List.forall_mem_nil _⟩)) (fun k => orcQ_ok _ (List.forall_mem_nil _))
/-! ### (*gangway/poll.alarms).Push -/
def poll_alarms_Push.onR (ρ : Type) (r : poll_alarms_Push.R) (K : AV → List Ob → Option ρ) : Option ρ := K (.tup []) [.box 49 [.own 2], .dead, .row 52 r]
def poll_alarms_Push.rets : List (Ret poll_alarms_Push.R) := [⟨.tup [], [.box 49 [.own 2], .dead, .row 52], fun t u => u.2.2.1⟩]
def poll_alarms_Push.stps : List (Stp poll_alarms_Push.L) := []
def poll_alarms_Push.ash : List Sh := [.ptr 0 0, .ifc 52 (.agg [.int .i64, .int .i64])]
def poll_alarms_Push.aosh : List OSh := [.box 49 [.own 1], .row 52]
def poll_alarms_Push.cps (k : Nat) : Cps := cpsOf poll_alarms_Push.ash poll_alarms_Push.aosh (fun t u => poll_alarms_Push.f k t.2.1.1 t.2.1.2.1 u.2.1) poll_alarms_Push.onR
def poll_alarms_Push.tab (k : Nat) : List (Nat × Cps × List Bool) := []
def poll_alarms_Push.qtab (k : Nat) : List QEnt := []
theorem poll_alarms_Push.run (k : Nat) (t : TyL poll_alarms_Push.ash) (u : TyO poll_alarms_Push.aosh) : runF (orcL (poll_alarms_Push.tab k)) (orcQ (poll_alarms_Push.qtab k)) Try.f44 (liveS poll_alarms_Push.stps) 2 (stpJ (poll_alarms_Push.go k) poll_alarms_Push.stps) (retD poll_alarms_Push.rets) [.code (bodyOf Try.f44)] (mkS Try.f44.ntmps (upto 2) (encL poll_alarms_Push.ash t) (encO poll_alarms_Push.aosh u)) = poll_alarms_Push.f k t.2.1.1 t.2.1.2.1 u.2.1 := by kernel_rfl
theorem poll_alarms_Push.ok (k : Nat) : FOk Try.prog 44 (poll_alarms_Push.cps k) := fok (fn := Try.f44) (c := bodyOf Try.f44) (by kernel_rfl) (by kernel_rfl) (by kernel_rfl) (rets := poll_alarms_Push.rets) (onR := poll_alarms_Push.onR) (ash := poll_alarms_Push.ash) (aosh := poll_alarms_Push.aosh) (F := fun t u => poll_alarms_Push.f k t.2.1.1 t.2.1.2.1 u.2.1) (stps := poll_alarms_Push.stps) (go := poll_alarms_Push.go) (Ok := fun k => orcL (poll_alarms_Push.tab k)) (Qk := fun k => orcQ (poll_alarms_Push.qtab k))
  (List.forall_mem_cons.2 ⟨fun t u ρ K => rfl, List.forall_mem_nil _⟩) (by kernel_rfl) (by kernel_rfl) k (fun x => by cases x <;> rfl) (List.forall_mem_nil _)
  (List.forall_mem_nil _) (poll_alarms_Push.run k) (fun C k r => orcL_ok r C _ (List.forall_mem_nil _)) (fun k => orcQ_ok _ (List.forall_mem_nil _))
/-! ### (gangway/poll.alarms).Len -/
def poll_alarms_Len.onR (ρ : Type) (r : poll_alarms_Len.R) (K : AV → List Ob → Option ρ) : Option ρ := K (.int .i64 r) []
def poll_alarms_Len.rets : List (Ret poll_alarms_Len.R) := [⟨.int .i64, [], fun t u => t⟩]
def poll_alarms_Len.stps : List (Stp poll_alarms_Len.L) := []
def poll_alarms_Len.ash : List Sh := [.ro 52]
def poll_alarms_Len.aosh : List OSh := []
def poll_alarms_Len.cps (k : Nat) : Cps := cpsOf poll_alarms_Len.ash poll_alarms_Len.aosh (fun t u => poll_alarms_Len.f k t.1) poll_alarms_Len.onR
def poll_alarms_Len.tab (k : Nat) : List (Nat × Cps × List Bool) := []
def poll_alarms_Len.qtab (k : Nat) : List QEnt := []
theorem poll_alarms_Len.run (k : Nat) (t : TyL poll_alarms_Len.ash) (u : TyO poll_alarms_Len.aosh) : runF (orcL (poll_alarms_Len.tab k)) (orcQ (poll_alarms_Len.qtab k)) Try.f20 (liveS poll_alarms_Len.stps) 0 (stpJ (poll_alarms_Len.go k) poll_alarms_Len.stps) (retD poll_alarms_Len.rets) [.code (bodyOf Try.f20)] (mkS Try.f20.ntmps (upto 1) (encL poll_alarms_Len.ash t) (encO poll_alarms_Len.aosh u)) = poll_alarms_Len.f k t.1 := by kernel_rfl
theorem poll_alarms_Len.ok (k : Nat) : FOk Try.prog 20 (poll_alarms_Len.cps k) := fok (fn := Try.f20) (c := bodyOf Try.f20) (by kernel_rfl) (by kernel_rfl) (by kernel_rfl) (rets := poll_alarms_Len.rets) (onR := poll_alarms_Len.onR) (ash := poll_alarms_Len.ash) (aosh := poll_alarms_Len.aosh) (F := fun t u => poll_alarms_Len.f k t.1) (stps := poll_alarms_Len.stps) (go := poll_alarms_Len.go) (Ok := fun k => orcL (poll_alarms_Len.tab k)) (Qk := fun k => orcQ (poll_alarms_Len.qtab k))
  (List.forall_mem_cons.2 ⟨fun t u ρ K => rfl, List.forall_mem_nil _⟩) (by kernel_rfl) (by kernel_rfl) k (fun x => by cases x <;> rfl) (List.forall_mem_nil _)
  (List.forall_mem_nil _) (poll_alarms_Len.run k) (fun C k r => orcL_ok r C _ (List.forall_mem_nil _)) (fun k => orcQ_ok _ (List.forall_mem_nil _))
/-! ### (gangway/poll.alarms).Less -/
def poll_alarms_Less.onR (ρ : Type) (r : poll_alarms_Less.R) (K : AV → List Ob → Option ρ) : Option ρ := K (.bo r) []
def poll_alarms_Less.rets : List (Ret poll_alarms_Less.R) := [⟨.bo, [], fun t u => t⟩]
def poll_alarms_Less.stps : List (Stp poll_alarms_Less.L) := []
def poll_alarms_Less.ash : List Sh := [.ro 52, .int .i64, .int .i64]
def poll_alarms_Less.aosh : List OSh := []
def poll_alarms_Less.cps (k : Nat) : Cps := cpsOf poll_alarms_Less.ash poll_alarms_Less.aosh (fun t u => poll_alarms_Less.f k t.1 t.2.1 t.2.2.1) poll_alarms_Less.onR
def poll_alarms_Less.tab (k : Nat) : List (Nat × Cps × List Bool) := []
def poll_alarms_Less.qtab (k : Nat) : List QEnt := []
theorem poll_alarms_Less.run (k : Nat) (t : TyL poll_alarms_Less.ash) (u : TyO poll_alarms_Less.aosh) : runF (orcL (poll_alarms_Less.tab k)) (orcQ (poll_alarms_Less.qtab k)) Try.f42 (liveS poll_alarms_Less.stps) 0 (stpJ (poll_alarms_Less.go k) poll_alarms_Less.stps) (retD poll_alarms_Less.rets) [.code (bodyOf Try.f42)] (mkS Try.f42.ntmps (upto 3) (encL poll_alarms_Less.ash t) (encO poll_alarms_Less.aosh u)) = poll_alarms_Less.f k t.1 t.2.1 t.2.2.1 := by kernel_rfl
theorem poll_alarms_Less.ok (k : Nat) : FOk Try.prog 42 (poll_alarms_Less.cps k) := fok (fn := Try.f42) (c := bodyOf Try.f42) (by kernel_rfl) (by kernel_rfl) (by kernel_rfl) (rets := poll_alarms_Less.rets) (onR := poll_alarms_Less.onR) (ash := poll_alarms_Less.ash) (aosh := poll_alarms_Less.aosh) (F := fun t u => poll_alarms_Less.f k t.1 t.2.1 t.2.2.1) (stps := poll_alarms_Less.stps) (go := poll_alarms_Less.go) (Ok := fun k => orcL (poll_alarms_Less.tab k)) (Qk := fun k => orcQ (poll_alarms_Less.qtab k))
  (List.forall_mem_cons.2 ⟨fun t u ρ K => rfl, List.forall_mem_nil _⟩) (by kernel_rfl) (by kernel_rfl) k (fun x => by cases x <;> rfl) (List.forall_mem_nil _)
  (List.forall_mem_nil _) (poll_alarms_Less.run k) (fun C k r => orcL_ok r C _ (List.forall_mem_nil _)) (fun k => orcQ_ok _ (List.forall_mem_nil _))
/-! ### (gangway/poll.alarms).Swap -/
def poll_alarms_Swap.onR (ρ : Type) (r : poll_alarms_Swap.R) (K : AV → List Ob → Option ρ) : Option ρ := K (.tup []) [.row 52 r]
def poll_alarms_Swap.rets : List (Ret poll_alarms_Swap.R) := [⟨.tup [], [.row 52], fun t u => u.1⟩]
def poll_alarms_Swap.stps : List (Stp poll_alarms_Swap.L) := []
def poll_alarms_Swap.ash : List Sh := [.own 0, .int .i64, .int .i64]
def poll_alarms_Swap.aosh : List OSh := [.row 52]
def poll_alarms_Swap.cps (k : Nat) : Cps := cpsOf poll_alarms_Swap.ash poll_alarms_Swap.aosh (fun t u => poll_alarms_Swap.f k t.2.1 t.2.2.1 u.1) poll_alarms_Swap.onR
def poll_alarms_Swap.tab (k : Nat) : List (Nat × Cps × List Bool) := []
def poll_alarms_Swap.qtab (k : Nat) : List QEnt := []
theorem poll_alarms_Swap.run (k : Nat) (t : TyL poll_alarms_Swap.ash) (u : TyO poll_alarms_Swap.aosh) : runF (orcL (poll_alarms_Swap.tab k)) (orcQ (poll_alarms_Swap.qtab k)) Try.f45 (liveS poll_alarms_Swap.stps) 1 (stpJ (poll_alarms_Swap.go k) poll_alarms_Swap.stps) (retD poll_alarms_Swap.rets) [.code (bodyOf Try.f45)] (mkS Try.f45.ntmps (upto 3) (encL poll_alarms_Swap.ash t) (encO poll_alarms_Swap.aosh u)) = poll_alarms_Swap.f k t.2.1 t.2.2.1 u.1 := by kernel_rfl
theorem poll_alarms_Swap.ok (k : Nat) : FOk Try.prog 45 (poll_alarms_Swap.cps k) := fok (fn := Try.f45) (c := bodyOf Try.f45) (by kernel_rfl) (by kernel_rfl) (by kernel_rfl) (rets := poll_alarms_Swap.rets) (onR := poll_alarms_Swap.onR) (ash := poll_alarms_Swap.ash) (aosh := poll_alarms_Swap.aosh) (F := fun t u => poll_alarms_Swap.f k t.2.1 t.2.2.1 u.1) (stps := poll_alarms_Swap.stps) (go := poll_alarms_Swap.go) (Ok := fun k => orcL (poll_alarms_Swap.tab k)) (Qk := fun k => orcQ (poll_alarms_Swap.qtab k))
  (List.forall_mem_cons.2 ⟨fun t u ρ K => rfl, List.forall_mem_nil _⟩) (by kernel_rfl) (by kernel_rfl) k (fun x => by cases x <;> rfl) (List.forall_mem_nil _)
  (List.forall_mem_nil _) (poll_alarms_Swap.run k) (fun C k r => orcL_ok r C _ (List.forall_mem_nil _)) (fun k => orcQ_ok _ (List.forall_mem_nil _))
/-! ### container/heap.up -/
def heap_up.onR (ρ : Type) (r : heap_up.R) (K : AV → List Ob → Option ρ) : Option ρ := K (.tup []) [.box 49 [.own 1], .row 52 r]
def heap_up.rets : List (Ret heap_up.R) := [⟨.tup [], [.box 49 [.own 1], .row 52], fun t u => u.2.1⟩]
def heap_up.stps : List (Stp heap_up.L) := [⟨0, [0, 1], [.ifc 47 (.ptr 0 0), .int .i64], [.box 49 [.own 1], .row 52], fun t u => .s0 t.2.1 u.2.1⟩]
def heap_up.ash : List Sh := [.ifc 47 (.ptr 0 0), .int .i64]
def heap_up.aosh : List OSh := [.box 49 [.own 1], .row 52]
def heap_up.cps (k : Nat) : Cps := cpsOf heap_up.ash heap_up.aosh (fun t u => heap_up.f k t.2.1 u.2.1) heap_up.onR
def heap_up.tab (k : Nat) : List (Nat × Cps × List Bool) := [(42, poll_alarms_Less.cps k, [false, false, false]), (45, poll_alarms_Swap.cps k, [true, false, false])]
def heap_up.qtab (k : Nat) : List QEnt := []
theorem heap_up.run_s0 (k : Nat) (t : TyL [.ifc 47 (.ptr 0 0), .int .i64]) (u : TyO [.box 49 [.own 1], .row 52]) : runF (orcL (heap_up.tab k)) (orcQ (heap_up.qtab k)) Try.f23 (liveS heap_up.stps) 2 (stpJ (heap_up.go k) heap_up.stps) (retD heap_up.rets) (stackAt (bodyOf Try.f23) 0) (mkS Try.f23.ntmps [0, 1] (encL _ t) (encO _ u)) = heap_up.go (k + 1) (.s0 t.2.1 u.2.1) := by kernel_rfl
theorem heap_up.run (k : Nat) (t : TyL heap_up.ash) (u : TyO heap_up.aosh) : runF (orcL (heap_up.tab k)) (orcQ (heap_up.qtab k)) Try.f23 (liveS heap_up.stps) 2 (stpJ (heap_up.go k) heap_up.stps) (retD heap_up.rets) [.code (bodyOf Try.f23)] (mkS Try.f23.ntmps (upto 2) (encL heap_up.ash t) (encO heap_up.aosh u)) = heap_up.f k t.2.1 u.2.1 := by kernel_rfl
theorem heap_up.ok (k : Nat) : FOk Try.prog 23 (heap_up.cps k) := fok (fn := Try.f23) (c := bodyOf Try.f23) (by kernel_rfl) (by kernel_rfl) (by kernel_rfl) (rets := heap_up.rets) (onR := heap_up.onR) (ash := heap_up.ash) (aosh := heap_up.aosh) (F := fun t u => heap_up.f k t.2.1 u.2.1) (stps := heap_up.stps) (go := heap_up.go) (Ok := fun k => orcL (heap_up.tab k)) (Qk := fun k => orcQ (heap_up.qtab k))
  (List.forall_mem_cons.2 ⟨fun t u ρ K => rfl, List.forall_mem_nil _⟩) (by kernel_rfl) (by kernel_rfl) k (fun x => by cases x <;> rfl) (List.forall_mem_cons.2 ⟨by kernel_rfl, List.forall_mem_nil _⟩)
  (List.forall_mem_cons.2 ⟨heap_up.run_s0, List.forall_mem_nil _⟩) (heap_up.run k) (fun C k r => orcL_ok r C _ (List.forall_mem_cons.2 ⟨poll_alarms_Less.ok k, (List.forall_mem_cons.2 ⟨poll_alarms_Swap.ok k, List.forall_mem_nil _⟩)⟩)) (fun k => orcQ_ok _ (List.forall_mem_nil _))
/-! ### container/heap.Push -/
def heap_Push.onR (ρ : Type) (r : heap_Push.R) (K : AV → List Ob → Option ρ) : Option ρ := K (.tup []) [.box 49 [.own 2], .dead, .row 52 r]
def heap_Push.rets : List (Ret heap_Push.R) := [⟨.tup [], [.box 49 [.own 2], .dead, .row 52], fun t u => u.2.2.1⟩]
def heap_Push.stps : List (Stp heap_Push.L) := []
def heap_Push.ash : List Sh := [.ifc 47 (.ptr 0 0), .ifc 52 (.agg [.int .i64, .int .i64])]
def heap_Push.aosh : List OSh := [.box 49 [.own 1], .row 52]
def heap_Push.cps (k : Nat) : Cps := cpsOf heap_Push.ash heap_Push.aosh (fun t u => heap_Push.f k t.2.1.1 t.2.1.2.1 u.2.1) heap_Push.onR
def heap_Push.tab (k : Nat) : List (Nat × Cps × List Bool) := [(44, poll_alarms_Push.cps k, [false, false]), (20, poll_alarms_Len.cps k, [false]), (23, heap_up.cps k, [false, false])]
def heap_Push.qtab (k : Nat) : List QEnt := []
theorem heap_Push.run (k : Nat) (t : TyL heap_Push.ash) (u : TyO heap_Push.aosh) : runF (orcL (heap_Push.tab k)) (orcQ (heap_Push.qtab k)) Try.f19 (liveS heap_Push.stps) 2 (stpJ (heap_Push.go k) heap_Push.stps) (retD heap_Push.rets) [.code (bodyOf Try.f19)] (mkS Try.f19.ntmps (upto 2) (encL heap_Push.ash t) (encO heap_Push.aosh u)) = heap_Push.f k t.2.1.1 t.2.1.2.1 u.2.1 := by kernel_rfl
theorem heap_Push.ok (k : Nat) : FOk Try.prog 19 (heap_Push.cps k) := fok (fn := Try.f19) (c := bodyOf Try.f19) (by kernel_rfl) (by kernel_rfl) (by kernel_rfl) (rets := heap_Push.rets) (onR := heap_Push.onR) (ash := heap_Push.ash) (aosh := heap_Push.aosh) (F := fun t u => heap_Push.f k t.2.1.1 t.2.1.2.1 u.2.1) (stps := heap_Push.stps) (go := heap_Push.go) (Ok := fun k => orcL (heap_Push.tab k)) (Qk := fun k => orcQ (heap_Push.qtab k))
  (List.forall_mem_cons.2 ⟨fun t u ρ K => rfl, List.forall_mem_nil _⟩) (by kernel_rfl) (by kernel_rfl) k (fun x => by cases x <;> rfl) (List.forall_mem_nil _)
  (List.forall_mem_nil _) (heap_Push.run k) (fun C k r => orcL_ok r C _ (List.forall_mem_cons.2 ⟨poll_alarms_Push.ok k, (List.forall_mem_cons.2 ⟨poll_alarms_Len.ok k, (List.forall_mem_cons.2 ⟨heap_up.ok k, List.forall_mem_nil _⟩)⟩)⟩)) (fun k => orcQ_ok _ (List.forall_mem_nil _))
/-! ### container/heap.down -/
def heap_down.onR (ρ : Type) (r : heap_down.R) (K : AV → List Ob → Option ρ) : Option ρ := K (.bo r.1) [.box 49 [.own 1], .row 52 r.2]
def heap_down.rets : List (Ret heap_down.R) := [⟨.bo, [.box 49 [.own 1], .row 52], fun t u => (t, u.2.1)⟩]
def heap_down.stps : List (Stp heap_down.L) := [⟨2, [0, 1, 2, 7], [.ifc 47 (.ptr 0 0), .int .i64, .int .i64, .int .i64], [.box 49 [.own 1], .row 52], fun t u => .s2 t.2.1 t.2.2.1 t.2.2.2.1 u.2.1⟩]
def heap_down.ash : List Sh := [.ifc 47 (.ptr 0 0), .int .i64, .int .i64]
def heap_down.aosh : List OSh := [.box 49 [.own 1], .row 52]
def heap_down.cps (k : Nat) : Cps := cpsOf heap_down.ash heap_down.aosh (fun t u => heap_down.f k t.2.1 t.2.2.1 u.2.1) heap_down.onR
def heap_down.tab (k : Nat) : List (Nat × Cps × List Bool) := [(42, poll_alarms_Less.cps k, [false, false, false]), (45, poll_alarms_Swap.cps k, [true, false, false])]
def heap_down.qtab (k : Nat) : List QEnt := []
theorem heap_down.run_s2 (k : Nat) (t : TyL [.ifc 47 (.ptr 0 0), .int .i64, .int .i64, .int .i64]) (u : TyO [.box 49 [.own 1], .row 52]) : runF (orcL (heap_down.tab k)) (orcQ (heap_down.qtab k)) Try.f24 (liveS heap_down.stps) 2 (stpJ (heap_down.go k) heap_down.stps) (retD heap_down.rets) (stackAt (bodyOf Try.f24) 2) (mkS Try.f24.ntmps [0, 1, 2, 7] (encL _ t) (encO _ u)) = heap_down.go (k + 1) (.s2 t.2.1 t.2.2.1 t.2.2.2.1 u.2.1) := by kernel_rfl
theorem heap_down.run (k : Nat) (t : TyL heap_down.ash) (u : TyO heap_down.aosh) : runF (orcL (heap_down.tab k)) (orcQ (heap_down.qtab k)) Try.f24 (liveS heap_down.stps) 2 (stpJ (heap_down.go k) heap_down.stps) (retD heap_down.rets) [.code (bodyOf Try.f24)] (mkS Try.f24.ntmps (upto 3) (encL heap_down.ash t) (encO heap_down.aosh u)) = heap_down.f k t.2.1 t.2.2.1 u.2.1 := by kernel_rfl
theorem heap_down.ok (k : Nat) : FOk Try.prog 24 (heap_down.cps k) := fok (fn := Try.f24) (c := bodyOf Try.f24) (by kernel_rfl) (by kernel_rfl) (by kernel_rfl) (rets := heap_down.rets) (onR := heap_down.onR) (ash := heap_down.ash) (aosh := heap_down.aosh) (F := fun t u => heap_down.f k t.2.1 t.2.2.1 u.2.1) (stps := heap_down.stps) (go := heap_down.go) (Ok := fun k => orcL (heap_down.tab k)) (Qk := fun k => orcQ (heap_down.qtab k))
  (List.forall_mem_cons.2 ⟨fun t u ρ K => rfl, List.forall_mem_nil _⟩) (by kernel_rfl) (by kernel_rfl) k (fun x => by cases x <;> rfl) (List.forall_mem_cons.2 ⟨by kernel_rfl, List.forall_mem_nil _⟩)
  (List.forall_mem_cons.2 ⟨heap_down.run_s2, List.forall_mem_nil _⟩) (heap_down.run k) (fun C k r => orcL_ok r C _ (List.forall_mem_cons.2 ⟨poll_alarms_Less.ok k, (List.forall_mem_cons.2 ⟨poll_alarms_Swap.ok k, List.forall_mem_nil _⟩)⟩)) (fun k => orcQ_ok _ (List.forall_mem_nil _))
/-! ### (*gangway/poll.alarms).Pop -/
def poll_alarms_Pop.onR (ρ : Type) (r : poll_alarms_Pop.R) (K : AV → List Ob → Option ρ) : Option ρ := K (.ifc 52 (.agg [.int .i64 r.1, .int .i64 r.2.1])) [.box 49 [.own 2], .dead, .row 52 r.2.2]
def poll_alarms_Pop.rets : List (Ret poll_alarms_Pop.R) := [⟨.ifc 52 (.agg [.int .i64, .int .i64]), [.box 49 [.own 2], .dead, .row 52], fun t u => (t.1, t.2.1, u.2.2.1)⟩]
def poll_alarms_Pop.stps : List (Stp poll_alarms_Pop.L) := []
def poll_alarms_Pop.ash : List Sh := [.ptr 0 0]
def poll_alarms_Pop.aosh : List OSh := [.box 49 [.own 1], .row 52]
def poll_alarms_Pop.cps (k : Nat) : Cps := cpsOf poll_alarms_Pop.ash poll_alarms_Pop.aosh (fun t u => poll_alarms_Pop.f k u.2.1) poll_alarms_Pop.onR
def poll_alarms_Pop.tab (k : Nat) : List (Nat × Cps × List Bool) := []
def poll_alarms_Pop.qtab (k : Nat) : List QEnt := []
theorem poll_alarms_Pop.run (k : Nat) (t : TyL poll_alarms_Pop.ash) (u : TyO poll_alarms_Pop.aosh) : runF (orcL (poll_alarms_Pop.tab k)) (orcQ (poll_alarms_Pop.qtab k)) Try.f43 (liveS poll_alarms_Pop.stps) 2 (stpJ (poll_alarms_Pop.go k) poll_alarms_Pop.stps) (retD poll_alarms_Pop.rets) [.code (bodyOf Try.f43)] (mkS Try.f43.ntmps (upto 1) (encL poll_alarms_Pop.ash t) (encO poll_alarms_Pop.aosh u)) = poll_alarms_Pop.f k u.2.1 := by kernel_rfl
theorem poll_alarms_Pop.ok (k : Nat) : FOk Try.prog 43 (poll_alarms_Pop.cps k) := fok (fn := Try.f43) (c := bodyOf Try.f43) (by kernel_rfl) (by kernel_rfl) (by kernel_rfl) (rets := poll_alarms_Pop.rets) (onR := poll_alarms_Pop.onR) (ash := poll_alarms_Pop.ash) (aosh := poll_alarms_Pop.aosh) (F := fun t u => poll_alarms_Pop.f k u.2.1) (stps := poll_alarms_Pop.stps) (go := poll_alarms_Pop.go) (Ok := fun k => orcL (poll_alarms_Pop.tab k)) (Qk := fun k => orcQ (poll_alarms_Pop.qtab k))
  (List.forall_mem_cons.2 ⟨fun t u ρ K => rfl, List.forall_mem_nil _⟩) (by kernel_rfl) (by kernel_rfl) k (fun x => by cases x <;> rfl) (List.forall_mem_nil _)
  (List.forall_mem_nil _) (poll_alarms_Pop.run k) (fun C k r => orcL_ok r C _ (List.forall_mem_nil _)) (fun k => orcQ_ok _ (List.forall_mem_nil _))
/-! ### container/heap.Pop -/
def heap_Pop.onR (ρ : Type) (r : heap_Pop.R) (K : AV → List Ob → Option ρ) : Option ρ := K (.ifc 52 (.agg [.int .i64 r.1, .int .i64 r.2.1])) [.box 49 [.own 2], .dead, .row 52 r.2.2]
def heap_Pop.rets : List (Ret heap_Pop.R) := [⟨.ifc 52 (.agg [.int .i64, .int .i64]), [.box 49 [.own 2], .dead, .row 52], fun t u => (t.1, t.2.1, u.2.2.1)⟩]
def heap_Pop.stps : List (Stp heap_Pop.L) := []
def heap_Pop.ash : List Sh := [.ifc 47 (.ptr 0 0)]
def heap_Pop.aosh : List OSh := [.box 49 [.own 1], .row 52]
def heap_Pop.cps (k : Nat) : Cps := cpsOf heap_Pop.ash heap_Pop.aosh (fun t u => heap_Pop.f k u.2.1) heap_Pop.onR
def heap_Pop.tab (k : Nat) : List (Nat × Cps × List Bool) := [(20, poll_alarms_Len.cps k, [false]), (45, poll_alarms_Swap.cps k, [true, false, false]), (24, heap_down.cps k, [false, false, false]), (43, poll_alarms_Pop.cps k, [false])]
def heap_Pop.qtab (k : Nat) : List QEnt := []
theorem heap_Pop.run (k : Nat) (t : TyL heap_Pop.ash) (u : TyO heap_Pop.aosh) : runF (orcL (heap_Pop.tab k)) (orcQ (heap_Pop.qtab k)) Try.f21 (liveS heap_Pop.stps) 2 (stpJ (heap_Pop.go k) heap_Pop.stps) (retD heap_Pop.rets) [.code (bodyOf Try.f21)] (mkS Try.f21.ntmps (upto 1) (encL heap_Pop.ash t) (encO heap_Pop.aosh u)) = heap_Pop.f k u.2.1 := by kernel_rfl
theorem heap_Pop.ok (k : Nat) : FOk Try.prog 21 (heap_Pop.cps k) := fok (fn := Try.f21) (c := bodyOf Try.f21) (by kernel_rfl) (by kernel_rfl) (by kernel_rfl) (rets := heap_Pop.rets) (onR := heap_Pop.onR) (ash := heap_Pop.ash) (aosh := heap_Pop.aosh) (F := fun t u => heap_Pop.f k u.2.1) (stps := heap_Pop.stps) (go := heap_Pop.go) (Ok := fun k => orcL (heap_Pop.tab k)) (Qk := fun k => orcQ (heap_Pop.qtab k))
  (List.forall_mem_cons.2 ⟨fun t u ρ K => rfl, List.forall_mem_nil _⟩) (by kernel_rfl) (by kernel_rfl) k (fun x => by cases x <;> rfl) (List.forall_mem_nil _)
  (List.forall_mem_nil _) (heap_Pop.run k) (fun C k r => orcL_ok r C _ (List.forall_mem_cons.2 ⟨poll_alarms_Len.ok k, (List.forall_mem_cons.2 ⟨poll_alarms_Swap.ok k, (List.forall_mem_cons.2 ⟨heap_down.ok k, (List.forall_mem_cons.2 ⟨poll_alarms_Pop.ok k, List.forall_mem_nil _⟩)⟩)⟩)⟩)) (fun k => orcQ_ok _ (List.forall_mem_nil _))
/-! ### gangway/poll.Order -/
def poll_Order.onR (ρ : Type) (r : poll_Order.R) (K : AV → List Ob → Option ρ) : Option ρ := K (.tup [.own 0, .int .i64 r.1]) [.row 42 r.2]
def poll_Order.rets : List (Ret poll_Order.R) := [⟨.tup [.own 0, .int .i64], [.row 42], fun t u => (t.2.1, u.1)⟩]
def poll_Order.stps : List (Stp poll_Order.L) := [⟨6, [0, 1, 2, 8, 9, 21, 22, 23], [.ro 40, .int .i64, .ro 42, .own 0, .ptr 1 0, .ro 40, .int .i64, .int .i64], [.row 42, .box 49 [.own 2], .row 52], fun t u => .s6 t.1 t.2.1 t.2.2.1 t.2.2.2.2.2.1 t.2.2.2.2.2.2.1 t.2.2.2.2.2.2.2.1 u.1 u.2.2.1⟩,
  ⟨17, [0, 8, 9, 12], [.ro 40, .own 0, .ptr 1 0, .int .i64], [.row 42, .box 49 [.own 2], .row 52], fun t u => .s17 t.1 t.2.2.2.1 u.1 u.2.2.1⟩]
def poll_Order.ash : List Sh := [.ro 40, .int .i64, .ro 42]
def poll_Order.aosh : List OSh := []
def poll_Order.cps (k : Nat) : Cps := cpsOf poll_Order.ash poll_Order.aosh (fun t u => poll_Order.f k t.1 t.2.1 t.2.2.1) poll_Order.onR
def poll_Order.tab (k : Nat) : List (Nat × Cps × List Bool) := [(18, poll_may.cps k, [false, false, false]), (19, heap_Push.cps k, [false, false]), (20, poll_alarms_Len.cps k, [false]), (21, heap_Pop.cps k, [false])]
def poll_Order.qtab (k : Nat) : List QEnt := []
theorem poll_Order.run_s6 (k : Nat) (t : TyL [.ro 40, .int .i64, .ro 42, .own 0, .ptr 1 0, .ro 40, .int .i64, .int .i64]) (u : TyO [.row 42, .box 49 [.own 2], .row 52]) : runF (orcL (poll_Order.tab k)) (orcQ (poll_Order.qtab k)) Try.f10 (liveS poll_Order.stps) 0 (stpJ (poll_Order.go k) poll_Order.stps) (retD poll_Order.rets) (stackAt (bodyOf Try.f10) 6) (mkS Try.f10.ntmps [0, 1, 2, 8, 9, 21, 22, 23] (encL _ t) (encO _ u)) = poll_Order.go (k + 1) (.s6 t.1 t.2.1 t.2.2.1 t.2.2.2.2.2.1 t.2.2.2.2.2.2.1 t.2.2.2.2.2.2.2.1 u.1 u.2.2.1) := by kernel_rfl
theorem poll_Order.run_s17 (k : Nat) (t : TyL [.ro 40, .own 0, .ptr 1 0, .int .i64]) (u : TyO [.row 42, .box 49 [.own 2], .row 52]) : runF (orcL (poll_Order.tab k)) (orcQ (poll_Order.qtab k)) Try.f10 (liveS poll_Order.stps) 0 (stpJ (poll_Order.go k) poll_Order.stps) (retD poll_Order.rets) (stackAt (bodyOf Try.f10) 17) (mkS Try.f10.ntmps [0, 8, 9, 12] (encL _ t) (encO _ u)) = poll_Order.go (k + 1) (.s17 t.1 t.2.2.2.1 u.1 u.2.2.1) := by kernel_rfl
theorem poll_Order.run (k : Nat) (t : TyL poll_Order.ash) (u : TyO poll_Order.aosh) : runF (orcL (poll_Order.tab k)) (orcQ (poll_Order.qtab k)) Try.f10 (liveS poll_Order.stps) 0 (stpJ (poll_Order.go k) poll_Order.stps) (retD poll_Order.rets) [.code (bodyOf Try.f10)] (mkS Try.f10.ntmps (upto 3) (encL poll_Order.ash t) (encO poll_Order.aosh u)) = poll_Order.f k t.1 t.2.1 t.2.2.1 := by kernel_rfl
theorem poll_Order.ok (k : Nat) : FOk Try.prog 10 (poll_Order.cps k) := fok (fn := Try.f10) (c := bodyOf Try.f10) (by kernel_rfl) (by kernel_rfl) (by kernel_rfl) (rets := poll_Order.rets) (onR := poll_Order.onR) (ash := poll_Order.ash) (aosh := poll_Order.aosh) (F := fun t u => poll_Order.f k t.1 t.2.1 t.2.2.1) (stps := poll_Order.stps) (go := poll_Order.go) (Ok := fun k => orcL (poll_Order.tab k)) (Qk := fun k => orcQ (poll_Order.qtab k))
  (List.forall_mem_cons.2 ⟨fun t u ρ K => rfl, List.forall_mem_nil _⟩) (by kernel_rfl) (by kernel_rfl) k (fun x => by cases x <;> rfl) (List.forall_mem_cons.2 ⟨by kernel_rfl, (List.forall_mem_cons.2 ⟨by kernel_rfl, List.forall_mem_nil _⟩)⟩)
  (List.forall_mem_cons.2 ⟨poll_Order.run_s6, (List.forall_mem_cons.2 ⟨poll_Order.run_s17, List.forall_mem_nil _⟩)⟩) (poll_Order.run k) (fun C k r => orcL_ok r C _ (List.forall_mem_cons.2 ⟨poll_may.ok k, (List.forall_mem_cons.2 ⟨heap_Push.ok k, (List.forall_mem_cons.2 ⟨poll_alarms_Len.ok k, (List.forall_mem_cons.2 ⟨heap_Pop.ok k, List.forall_mem_nil _⟩)⟩)⟩)⟩)) (fun k => orcQ_ok _ (List.forall_mem_nil _))
/-! ### gangway/gangwaylaw24.num -/
def gangwaylaw24_num.onR (ρ : Type) (r : gangwaylaw24_num.R) (K : AV → List Ob → Option ρ) : Option ρ := K (.int .i64 r) []
def gangwaylaw24_num.rets : List (Ret gangwaylaw24_num.R) := [⟨.int .i64, [], fun t u => t⟩]
def gangwaylaw24_num.stps : List (Stp gangwaylaw24_num.L) := []
def gangwaylaw24_num.ash : List Sh := [.int .i64]
def gangwaylaw24_num.aosh : List OSh := []
def gangwaylaw24_num.cps (k : Nat) : Cps := cpsOf gangwaylaw24_num.ash gangwaylaw24_num.aosh (fun t u => gangwaylaw24_num.f k t.1) gangwaylaw24_num.onR
def gangwaylaw24_num.tab (k : Nat) : List (Nat × Cps × List Bool) := []
def gangwaylaw24_num.qtab (k : Nat) : List QEnt := []
theorem gangwaylaw24_num.run (k : Nat) (t : TyL gangwaylaw24_num.ash) (u : TyO gangwaylaw24_num.aosh) : runF (orcL (gangwaylaw24_num.tab k)) (orcQ (gangwaylaw24_num.qtab k)) Try.f11 (liveS gangwaylaw24_num.stps) 0 (stpJ (gangwaylaw24_num.go k) gangwaylaw24_num.stps) (retD gangwaylaw24_num.rets) [.code (bodyOf Try.f11)] (mkS Try.f11.ntmps (upto 1) (encL gangwaylaw24_num.ash t) (encO gangwaylaw24_num.aosh u)) = gangwaylaw24_num.f k t.1 := by kernel_rfl
theorem gangwaylaw24_num.ok (k : Nat) : FOk Try.prog 11 (gangwaylaw24_num.cps k) := fok (fn := Try.f11) (c := bodyOf Try.f11) (by kernel_rfl) (by kernel_rfl) (by kernel_rfl) (rets := gangwaylaw24_num.rets) (onR := gangwaylaw24_num.onR) (ash := gangwaylaw24_num.ash) (aosh := gangwaylaw24_num.aosh) (F := fun t u => gangwaylaw24_num.f k t.1) (stps := gangwaylaw24_num.stps) (go := gangwaylaw24_num.go) (Ok := fun k => orcL (gangwaylaw24_num.tab k)) (Qk := fun k => orcQ (gangwaylaw24_num.qtab k))
  (List.forall_mem_cons.2 ⟨fun t u ρ K => rfl, List.forall_mem_nil _⟩) (by kernel_rfl) (by kernel_rfl) k (fun x => by cases x <;> rfl) (List.forall_mem_nil _)
  (List.forall_mem_nil _) (gangwaylaw24_num.run k) (fun C k r => orcL_ok r C _ (List.forall_mem_nil _)) (fun k => orcQ_ok _ (List.forall_mem_nil _))
/-! ### gangway/gangwayref0.EqEvents -/
def gangwayref0_EqEvents.onR (ρ : Type) (r : gangwayref0_EqEvents.R) (K : AV → List Ob → Option ρ) : Option ρ := K (.bo r) []
def gangwayref0_EqEvents.rets : List (Ret gangwayref0_EqEvents.R) := [⟨.bo, [], fun t u => t⟩]
def gangwayref0_EqEvents.stps : List (Stp gangwayref0_EqEvents.L) := [⟨4, [0, 1, 5], [.ro 42, .ro 42, .int .i64], [], fun t u => .s4 t.1 t.2.1 t.2.2.1⟩]
def gangwayref0_EqEvents.ash : List Sh := [.ro 42, .ro 42]
def gangwayref0_EqEvents.aosh : List OSh := []
def gangwayref0_EqEvents.cps (k : Nat) : Cps := cpsOf gangwayref0_EqEvents.ash gangwayref0_EqEvents.aosh (fun t u => gangwayref0_EqEvents.f k t.1 t.2.1) gangwayref0_EqEvents.onR
def gangwayref0_EqEvents.tab (k : Nat) : List (Nat × Cps × List Bool) := []
def gangwayref0_EqEvents.qtab (k : Nat) : List QEnt := []
theorem gangwayref0_EqEvents.run_s4 (k : Nat) (t : TyL [.ro 42, .ro 42, .int .i64]) (u : TyO []) : runF (orcL (gangwayref0_EqEvents.tab k)) (orcQ (gangwayref0_EqEvents.qtab k)) Try.f12 (liveS gangwayref0_EqEvents.stps) 0 (stpJ (gangwayref0_EqEvents.go k) gangwayref0_EqEvents.stps) (retD gangwayref0_EqEvents.rets) (stackAt (bodyOf Try.f12) 4) (mkS Try.f12.ntmps [0, 1, 5] (encL _ t) (encO _ u)) = gangwayref0_EqEvents.go (k + 1) (.s4 t.1 t.2.1 t.2.2.1) := by kernel_rfl
theorem gangwayref0_EqEvents.run (k : Nat) (t : TyL gangwayref0_EqEvents.ash) (u : TyO gangwayref0_EqEvents.aosh) : runF (orcL (gangwayref0_EqEvents.tab k)) (orcQ (gangwayref0_EqEvents.qtab k)) Try.f12 (liveS gangwayref0_EqEvents.stps) 0 (stpJ (gangwayref0_EqEvents.go k) gangwayref0_EqEvents.stps) (retD gangwayref0_EqEvents.rets) [.code (bodyOf Try.f12)] (mkS Try.f12.ntmps (upto 2) (encL gangwayref0_EqEvents.ash t) (encO gangwayref0_EqEvents.aosh u)) = gangwayref0_EqEvents.f k t.1 t.2.1 := by kernel_rfl
theorem gangwayref0_EqEvents.ok (k : Nat) : FOk Try.prog 12 (gangwayref0_EqEvents.cps k) := fok (fn := Try.f12) (c := bodyOf Try.f12) (by kernel_rfl) (by kernel_rfl) (by kernel_rfl) (rets := gangwayref0_EqEvents.rets) (onR := gangwayref0_EqEvents.onR) (ash := gangwayref0_EqEvents.ash) (aosh := gangwayref0_EqEvents.aosh) (F := fun t u => gangwayref0_EqEvents.f k t.1 t.2.1) (stps := gangwayref0_EqEvents.stps) (go := gangwayref0_EqEvents.go) (Ok := fun k => orcL (gangwayref0_EqEvents.tab k)) (Qk := fun k => orcQ (gangwayref0_EqEvents.qtab k))
  (List.forall_mem_cons.2 ⟨fun t u ρ K => rfl, List.forall_mem_nil _⟩) (by kernel_rfl) (by kernel_rfl) k (fun x => by cases x <;> rfl) (List.forall_mem_cons.2 ⟨by kernel_rfl, List.forall_mem_nil _⟩)
  (List.forall_mem_cons.2 ⟨gangwayref0_EqEvents.run_s4, List.forall_mem_nil _⟩) (gangwayref0_EqEvents.run k) (fun C k r => orcL_ok r C _ (List.forall_mem_nil _)) (fun k => orcQ_ok _ (List.forall_mem_nil _))
/-! ### gangway/gangwayref0.EqSubs -/
def gangwayref0_EqSubs.onR (ρ : Type) (r : gangwayref0_EqSubs.R) (K : AV → List Ob → Option ρ) : Option ρ := K (.bo r) []
def gangwayref0_EqSubs.rets : List (Ret gangwayref0_EqSubs.R) := [⟨.bo, [], fun t u => t⟩]
def gangwayref0_EqSubs.stps : List (Stp gangwayref0_EqSubs.L) := [⟨4, [0, 1, 5], [.ro 40, .ro 40, .int .i64], [], fun t u => .s4 t.1 t.2.1 t.2.2.1⟩]
def gangwayref0_EqSubs.ash : List Sh := [.ro 40, .ro 40]
def gangwayref0_EqSubs.aosh : List OSh := []
def gangwayref0_EqSubs.cps (k : Nat) : Cps := cpsOf gangwayref0_EqSubs.ash gangwayref0_EqSubs.aosh (fun t u => gangwayref0_EqSubs.f k t.1 t.2.1) gangwayref0_EqSubs.onR
def gangwayref0_EqSubs.tab (k : Nat) : List (Nat × Cps × List Bool) := []
def gangwayref0_EqSubs.qtab (k : Nat) : List QEnt := []
theorem gangwayref0_EqSubs.run_s4 (k : Nat) (t : TyL [.ro 40, .ro 40, .int .i64]) (u : TyO []) : runF (orcL (gangwayref0_EqSubs.tab k)) (orcQ (gangwayref0_EqSubs.qtab k)) Try.f13 (liveS gangwayref0_EqSubs.stps) 0 (stpJ (gangwayref0_EqSubs.go k) gangwayref0_EqSubs.stps) (retD gangwayref0_EqSubs.rets) (stackAt (bodyOf Try.f13) 4) (mkS Try.f13.ntmps [0, 1, 5] (encL _ t) (encO _ u)) = gangwayref0_EqSubs.go (k + 1) (.s4 t.1 t.2.1 t.2.2.1) := by kernel_rfl
theorem gangwayref0_EqSubs.run (k : Nat) (t : TyL gangwayref0_EqSubs.ash) (u : TyO gangwayref0_EqSubs.aosh) : runF (orcL (gangwayref0_EqSubs.tab k)) (orcQ (gangwayref0_EqSubs.qtab k)) Try.f13 (liveS gangwayref0_EqSubs.stps) 0 (stpJ (gangwayref0_EqSubs.go k) gangwayref0_EqSubs.stps) (retD gangwayref0_EqSubs.rets) [.code (bodyOf Try.f13)] (mkS Try.f13.ntmps (upto 2) (encL gangwayref0_EqSubs.ash t) (encO gangwayref0_EqSubs.aosh u)) = gangwayref0_EqSubs.f k t.1 t.2.1 := by kernel_rfl
theorem gangwayref0_EqSubs.ok (k : Nat) : FOk Try.prog 13 (gangwayref0_EqSubs.cps k) := fok (fn := Try.f13) (c := bodyOf Try.f13) (by kernel_rfl) (by kernel_rfl) (by kernel_rfl) (rets := gangwayref0_EqSubs.rets) (onR := gangwayref0_EqSubs.onR) (ash := gangwayref0_EqSubs.ash) (aosh := gangwayref0_EqSubs.aosh) (F := fun t u => gangwayref0_EqSubs.f k t.1 t.2.1) (stps := gangwayref0_EqSubs.stps) (go := gangwayref0_EqSubs.go) (Ok := fun k => orcL (gangwayref0_EqSubs.tab k)) (Qk := fun k => orcQ (gangwayref0_EqSubs.qtab k))
  (List.forall_mem_cons.2 ⟨fun t u ρ K => rfl, List.forall_mem_nil _⟩) (by kernel_rfl) (by kernel_rfl) k (fun x => by cases x <;> rfl) (List.forall_mem_cons.2 ⟨by kernel_rfl, List.forall_mem_nil _⟩)
  (List.forall_mem_cons.2 ⟨gangwayref0_EqSubs.run_s4, List.forall_mem_nil _⟩) (gangwayref0_EqSubs.run k) (fun C k r => orcL_ok r C _ (List.forall_mem_nil _)) (fun k => orcQ_ok _ (List.forall_mem_nil _))
/-! ### gangway/gangwaylaw24.wakes -/
def gangwaylaw24_wakes.onR (ρ : Type) (r : gangwaylaw24_wakes.R) (K : AV → List Ob → Option ρ) : Option ρ := K (.bo r) []
def gangwaylaw24_wakes.rets : List (Ret gangwaylaw24_wakes.R) := [⟨.bo, [], fun t u => t⟩]
def gangwaylaw24_wakes.stps : List (Stp gangwaylaw24_wakes.L) := []
def gangwaylaw24_wakes.ash : List Sh := []
def gangwaylaw24_wakes.aosh : List OSh := []
def gangwaylaw24_wakes.cps (k : Nat) : Cps := cpsOf gangwaylaw24_wakes.ash gangwaylaw24_wakes.aosh (fun t u => gangwaylaw24_wakes.f k) gangwaylaw24_wakes.onR
def gangwaylaw24_wakes.tab (k : Nat) : List (Nat × Cps × List Bool) := [(10, poll_Order.cps k, [false, false, false]), (11, gangwaylaw24_num.cps k, [false]), (12, gangwayref0_EqEvents.cps k, [false, false])]
def gangwaylaw24_wakes.qtab (k : Nat) : List QEnt := []
theorem gangwaylaw24_wakes.run (k : Nat) (t : TyL gangwaylaw24_wakes.ash) (u : TyO gangwaylaw24_wakes.aosh) : runF (orcL (gangwaylaw24_wakes.tab k)) (orcQ (gangwaylaw24_wakes.qtab k)) Try.f14 (liveS gangwaylaw24_wakes.stps) 0 (stpJ (gangwaylaw24_wakes.go k) gangwaylaw24_wakes.stps) (retD gangwaylaw24_wakes.rets) [.code (bodyOf Try.f14)] (mkS Try.f14.ntmps (upto 0) (encL gangwaylaw24_wakes.ash t) (encO gangwaylaw24_wakes.aosh u)) = gangwaylaw24_wakes.f k := by kernel_rfl
theorem gangwaylaw24_wakes.ok (k : Nat) : FOk Try.prog 14 (gangwaylaw24_wakes.cps k) := fok (fn := Try.f14) (c := bodyOf Try.f14) (by kernel_rfl) (by kernel_rfl) (by kernel_rfl) (rets := gangwaylaw24_wakes.rets) (onR := gangwaylaw24_wakes.onR) (ash := gangwaylaw24_wakes.ash) (aosh := gangwaylaw24_wakes.aosh) (F := fun t u => gangwaylaw24_wakes.f k) (stps := gangwaylaw24_wakes.stps) (go := gangwaylaw24_wakes.go) (Ok := fun k => orcL (gangwaylaw24_wakes.tab k)) (Qk := fun k => orcQ (gangwaylaw24_wakes.qtab k))
  (List.forall_mem_cons.2 ⟨fun t u ρ K => rfl, List.forall_mem_nil _⟩) (by kernel_rfl) (by kernel_rfl) k (fun x => by cases x <;> rfl) (List.forall_mem_nil _)
  (List.forall_mem_nil _) (gangwaylaw24_wakes.run k) (fun C k r => orcL_ok r C _ (List.forall_mem_cons.2 ⟨poll_Order.ok k, (List.forall_mem_cons.2 ⟨gangwaylaw24_num.ok k, (List.forall_mem_cons.2 ⟨gangwayref0_EqEvents.ok k, List.forall_mem_nil _⟩)⟩)⟩)) (fun k => orcQ_ok _ (List.forall_mem_nil _))
/-! ### gangway/gangwaylaw24.PollExact -/
def gangwaylaw24_PollExact.onR (ρ : Type) (r : gangwaylaw24_PollExact.R) (K : AV → List Ob → Option ρ) : Option ρ := K (.bo r) []
def gangwaylaw24_PollExact.rets : List (Ret gangwaylaw24_PollExact.R) := [⟨.bo, [], fun t u => t⟩]
def gangwaylaw24_PollExact.stps : List (Stp gangwaylaw24_PollExact.L) := [⟨2, [0, 3], [.ro 26, .int .i64], [], fun t u => .s2 t.1 t.2.1⟩]
def gangwaylaw24_PollExact.ash : List Sh := [.ro 26]
def gangwaylaw24_PollExact.aosh : List OSh := []
def gangwaylaw24_PollExact.cps (k : Nat) : Cps := cpsOf gangwaylaw24_PollExact.ash gangwaylaw24_PollExact.aosh (fun t u => gangwaylaw24_PollExact.f k t.1) gangwaylaw24_PollExact.onR
def gangwaylaw24_PollExact.tab (k : Nat) : List (Nat × Cps × List Bool) := [(6, gangwayref23_MayOrder.cps k, [false, false, false]), (7, gangwayref23_Order.cps k, [false, false, false]), (8, gangwayref0_CopySubs.cps k, [false]), (9, gangwayref0_CopyEvents.cps k, [false]), (10, poll_Order.cps k, [false, false, false]), (11, gangwaylaw24_num.cps k, [false]), (12, gangwayref0_EqEvents.cps k, [false, false]), (13, gangwayref0_EqSubs.cps k, [false, false]), (14, gangwaylaw24_wakes.cps k, [])]
def gangwaylaw24_PollExact.qtab (k : Nat) : List QEnt := []
theorem gangwaylaw24_PollExact.run_s2 (k : Nat) (t : TyL [.ro 26, .int .i64]) (u : TyO []) : runF (orcL (gangwaylaw24_PollExact.tab k)) (orcQ (gangwaylaw24_PollExact.qtab k)) Try.f3 (liveS gangwaylaw24_PollExact.stps) 0 (stpJ (gangwaylaw24_PollExact.go k) gangwaylaw24_PollExact.stps) (retD gangwaylaw24_PollExact.rets) (stackAt (bodyOf Try.f3) 2) (mkS Try.f3.ntmps [0, 3] (encL _ t) (encO _ u)) = gangwaylaw24_PollExact.go (k + 1) (.s2 t.1 t.2.1) := by kernel_rfl
theorem gangwaylaw24_PollExact.run (k : Nat) (t : TyL gangwaylaw24_PollExact.ash) (u : TyO gangwaylaw24_PollExact.aosh) : runF (orcL (gangwaylaw24_PollExact.tab k)) (orcQ (gangwaylaw24_PollExact.qtab k)) Try.f3 (liveS gangwaylaw24_PollExact.stps) 0 (stpJ (gangwaylaw24_PollExact.go k) gangwaylaw24_PollExact.stps) (retD gangwaylaw24_PollExact.rets) [.code (bodyOf Try.f3)] (mkS Try.f3.ntmps (upto 1) (encL gangwaylaw24_PollExact.ash t) (encO gangwaylaw24_PollExact.aosh u)) = gangwaylaw24_PollExact.f k t.1 := by kernel_rfl
theorem gangwaylaw24_PollExact.ok (k : Nat) : FOk Try.prog 3 (gangwaylaw24_PollExact.cps k) := fok (fn := Try.f3) (c := bodyOf Try.f3) (by kernel_rfl) (by kernel_rfl) (by kernel_rfl) (rets := gangwaylaw24_PollExact.rets) (onR := gangwaylaw24_PollExact.onR) (ash := gangwaylaw24_PollExact.ash) (aosh := gangwaylaw24_PollExact.aosh) (F := fun t u => gangwaylaw24_PollExact.f k t.1) (stps := gangwaylaw24_PollExact.stps) (go := gangwaylaw24_PollExact.go) (Ok := fun k => orcL (gangwaylaw24_PollExact.tab k)) (Qk := fun k => orcQ (gangwaylaw24_PollExact.qtab k))
  (List.forall_mem_cons.2 ⟨fun t u ρ K => rfl, List.forall_mem_nil _⟩) (by kernel_rfl) (by kernel_rfl) k (fun x => by cases x <;> rfl) (List.forall_mem_cons.2 ⟨by kernel_rfl, List.forall_mem_nil _⟩)
  (List.forall_mem_cons.2 ⟨gangwaylaw24_PollExact.run_s2, List.forall_mem_nil _⟩) (gangwaylaw24_PollExact.run k) (fun C k r => orcL_ok r C _ (List.forall_mem_cons.2 ⟨gangwayref23_MayOrder.ok k, (List.forall_mem_cons.2 ⟨gangwayref23_Order.ok k, (List.forall_mem_cons.2 ⟨gangwayref0_CopySubs.ok k, (List.forall_mem_cons.2 ⟨gangwayref0_CopyEvents.ok k, (List.forall_mem_cons.2 ⟨poll_Order.ok k, (List.forall_mem_cons.2 ⟨gangwaylaw24_num.ok k, (List.forall_mem_cons.2 ⟨gangwayref0_EqEvents.ok k, (List.forall_mem_cons.2 ⟨gangwayref0_EqSubs.ok k, (List.forall_mem_cons.2 ⟨gangwaylaw24_wakes.ok k, List.forall_mem_nil _⟩)⟩)⟩)⟩)⟩)⟩)⟩)⟩)⟩)) (fun k => orcQ_ok _ (List.forall_mem_nil _))
/-! ### gangway/gangwaylaw24.PollSome -/
def gangwaylaw24_PollSome.onR (ρ : Type) (r : gangwaylaw24_PollSome.R) (K : AV → List Ob → Option ρ) : Option ρ := K (.bo r) []
def gangwaylaw24_PollSome.rets : List (Ret gangwaylaw24_PollSome.R) := [⟨.bo, [], fun t u => t⟩]
def gangwaylaw24_PollSome.stps : List (Stp gangwaylaw24_PollSome.L) := [⟨2, [0, 3], [.ro 26, .int .i64], [], fun t u => .s2 t.1 t.2.1⟩,
  ⟨10, [0, 3, 4, 5, 6, 7], [.ro 26, .int .i64, .ptr 0 0, .own 1, .own 2, .int .i64], [.box 26 [.ro 40, .int .i64, .ro 42], .row 40, .row 42], fun t u => .s10 t.1 t.2.1 t.2.2.2.2.2.1 u.1.1 u.1.2.1 u.1.2.2.1 u.2.1 u.2.2.1⟩,
  ⟨14, [0, 3, 4, 5, 6, 8], [.ro 26, .int .i64, .ptr 0 0, .own 1, .own 2, .int .i64], [.box 26 [.ro 40, .int .i64, .ro 42], .row 40, .row 42], fun t u => .s14 t.1 t.2.1 t.2.2.2.2.2.1 u.1.1 u.1.2.1 u.1.2.2.1 u.2.1 u.2.2.1⟩,
  ⟨24, [0, 3, 4, 5, 9, 11, 12, 13], [.ro 26, .int .i64, .ptr 0 0, .own 1, .own 2, .ptr 3 0, .int .i64, .int .i64], [.box 26 [.ro 40, .int .i64, .ro 42], .row 40, .row 42, .arr 43 4], fun t u => .s24 t.1 t.2.1 t.2.2.2.2.2.2.1 t.2.2.2.2.2.2.2.1 u.1.1 u.1.2.1 u.1.2.2.1 u.2.1 u.2.2.1 u.2.2.2.1⟩,
  ⟨30, [0, 3, 4, 5, 9, 11, 12, 14, 15], [.ro 26, .int .i64, .ptr 0 0, .own 1, .own 2, .ptr 3 0, .int .i64, .int .i64, .int .i64], [.box 26 [.ro 40, .int .i64, .ro 42], .row 40, .row 42, .arr 43 4], fun t u => .s30 t.1 t.2.1 t.2.2.2.2.2.2.1 t.2.2.2.2.2.2.2.1 t.2.2.2.2.2.2.2.2.1 u.1.1 u.1.2.1 u.1.2.2.1 u.2.1 u.2.2.1 u.2.2.2.1⟩]
def gangwaylaw24_PollSome.ash : List Sh := [.ro 26]
def gangwaylaw24_PollSome.aosh : List OSh := []
def gangwaylaw24_PollSome.cps (k : Nat) : Cps := cpsOf gangwaylaw24_PollSome.ash gangwaylaw24_PollSome.aosh (fun t u => gangwaylaw24_PollSome.f k t.1) gangwaylaw24_PollSome.onR
def gangwaylaw24_PollSome.tab (k : Nat) : List (Nat × Cps × List Bool) := [(8, gangwayref0_CopySubs.cps k, [false]), (9, gangwayref0_CopyEvents.cps k, [false]), (14, gangwaylaw24_wakes.cps k, []), (10, poll_Order.cps k, [false, false, false]), (11, gangwaylaw24_num.cps k, [false])]
def gangwaylaw24_PollSome.qtab (k : Nat) : List QEnt := []
theorem gangwaylaw24_PollSome.run_s2 (k : Nat) (t : TyL [.ro 26, .int .i64]) (u : TyO []) : runF (orcL (gangwaylaw24_PollSome.tab k)) (orcQ (gangwaylaw24_PollSome.qtab k)) Try.f4 (liveS gangwaylaw24_PollSome.stps) 0 (stpJ (gangwaylaw24_PollSome.go k) gangwaylaw24_PollSome.stps) (retD gangwaylaw24_PollSome.rets) (stackAt (bodyOf Try.f4) 2) (mkS Try.f4.ntmps [0, 3] (encL _ t) (encO _ u)) = gangwaylaw24_PollSome.go (k + 1) (.s2 t.1 t.2.1) := by kernel_rfl
theorem gangwaylaw24_PollSome.run_s10 (k : Nat) (t : TyL [.ro 26, .int .i64, .ptr 0 0, .own 1, .own 2, .int .i64]) (u : TyO [.box 26 [.ro 40, .int .i64, .ro 42], .row 40, .row 42]) : runF (orcL (gangwaylaw24_PollSome.tab k)) (orcQ (gangwaylaw24_PollSome.qtab k)) Try.f4 (liveS gangwaylaw24_PollSome.stps) 0 (stpJ (gangwaylaw24_PollSome.go k) gangwaylaw24_PollSome.stps) (retD gangwaylaw24_PollSome.rets) (stackAt (bodyOf Try.f4) 10) (mkS Try.f4.ntmps [0, 3, 4, 5, 6, 7] (encL _ t) (encO _ u)) = gangwaylaw24_PollSome.go (k + 1) (.s10 t.1 t.2.1 t.2.2.2.2.2.1 u.1.1 u.1.2.1 u.1.2.2.1 u.2.1 u.2.2.1) := by kernel_rfl
theorem gangwaylaw24_PollSome.run_s14 (k : Nat) (t : TyL [.ro 26, .int .i64, .ptr 0 0, .own 1, .own 2, .int .i64]) (u : TyO [.box 26 [.ro 40, .int .i64, .ro 42], .row 40, .row 42]) : runF (orcL (gangwaylaw24_PollSome.tab k)) (orcQ (gangwaylaw24_PollSome.qtab k)) Try.f4 (liveS gangwaylaw24_PollSome.stps) 0 (stpJ (gangwaylaw24_PollSome.go k) gangwaylaw24_PollSome.stps) (retD gangwaylaw24_PollSome.rets) (stackAt (bodyOf Try.f4) 14) (mkS Try.f4.ntmps [0, 3, 4, 5, 6, 8] (encL _ t) (encO _ u)) = gangwaylaw24_PollSome.go (k + 1) (.s14 t.1 t.2.1 t.2.2.2.2.2.1 u.1.1 u.1.2.1 u.1.2.2.1 u.2.1 u.2.2.1) := by kernel_rfl
theorem gangwaylaw24_PollSome.run_s24 (k : Nat) (t : TyL [.ro 26, .int .i64, .ptr 0 0, .own 1, .own 2, .ptr 3 0, .int .i64, .int .i64]) (u : TyO [.box 26 [.ro 40, .int .i64, .ro 42], .row 40, .row 42, .arr 43 4]) : runF (orcL (gangwaylaw24_PollSome.tab k)) (orcQ (gangwaylaw24_PollSome.qtab k)) Try.f4 (liveS gangwaylaw24_PollSome.stps) 0 (stpJ (gangwaylaw24_PollSome.go k) gangwaylaw24_PollSome.stps) (retD gangwaylaw24_PollSome.rets) (stackAt (bodyOf Try.f4) 24) (mkS Try.f4.ntmps [0, 3, 4, 5, 9, 11, 12, 13] (encL _ t) (encO _ u)) = gangwaylaw24_PollSome.go (k + 1) (.s24 t.1 t.2.1 t.2.2.2.2.2.2.1 t.2.2.2.2.2.2.2.1 u.1.1 u.1.2.1 u.1.2.2.1 u.2.1 u.2.2.1 u.2.2.2.1) := by kernel_rfl
theorem gangwaylaw24_PollSome.run_s30 (k : Nat) (t : TyL [.ro 26, .int .i64, .ptr 0 0, .own 1, .own 2, .ptr 3 0, .int .i64, .int .i64, .int .i64]) (u : TyO [.box 26 [.ro 40, .int .i64, .ro 42], .row 40, .row 42, .arr 43 4]) : runF (orcL (gangwaylaw24_PollSome.tab k)) (orcQ (gangwaylaw24_PollSome.qtab k)) Try.f4 (liveS gangwaylaw24_PollSome.stps) 0 (stpJ (gangwaylaw24_PollSome.go k) gangwaylaw24_PollSome.stps) (retD gangwaylaw24_PollSome.rets) (stackAt (bodyOf Try.f4) 30) (mkS Try.f4.ntmps [0, 3, 4, 5, 9, 11, 12, 14, 15] (encL _ t) (encO _ u)) = gangwaylaw24_PollSome.go (k + 1) (.s30 t.1 t.2.1 t.2.2.2.2.2.2.1 t.2.2.2.2.2.2.2.1 t.2.2.2.2.2.2.2.2.1 u.1.1 u.1.2.1 u.1.2.2.1 u.2.1 u.2.2.1 u.2.2.2.1) := by kernel_rfl
theorem gangwaylaw24_PollSome.run (k : Nat) (t : TyL gangwaylaw24_PollSome.ash) (u : TyO gangwaylaw24_PollSome.aosh) : runF (orcL (gangwaylaw24_PollSome.tab k)) (orcQ (gangwaylaw24_PollSome.qtab k)) Try.f4 (liveS gangwaylaw24_PollSome.stps) 0 (stpJ (gangwaylaw24_PollSome.go k) gangwaylaw24_PollSome.stps) (retD gangwaylaw24_PollSome.rets) [.code (bodyOf Try.f4)] (mkS Try.f4.ntmps (upto 1) (encL gangwaylaw24_PollSome.ash t) (encO gangwaylaw24_PollSome.aosh u)) = gangwaylaw24_PollSome.f k t.1 := by kernel_rfl
theorem gangwaylaw24_PollSome.ok (k : Nat) : FOk Try.prog 4 (gangwaylaw24_PollSome.cps k) := fok (fn := Try.f4) (c := bodyOf Try.f4) (by kernel_rfl) (by kernel_rfl) (by kernel_rfl) (rets := gangwaylaw24_PollSome.rets) (onR := gangwaylaw24_PollSome.onR) (ash := gangwaylaw24_PollSome.ash) (aosh := gangwaylaw24_PollSome.aosh) (F := fun t u => gangwaylaw24_PollSome.f k t.1) (stps := gangwaylaw24_PollSome.stps) (go := gangwaylaw24_PollSome.go) (Ok := fun k => orcL (gangwaylaw24_PollSome.tab k)) (Qk := fun k => orcQ (gangwaylaw24_PollSome.qtab k))
  (List.forall_mem_cons.2 ⟨fun t u ρ K => rfl, List.forall_mem_nil _⟩) (by kernel_rfl) (by kernel_rfl) k (fun x => by cases x <;> rfl) (List.forall_mem_cons.2 ⟨by kernel_rfl, (List.forall_mem_cons.2 ⟨by kernel_rfl, (List.forall_mem_cons.2 ⟨by kernel_rfl, (List.forall_mem_cons.2 ⟨by kernel_rfl, (List.forall_mem_cons.2 ⟨by kernel_rfl, List.forall_mem_nil _⟩)⟩)⟩)⟩)⟩)
  (List.forall_mem_cons.2 ⟨gangwaylaw24_PollSome.run_s2, (List.forall_mem_cons.2 ⟨gangwaylaw24_PollSome.run_s10, (List.forall_mem_cons.2 ⟨gangwaylaw24_PollSome.run_s14, (List.forall_mem_cons.2 ⟨gangwaylaw24_PollSome.run_s24, (List.forall_mem_cons.2 ⟨gangwaylaw24_PollSome.run_s30, List.forall_mem_nil _⟩)⟩)⟩)⟩)⟩) (gangwaylaw24_PollSome.run k) (fun C k r => orcL_ok r C _ (List.forall_mem_cons.2 ⟨gangwayref0_CopySubs.ok k, (List.forall_mem_cons.2 ⟨gangwayref0_CopyEvents.ok k, (List.forall_mem_cons.2 ⟨gangwaylaw24_wakes.ok k, (List.forall_mem_cons.2 ⟨poll_Order.ok k, (List.forall_mem_cons.2 ⟨gangwaylaw24_num.ok k, List.forall_mem_nil _⟩)⟩)⟩)⟩)⟩)) (fun k => orcQ_ok _ (List.forall_mem_nil _))
/-! ### gangway/gangwaylaw24.at -/
def gangwaylaw24_at.onR (ρ : Type) (r : gangwaylaw24_at.R) (K : AV → List Ob → Option ρ) : Option ρ := K (.int .i64 r) []
def gangwaylaw24_at.rets : List (Ret gangwaylaw24_at.R) := [⟨.int .i64, [], fun t u => t⟩]
def gangwaylaw24_at.stps : List (Stp gangwaylaw24_at.L) := []
def gangwaylaw24_at.ash : List Sh := [.agg [.int .i64, .int .i64, .int .i64, .int .i64, .bo], .int .i64]
def gangwaylaw24_at.aosh : List OSh := []
def gangwaylaw24_at.cps (k : Nat) : Cps := cpsOf gangwaylaw24_at.ash gangwaylaw24_at.aosh (fun t u => gangwaylaw24_at.f k t.1.1 t.1.2.1 t.1.2.2.1 t.1.2.2.2.1 t.1.2.2.2.2.1 t.2.1) gangwaylaw24_at.onR
def gangwaylaw24_at.tab (k : Nat) : List (Nat × Cps × List Bool) := []
def gangwaylaw24_at.qtab (k : Nat) : List QEnt := []
theorem gangwaylaw24_at.run (k : Nat) (t : TyL gangwaylaw24_at.ash) (u : TyO gangwaylaw24_at.aosh) : runF (orcL (gangwaylaw24_at.tab k)) (orcQ (gangwaylaw24_at.qtab k)) Try.f15 (liveS gangwaylaw24_at.stps) 0 (stpJ (gangwaylaw24_at.go k) gangwaylaw24_at.stps) (retD gangwaylaw24_at.rets) [.code (bodyOf Try.f15)] (mkS Try.f15.ntmps (upto 2) (encL gangwaylaw24_at.ash t) (encO gangwaylaw24_at.aosh u)) = gangwaylaw24_at.f k t.1.1 t.1.2.1 t.1.2.2.1 t.1.2.2.2.1 t.1.2.2.2.2.1 t.2.1 := by kernel_rfl
theorem gangwaylaw24_at.ok (k : Nat) : FOk Try.prog 15 (gangwaylaw24_at.cps k) := fok (fn := Try.f15) (c := bodyOf Try.f15) (by kernel_rfl) (by kernel_rfl) (by kernel_rfl) (rets := gangwaylaw24_at.rets) (onR := gangwaylaw24_at.onR) (ash := gangwaylaw24_at.ash) (aosh := gangwaylaw24_at.aosh) (F := fun t u => gangwaylaw24_at.f k t.1.1 t.1.2.1 t.1.2.2.1 t.1.2.2.2.1 t.1.2.2.2.2.1 t.2.1) (stps := gangwaylaw24_at.stps) (go := gangwaylaw24_at.go) (Ok := fun k => orcL (gangwaylaw24_at.tab k)) (Qk := fun k => orcQ (gangwaylaw24_at.qtab k))
  (List.forall_mem_cons.2 ⟨fun t u ρ K => rfl, List.forall_mem_nil _⟩) (by kernel_rfl) (by kernel_rfl) k (fun x => by cases x <;> rfl) (List.forall_mem_nil _)
  (List.forall_mem_nil _) (gangwaylaw24_at.run k) (fun C k r => orcL_ok r C _ (List.forall_mem_nil _)) (fun k => orcQ_ok _ (List.forall_mem_nil _))
/-! ### gangway/gangwaylaw24.PollClocks -/
def gangwaylaw24_PollClocks.onR (ρ : Type) (r : gangwaylaw24_PollClocks.R) (K : AV → List Ob → Option ρ) : Option ρ := K (.bo r) []
def gangwaylaw24_PollClocks.rets : List (Ret gangwaylaw24_PollClocks.R) := [⟨.bo, [], fun t u => t⟩]
def gangwaylaw24_PollClocks.stps : List (Stp gangwaylaw24_PollClocks.L) := [⟨2, [0, 3], [.ro 26, .int .i64], [], fun t u => .s2 t.1 t.2.1⟩,
  ⟨8, [0, 3, 4, 5, 6], [.ro 26, .int .i64, .ptr 0 0, .own 1, .int .i64], [.box 26 [.ro 40, .int .i64, .ro 42], .row 40], fun t u => .s8 t.1 t.2.1 t.2.2.2.2.1 u.1.1 u.1.2.1 u.1.2.2.1 u.2.1⟩,
  ⟨19, [0, 3, 4, 5, 7, 9, 10, 11], [.ro 26, .int .i64, .ptr 0 0, .own 1, .own 2, .int .i64, .int .i64, .int .i64], [.box 26 [.ro 40, .int .i64, .ro 42], .row 40, .row 42], fun t u => .s19 t.1 t.2.1 t.2.2.2.2.2.1 t.2.2.2.2.2.2.1 t.2.2.2.2.2.2.2.1 u.1.1 u.1.2.1 u.1.2.2.1 u.2.1 u.2.2.1⟩,
  ⟨28, [0, 3, 4, 5, 7, 9, 10, 13, 14], [.ro 26, .int .i64, .ptr 0 0, .own 1, .own 2, .int .i64, .int .i64, .int .i64, .int .i64], [.box 26 [.ro 40, .int .i64, .ro 42], .row 40, .row 42], fun t u => .s28 t.1 t.2.1 t.2.2.2.2.2.1 t.2.2.2.2.2.2.1 t.2.2.2.2.2.2.2.1 t.2.2.2.2.2.2.2.2.1 u.1.1 u.1.2.1 u.1.2.2.1 u.2.1 u.2.2.1⟩,
  ⟨35, [0, 3, 4, 5, 7, 9, 10, 15], [.ro 26, .int .i64, .ptr 0 0, .own 1, .own 2, .int .i64, .int .i64, .int .i64], [.box 26 [.ro 40, .int .i64, .ro 42], .row 40, .row 42], fun t u => .s35 t.1 t.2.1 t.2.2.2.2.2.1 t.2.2.2.2.2.2.1 t.2.2.2.2.2.2.2.1 u.1.1 u.1.2.1 u.1.2.2.1 u.2.1 u.2.2.1⟩]
def gangwaylaw24_PollClocks.ash : List Sh := [.ro 26]
def gangwaylaw24_PollClocks.aosh : List OSh := []
def gangwaylaw24_PollClocks.cps (k : Nat) : Cps := cpsOf gangwaylaw24_PollClocks.ash gangwaylaw24_PollClocks.aosh (fun t u => gangwaylaw24_PollClocks.f k t.1) gangwaylaw24_PollClocks.onR
def gangwaylaw24_PollClocks.tab (k : Nat) : List (Nat × Cps × List Bool) := [(14, gangwaylaw24_wakes.cps k, []), (10, poll_Order.cps k, [false, false, false]), (11, gangwaylaw24_num.cps k, [false])]
def gangwaylaw24_PollClocks.qtab (k : Nat) : List QEnt := [⟨15, gangwaylaw24_at.ash, gangwaylaw24_at.R, fun t => gangwaylaw24_at.f k t.1.1 t.1.2.1 t.1.2.2.1 t.1.2.2.2.1 t.1.2.2.2.2.1 t.2.1, fun r => .int .i64 r⟩]
theorem gangwaylaw24_PollClocks.run_s2 (k : Nat) (t : TyL [.ro 26, .int .i64]) (u : TyO []) : runF (orcL (gangwaylaw24_PollClocks.tab k)) (orcQ (gangwaylaw24_PollClocks.qtab k)) Try.f5 (liveS gangwaylaw24_PollClocks.stps) 0 (stpJ (gangwaylaw24_PollClocks.go k) gangwaylaw24_PollClocks.stps) (retD gangwaylaw24_PollClocks.rets) (stackAt (bodyOf Try.f5) 2) (mkS Try.f5.ntmps [0, 3] (encL _ t) (encO _ u)) = gangwaylaw24_PollClocks.go (k + 1) (.s2 t.1 t.2.1) := by kernel_rfl
theorem gangwaylaw24_PollClocks.run_s8 (k : Nat) (t : TyL [.ro 26, .int .i64, .ptr 0 0, .own 1, .int .i64]) (u : TyO [.box 26 [.ro 40, .int .i64, .ro 42], .row 40]) : runF (orcL (gangwaylaw24_PollClocks.tab k)) (orcQ (gangwaylaw24_PollClocks.qtab k)) Try.f5 (liveS gangwaylaw24_PollClocks.stps) 0 (stpJ (gangwaylaw24_PollClocks.go k) gangwaylaw24_PollClocks.stps) (retD gangwaylaw24_PollClocks.rets) (stackAt (bodyOf Try.f5) 8) (mkS Try.f5.ntmps [0, 3, 4, 5, 6] (encL _ t) (encO _ u)) = gangwaylaw24_PollClocks.go (k + 1) (.s8 t.1 t.2.1 t.2.2.2.2.1 u.1.1 u.1.2.1 u.1.2.2.1 u.2.1) := by kernel_rfl
theorem gangwaylaw24_PollClocks.run_s19 (k : Nat) (t : TyL [.ro 26, .int .i64, .ptr 0 0, .own 1, .own 2, .int .i64, .int .i64, .int .i64]) (u : TyO [.box 26 [.ro 40, .int .i64, .ro 42], .row 40, .row 42]) : runF (orcL (gangwaylaw24_PollClocks.tab k)) (orcQ (gangwaylaw24_PollClocks.qtab k)) Try.f5 (liveS gangwaylaw24_PollClocks.stps) 0 (stpJ (gangwaylaw24_PollClocks.go k) gangwaylaw24_PollClocks.stps) (retD gangwaylaw24_PollClocks.rets) (stackAt (bodyOf Try.f5) 19) (mkS Try.f5.ntmps [0, 3, 4, 5, 7, 9, 10, 11] (encL _ t) (encO _ u)) = gangwaylaw24_PollClocks.go (k + 1) (.s19 t.1 t.2.1 t.2.2.2.2.2.1 t.2.2.2.2.2.2.1 t.2.2.2.2.2.2.2.1 u.1.1 u.1.2.1 u.1.2.2.1 u.2.1 u.2.2.1) := by kernel_rfl
theorem gangwaylaw24_PollClocks.run_s28 (k : Nat) (t : TyL [.ro 26, .int .i64, .ptr 0 0, .own 1, .own 2, .int .i64, .int .i64, .int .i64, .int .i64]) (u : TyO [.box 26 [.ro 40, .int .i64, .ro 42], .row 40, .row 42]) : runF (orcL (gangwaylaw24_PollClocks.tab k)) (orcQ (gangwaylaw24_PollClocks.qtab k)) Try.f5 (liveS gangwaylaw24_PollClocks.stps) 0 (stpJ (gangwaylaw24_PollClocks.go k) gangwaylaw24_PollClocks.stps) (retD gangwaylaw24_PollClocks.rets) (stackAt (bodyOf Try.f5) 28) (mkS Try.f5.ntmps [0, 3, 4, 5, 7, 9, 10, 13, 14] (encL _ t) (encO _ u)) = gangwaylaw24_PollClocks.go (k + 1) (.s28 t.1 t.2.1 t.2.2.2.2.2.1 t.2.2.2.2.2.2.1 t.2.2.2.2.2.2.2.1 t.2.2.2.2.2.2.2.2.1 u.1.1 u.1.2.1 u.1.2.2.1 u.2.1 u.2.2.1) := by kernel_rfl
theorem gangwaylaw24_PollClocks.run_s35 (k : Nat) (t : TyL [.ro 26, .int .i64, .ptr 0 0, .own 1, .own 2, .int .i64, .int .i64, .int .i64]) (u : TyO [.box 26 [.ro 40, .int .i64, .ro 42], .row 40, .row 42]) : runF (orcL (gangwaylaw24_PollClocks.tab k)) (orcQ (gangwaylaw24_PollClocks.qtab k)) Try.f5 (liveS gangwaylaw24_PollClocks.stps) 0 (stpJ (gangwaylaw24_PollClocks.go k) gangwaylaw24_PollClocks.stps) (retD gangwaylaw24_PollClocks.rets) (stackAt (bodyOf Try.f5) 35) (mkS Try.f5.ntmps [0, 3, 4, 5, 7, 9, 10, 15] (encL _ t) (encO _ u)) = gangwaylaw24_PollClocks.go (k + 1) (.s35 t.1 t.2.1 t.2.2.2.2.2.1 t.2.2.2.2.2.2.1 t.2.2.2.2.2.2.2.1 u.1.1 u.1.2.1 u.1.2.2.1 u.2.1 u.2.2.1) := by kernel_rfl
theorem gangwaylaw24_PollClocks.run (k : Nat) (t : TyL gangwaylaw24_PollClocks.ash) (u : TyO gangwaylaw24_PollClocks.aosh) : runF (orcL (gangwaylaw24_PollClocks.tab k)) (orcQ (gangwaylaw24_PollClocks.qtab k)) Try.f5 (liveS gangwaylaw24_PollClocks.stps) 0 (stpJ (gangwaylaw24_PollClocks.go k) gangwaylaw24_PollClocks.stps) (retD gangwaylaw24_PollClocks.rets) [.code (bodyOf Try.f5)] (mkS Try.f5.ntmps (upto 1) (encL gangwaylaw24_PollClocks.ash t) (encO gangwaylaw24_PollClocks.aosh u)) = gangwaylaw24_PollClocks.f k t.1 := by kernel_rfl
theorem gangwaylaw24_PollClocks.ok (k : Nat) : FOk Try.prog 5 (gangwaylaw24_PollClocks.cps k) := fok (fn := Try.f5) (c := bodyOf Try.f5) (by kernel_rfl) (by kernel_rfl) (by kernel_rfl) (rets := gangwaylaw24_PollClocks.rets) (onR := gangwaylaw24_PollClocks.onR) (ash := gangwaylaw24_PollClocks.ash) (aosh := gangwaylaw24_PollClocks.aosh) (F := fun t u => gangwaylaw24_PollClocks.f k t.1) (stps := gangwaylaw24_PollClocks.stps) (go := gangwaylaw24_PollClocks.go) (Ok := fun k => orcL (gangwaylaw24_PollClocks.tab k)) (Qk := fun k => orcQ (gangwaylaw24_PollClocks.qtab k))
  (List.forall_mem_cons.2 ⟨fun t u ρ K => rfl, List.forall_mem_nil _⟩) (by kernel_rfl) (by kernel_rfl) k (fun x => by cases x <;> rfl) (List.forall_mem_cons.2 ⟨by kernel_rfl, (List.forall_mem_cons.2 ⟨by kernel_rfl, (List.forall_mem_cons.2 ⟨by kernel_rfl, (List.forall_mem_cons.2 ⟨by kernel_rfl, (List.forall_mem_cons.2 ⟨by kernel_rfl, List.forall_mem_nil _⟩)⟩)⟩)⟩)⟩)
  (List.forall_mem_cons.2 ⟨gangwaylaw24_PollClocks.run_s2, (List.forall_mem_cons.2 ⟨gangwaylaw24_PollClocks.run_s8, (List.forall_mem_cons.2 ⟨gangwaylaw24_PollClocks.run_s19, (List.forall_mem_cons.2 ⟨gangwaylaw24_PollClocks.run_s28, (List.forall_mem_cons.2 ⟨gangwaylaw24_PollClocks.run_s35, List.forall_mem_nil _⟩)⟩)⟩)⟩)⟩) (gangwaylaw24_PollClocks.run k) (fun C k r => orcL_ok r C _ (List.forall_mem_cons.2 ⟨gangwaylaw24_wakes.ok k, (List.forall_mem_cons.2 ⟨poll_Order.ok k, (List.forall_mem_cons.2 ⟨gangwaylaw24_num.ok k, List.forall_mem_nil _⟩)⟩)⟩)) (fun k => orcQ_ok _ (List.forall_mem_cons.2 ⟨gangwaylaw24_at.ok k, List.forall_mem_nil _⟩))
end Go.Proofs.Ytiikmhomlhgobaa.Den
