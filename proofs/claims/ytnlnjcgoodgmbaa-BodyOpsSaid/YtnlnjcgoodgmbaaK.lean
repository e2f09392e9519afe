import Derived.Test.YtnlnjcgoodgmbaaF2
import Derived.Test.YtnlnjcgoodgmbaaU
set_option linter.unusedVariables false
set_option maxRecDepth 10000
namespace Go.Proofs.Ytnlnjcgoodgmbaa.Den
open Go Go.Proofs.YtnlnjcgoodgmbaaM Go.Proofs.YtnlnjcgoodgmbaaM.Tys Go.Proofs.YtnlnjcgoodgmbaaM.Tab
set_option linter.unusedSimpArgs false
noncomputable section
/-! ### gangway/gangwayref5.shape -/
def gangwayref5_shape.onR (ρ : Type) (r : gangwayref5_shape.R) (K : AV → List Ob → Option ρ) : Option ρ := K (.int .i64 r) []
def gangwayref5_shape.rets : List (Ret gangwayref5_shape.R) := [⟨.int .i64, [], fun t u => t⟩]
def gangwayref5_shape.stps : List (Stp gangwayref5_shape.L) := [⟨3, [0], [.int .i64], [], fun t u => .s3 t.1⟩,
  ⟨5, [0], [.int .i64], [], fun t u => .s5 t.1⟩,
  ⟨7, [0], [.int .i64], [], fun t u => .s7 t.1⟩,
  ⟨13, [0], [.int .i64], [], fun t u => .s13 t.1⟩,
  ⟨15, [0], [.int .i64], [], fun t u => .s15 t.1⟩]
def gangwayref5_shape.ash : List Sh := [.int .i64]
def gangwayref5_shape.aosh : List OSh := []
def gangwayref5_shape.cps (k : Nat) : Cps := cpsOf gangwayref5_shape.ash gangwayref5_shape.aosh (fun t u => gangwayref5_shape.f k t.1) gangwayref5_shape.onR
def gangwayref5_shape.tab (k : Nat) : List (Nat × Cps × List Bool) := []
def gangwayref5_shape.qtab (k : Nat) : List QEnt := []
def gangwayref5_shape.cf : Cfg := ⟨fun f => memB f [], fun f => memB f [], fun i => memB i []⟩
theorem gangwayref5_shape.run_s3 (k : Nat) (t : TyL [.int .i64]) (u : TyO []) : runF [] gangwayref5_shape.cf (orcL (gangwayref5_shape.tab k)) (orcN (gangwayref5_shape.tab k)) (orcQ (gangwayref5_shape.qtab k)) Try.f38 (liveS gangwayref5_shape.stps) 0 (stpJ (gangwayref5_shape.go k) gangwayref5_shape.stps) (retD gangwayref5_shape.rets) (stackAt (bodyOf Try.f38) 3) (mkS 0 Try.f38.ntmps [0] (encL _ t) (encO _ u)) = gangwayref5_shape.go (k + 1) (.s3 t.1) := by kernel_rfl
theorem gangwayref5_shape.run_s5 (k : Nat) (t : TyL [.int .i64]) (u : TyO []) : runF [] gangwayref5_shape.cf (orcL (gangwayref5_shape.tab k)) (orcN (gangwayref5_shape.tab k)) (orcQ (gangwayref5_shape.qtab k)) Try.f38 (liveS gangwayref5_shape.stps) 0 (stpJ (gangwayref5_shape.go k) gangwayref5_shape.stps) (retD gangwayref5_shape.rets) (stackAt (bodyOf Try.f38) 5) (mkS 0 Try.f38.ntmps [0] (encL _ t) (encO _ u)) = gangwayref5_shape.go (k + 1) (.s5 t.1) := by kernel_rfl
theorem gangwayref5_shape.run_s7 (k : Nat) (t : TyL [.int .i64]) (u : TyO []) : runF [] gangwayref5_shape.cf (orcL (gangwayref5_shape.tab k)) (orcN (gangwayref5_shape.tab k)) (orcQ (gangwayref5_shape.qtab k)) Try.f38 (liveS gangwayref5_shape.stps) 0 (stpJ (gangwayref5_shape.go k) gangwayref5_shape.stps) (retD gangwayref5_shape.rets) (stackAt (bodyOf Try.f38) 7) (mkS 0 Try.f38.ntmps [0] (encL _ t) (encO _ u)) = gangwayref5_shape.go (k + 1) (.s7 t.1) := by kernel_rfl
theorem gangwayref5_shape.run_s13 (k : Nat) (t : TyL [.int .i64]) (u : TyO []) : runF [] gangwayref5_shape.cf (orcL (gangwayref5_shape.tab k)) (orcN (gangwayref5_shape.tab k)) (orcQ (gangwayref5_shape.qtab k)) Try.f38 (liveS gangwayref5_shape.stps) 0 (stpJ (gangwayref5_shape.go k) gangwayref5_shape.stps) (retD gangwayref5_shape.rets) (stackAt (bodyOf Try.f38) 13) (mkS 0 Try.f38.ntmps [0] (encL _ t) (encO _ u)) = gangwayref5_shape.go (k + 1) (.s13 t.1) := by kernel_rfl
theorem gangwayref5_shape.run_s15 (k : Nat) (t : TyL [.int .i64]) (u : TyO []) : runF [] gangwayref5_shape.cf (orcL (gangwayref5_shape.tab k)) (orcN (gangwayref5_shape.tab k)) (orcQ (gangwayref5_shape.qtab k)) Try.f38 (liveS gangwayref5_shape.stps) 0 (stpJ (gangwayref5_shape.go k) gangwayref5_shape.stps) (retD gangwayref5_shape.rets) (stackAt (bodyOf Try.f38) 15) (mkS 0 Try.f38.ntmps [0] (encL _ t) (encO _ u)) = gangwayref5_shape.go (k + 1) (.s15 t.1) := by kernel_rfl
theorem gangwayref5_shape.run (k : Nat) (t : TyL gangwayref5_shape.ash) (u : TyO gangwayref5_shape.aosh) : runF [] gangwayref5_shape.cf (orcL (gangwayref5_shape.tab k)) (orcN (gangwayref5_shape.tab k)) (orcQ (gangwayref5_shape.qtab k)) Try.f38 (liveS gangwayref5_shape.stps) 0 (stpJ (gangwayref5_shape.go k) gangwayref5_shape.stps) (retD gangwayref5_shape.rets) [.code (bodyOf Try.f38)] (mkS 0 Try.f38.ntmps (upto 1) (encL gangwayref5_shape.ash t) (encO gangwayref5_shape.aosh u)) = gangwayref5_shape.f k t.1 := by kernel_rfl
theorem gangwayref5_shape.ok (k : Nat) : FOk Try.prog 38 (gangwayref5_shape.cps k) := fok (md := 0) (ren := []) (cf := gangwayref5_shape.cf) (fn := Try.f38) (c := bodyOf Try.f38) (by kernel_rfl) (by kernel_rfl) (by kernel_rfl) (rets := gangwayref5_shape.rets) (onR := gangwayref5_shape.onR) (ash := gangwayref5_shape.ash) (aosh := gangwayref5_shape.aosh) (F := fun t u => gangwayref5_shape.f k t.1) (stps := gangwayref5_shape.stps) (go := gangwayref5_shape.go) (Ok := fun k => orcL (gangwayref5_shape.tab k)) (Nk := fun k => orcN (gangwayref5_shape.tab k)) (Qk := fun k => orcQ (gangwayref5_shape.qtab k))
  (List.forall_mem_cons.2 ⟨fun t u ρ K => rfl, List.forall_mem_nil _⟩) (by kernel_rfl) (by kernel_rfl) k (fun x => by cases x <;> rfl) (List.forall_mem_cons.2 ⟨by kernel_rfl, (List.forall_mem_cons.2 ⟨by kernel_rfl, (List.forall_mem_cons.2 ⟨by kernel_rfl, (List.forall_mem_cons.2 ⟨by kernel_rfl, (List.forall_mem_cons.2 ⟨by kernel_rfl, List.forall_mem_nil _⟩)⟩)⟩)⟩)⟩)
  (List.forall_mem_cons.2 ⟨gangwayref5_shape.run_s3, (List.forall_mem_cons.2 ⟨gangwayref5_shape.run_s5, (List.forall_mem_cons.2 ⟨gangwayref5_shape.run_s7, (List.forall_mem_cons.2 ⟨gangwayref5_shape.run_s13, (List.forall_mem_cons.2 ⟨gangwayref5_shape.run_s15, List.forall_mem_nil _⟩)⟩)⟩)⟩)⟩) (gangwayref5_shape.run k) (fun C k' hk' r => orcL_ok r C _ (List.forall_mem_nil _)) (fun C k' hk' r => orcN_ok r C _ (List.forall_mem_nil _)) (fun k' hk' => orcQ_ok _ (List.forall_mem_nil _))
/-! ### gangway/gangwayref5.in -/
def gangwayref5_in.onR (ρ : Type) (r : gangwayref5_in.R) (K : AV → List Ob → Option ρ) : Option ρ := K (.bo r) []
def gangwayref5_in.rets : List (Ret gangwayref5_in.R) := [⟨.bo, [], fun t u => t⟩]
def gangwayref5_in.stps : List (Stp gangwayref5_in.L) := []
def gangwayref5_in.ash : List Sh := [.int .i64]
def gangwayref5_in.aosh : List OSh := []
def gangwayref5_in.cps (k : Nat) : Cps := cpsOf gangwayref5_in.ash gangwayref5_in.aosh (fun t u => gangwayref5_in.f k t.1) gangwayref5_in.onR
def gangwayref5_in.tab (k : Nat) : List (Nat × Cps × List Bool) := []
def gangwayref5_in.qtab (k : Nat) : List QEnt := []
def gangwayref5_in.cf : Cfg := ⟨fun f => memB f [], fun f => memB f [], fun i => memB i []⟩
theorem gangwayref5_in.run (k : Nat) (t : TyL gangwayref5_in.ash) (u : TyO gangwayref5_in.aosh) : runF [] gangwayref5_in.cf (orcL (gangwayref5_in.tab k)) (orcN (gangwayref5_in.tab k)) (orcQ (gangwayref5_in.qtab k)) Try.f39 (liveS gangwayref5_in.stps) 0 (stpJ (gangwayref5_in.go k) gangwayref5_in.stps) (retD gangwayref5_in.rets) [.code (bodyOf Try.f39)] (mkS 0 Try.f39.ntmps (upto 1) (encL gangwayref5_in.ash t) (encO gangwayref5_in.aosh u)) = gangwayref5_in.f k t.1 := by kernel_rfl
theorem gangwayref5_in.ok (k : Nat) : FOk Try.prog 39 (gangwayref5_in.cps k) := fok (md := 0) (ren := []) (cf := gangwayref5_in.cf) (fn := Try.f39) (c := bodyOf Try.f39) (by kernel_rfl) (by kernel_rfl) (by kernel_rfl) (rets := gangwayref5_in.rets) (onR := gangwayref5_in.onR) (ash := gangwayref5_in.ash) (aosh := gangwayref5_in.aosh) (F := fun t u => gangwayref5_in.f k t.1) (stps := gangwayref5_in.stps) (go := gangwayref5_in.go) (Ok := fun k => orcL (gangwayref5_in.tab k)) (Nk := fun k => orcN (gangwayref5_in.tab k)) (Qk := fun k => orcQ (gangwayref5_in.qtab k))
  (List.forall_mem_cons.2 ⟨fun t u ρ K => rfl, List.forall_mem_nil _⟩) (by kernel_rfl) (by kernel_rfl) k (fun x => by cases x <;> rfl) (List.forall_mem_nil _)
  (List.forall_mem_nil _) (gangwayref5_in.run k) (fun C k' hk' r => orcL_ok r C _ (List.forall_mem_nil _)) (fun C k' hk' r => orcN_ok r C _ (List.forall_mem_nil _)) (fun k' hk' => orcQ_ok _ (List.forall_mem_nil _))
/-! ### gangway/gangwayref5.may -/
def gangwayref5_may.onR (ρ : Type) (r : gangwayref5_may.R) (K : AV → List Ob → Option ρ) : Option ρ := K (.bo r) []
def gangwayref5_may.rets : List (Ret gangwayref5_may.R) := [⟨.bo, [], fun t u => t⟩]
def gangwayref5_may.stps : List (Stp gangwayref5_may.L) := [⟨24, [2, 5, 6, 7], [.ptr 0 0, .ptr 1 0, .bo, .int .i64], [.box 41 [.int .i64, .int .i64, .int .i64, .int .i64, .int .i64, .int .i64, .ro 3, .ro 41, .ro 41], .box 41 [.int .i64, .int .i64, .int .i64, .int .i64, .int .i64, .int .i64, .ro 3, .own 2, .own 3], .row 41, .row 41], fun t u => .s24 t.2.2.1 t.2.2.2.1 u.1.1 u.1.2.1 u.1.2.2.1 u.1.2.2.2.1 u.1.2.2.2.2.1 u.1.2.2.2.2.2.1 u.1.2.2.2.2.2.2.1 u.1.2.2.2.2.2.2.2.1 u.1.2.2.2.2.2.2.2.2.1 u.2.1.1 u.2.1.2.1 u.2.1.2.2.1 u.2.1.2.2.2.1 u.2.1.2.2.2.2.1 u.2.1.2.2.2.2.2.1 u.2.1.2.2.2.2.2.2.1 u.2.2.1 u.2.2.2.1⟩]
def gangwayref5_may.ash : List Sh := [.agg [.int .i64, .int .i64, .int .i64, .int .i64, .int .i64, .int .i64, .ro 3, .ro 41, .ro 41], .int .i64]
def gangwayref5_may.aosh : List OSh := []
def gangwayref5_may.cps (k : Nat) : Cps := cpsOf gangwayref5_may.ash gangwayref5_may.aosh (fun t u => gangwayref5_may.f k t.1.1 t.1.2.1 t.1.2.2.1 t.1.2.2.2.1 t.1.2.2.2.2.1 t.1.2.2.2.2.2.1 t.1.2.2.2.2.2.2.1 t.1.2.2.2.2.2.2.2.1 t.1.2.2.2.2.2.2.2.2.1 t.2.1) gangwayref5_may.onR
/-! ### gangway/gangwayref5.May -/
def gangwayref5_May.onR (ρ : Type) (r : gangwayref5_May.R) (K : AV → List Ob → Option ρ) : Option ρ := K (.bo r) []
def gangwayref5_May.rets : List (Ret gangwayref5_May.R) := [⟨.bo, [], fun t u => t⟩]
def gangwayref5_May.stps : List (Stp gangwayref5_May.L) := [⟨2, [0, 1, 5], [.ro 41, .int .i64, .int .i64], [], fun t u => .s2 t.1 t.2.1 t.2.2.1⟩]
def gangwayref5_May.ash : List Sh := [.ro 41, .int .i64]
def gangwayref5_May.aosh : List OSh := []
def gangwayref5_May.cps (k : Nat) : Cps := cpsOf gangwayref5_May.ash gangwayref5_May.aosh (fun t u => gangwayref5_May.f k t.1 t.2.1) gangwayref5_May.onR
def gangwayref5_may.tab (k : Nat) : List (Nat × Cps × List Bool) := [(38, gangwayref5_shape.cps k, [false]), (16, gangwayref5_May.cps k, [false, false]), (39, gangwayref5_in.cps k, [false])]
def gangwayref5_may.qtab (k : Nat) : List QEnt := []
def gangwayref5_may.cf : Cfg := ⟨fun f => memB f [], fun f => memB f [], fun i => memB i []⟩
theorem gangwayref5_may.run_s24 (k : Nat) (t : TyL [.ptr 0 0, .ptr 1 0, .bo, .int .i64]) (u : TyO [.box 41 [.int .i64, .int .i64, .int .i64, .int .i64, .int .i64, .int .i64, .ro 3, .ro 41, .ro 41], .box 41 [.int .i64, .int .i64, .int .i64, .int .i64, .int .i64, .int .i64, .ro 3, .own 2, .own 3], .row 41, .row 41]) : runF [] gangwayref5_may.cf (orcL (gangwayref5_may.tab k)) (orcN (gangwayref5_may.tab k)) (orcQ (gangwayref5_may.qtab k)) Try.f25 (liveS gangwayref5_may.stps) 0 (stpJ (gangwayref5_may.go k) gangwayref5_may.stps) (retD gangwayref5_may.rets) (stackAt (bodyOf Try.f25) 24) (mkS 0 Try.f25.ntmps [2, 5, 6, 7] (encL _ t) (encO _ u)) = gangwayref5_may.go (k + 1) (.s24 t.2.2.1 t.2.2.2.1 u.1.1 u.1.2.1 u.1.2.2.1 u.1.2.2.2.1 u.1.2.2.2.2.1 u.1.2.2.2.2.2.1 u.1.2.2.2.2.2.2.1 u.1.2.2.2.2.2.2.2.1 u.1.2.2.2.2.2.2.2.2.1 u.2.1.1 u.2.1.2.1 u.2.1.2.2.1 u.2.1.2.2.2.1 u.2.1.2.2.2.2.1 u.2.1.2.2.2.2.2.1 u.2.1.2.2.2.2.2.2.1 u.2.2.1 u.2.2.2.1) := by kernel_rfl
theorem gangwayref5_may.run (k : Nat) (t : TyL gangwayref5_may.ash) (u : TyO gangwayref5_may.aosh) : runF [] gangwayref5_may.cf (orcL (gangwayref5_may.tab k)) (orcN (gangwayref5_may.tab k)) (orcQ (gangwayref5_may.qtab k)) Try.f25 (liveS gangwayref5_may.stps) 0 (stpJ (gangwayref5_may.go k) gangwayref5_may.stps) (retD gangwayref5_may.rets) [.code (bodyOf Try.f25)] (mkS 0 Try.f25.ntmps (upto 2) (encL gangwayref5_may.ash t) (encO gangwayref5_may.aosh u)) = gangwayref5_may.f (k + 1) t.1.1 t.1.2.1 t.1.2.2.1 t.1.2.2.2.1 t.1.2.2.2.2.1 t.1.2.2.2.2.2.1 t.1.2.2.2.2.2.2.1 t.1.2.2.2.2.2.2.2.1 t.1.2.2.2.2.2.2.2.2.1 t.2.1 := by kernel_rfl
def gangwayref5_May.tab (k : Nat) : List (Nat × Cps × List Bool) := [(25, gangwayref5_may.cps k, [false, false])]
def gangwayref5_May.qtab (k : Nat) : List QEnt := []
def gangwayref5_May.cf : Cfg := ⟨fun f => memB f [], fun f => memB f [], fun i => memB i []⟩
theorem gangwayref5_May.run_s2 (k : Nat) (t : TyL [.ro 41, .int .i64, .int .i64]) (u : TyO []) : runF [] gangwayref5_May.cf (orcL (gangwayref5_May.tab k)) (orcN (gangwayref5_May.tab k)) (orcQ (gangwayref5_May.qtab k)) Try.f16 (liveS gangwayref5_May.stps) 0 (stpJ (gangwayref5_May.go k) gangwayref5_May.stps) (retD gangwayref5_May.rets) (stackAt (bodyOf Try.f16) 2) (mkS 0 Try.f16.ntmps [0, 1, 5] (encL _ t) (encO _ u)) = gangwayref5_May.go (k + 1) (.s2 t.1 t.2.1 t.2.2.1) := by kernel_rfl
theorem gangwayref5_May.run (k : Nat) (t : TyL gangwayref5_May.ash) (u : TyO gangwayref5_May.aosh) : runF [] gangwayref5_May.cf (orcL (gangwayref5_May.tab k)) (orcN (gangwayref5_May.tab k)) (orcQ (gangwayref5_May.qtab k)) Try.f16 (liveS gangwayref5_May.stps) 0 (stpJ (gangwayref5_May.go k) gangwayref5_May.stps) (retD gangwayref5_May.rets) [.code (bodyOf Try.f16)] (mkS 0 Try.f16.ntmps (upto 2) (encL gangwayref5_May.ash t) (encO gangwayref5_May.aosh u)) = gangwayref5_May.f (k + 1) t.1 t.2.1 := by kernel_rfl
theorem gangwayref5_May.oks : ∀ k : Nat, ∀ j, j ≤ k → FOk Try.prog 25 (gangwayref5_may.cps j) ∧ FOk Try.prog 16 (gangwayref5_May.cps j)
  | 0 => fun j hj => by
    obtain rfl : j = 0 := Nat.le_zero.1 hj
    exact ⟨fok0 (fn := Try.f25) (by kernel_rfl) (by kernel_rfl) (by kernel_rfl) (fun t u => rfl), fok0 (fn := Try.f16) (by kernel_rfl) (by kernel_rfl) (by kernel_rfl) (fun t u => rfl)⟩
  | k + 1 => fun j hj => by
    rcases Nat.lt_or_ge j (k + 1) with h | h
    · exact gangwayref5_May.oks k j (Nat.le_of_lt_succ h)
    obtain rfl : j = k + 1 := Nat.le_antisymm hj h
    have ih := gangwayref5_May.oks k
    exact ⟨fok (md := 0) (ren := []) (cf := gangwayref5_may.cf) (fn := Try.f25) (c := bodyOf Try.f25) (by kernel_rfl) (by kernel_rfl) (by kernel_rfl) (rets := gangwayref5_may.rets) (onR := gangwayref5_may.onR) (ash := gangwayref5_may.ash) (aosh := gangwayref5_may.aosh) (F := fun t u => gangwayref5_may.f (k + 1) t.1.1 t.1.2.1 t.1.2.2.1 t.1.2.2.2.1 t.1.2.2.2.2.1 t.1.2.2.2.2.2.1 t.1.2.2.2.2.2.2.1 t.1.2.2.2.2.2.2.2.1 t.1.2.2.2.2.2.2.2.2.1 t.2.1) (stps := gangwayref5_may.stps) (go := gangwayref5_may.go) (Ok := fun k => orcL (gangwayref5_may.tab k)) (Nk := fun k => orcN (gangwayref5_may.tab k)) (Qk := fun k => orcQ (gangwayref5_may.qtab k))   (List.forall_mem_cons.2 ⟨fun t u ρ K => rfl, List.forall_mem_nil _⟩) (by kernel_rfl) (by kernel_rfl) k (fun x => rfl) (List.forall_mem_cons.2 ⟨by kernel_rfl, List.forall_mem_nil _⟩)   (List.forall_mem_cons.2 ⟨gangwayref5_may.run_s24, List.forall_mem_nil _⟩) (gangwayref5_may.run k) (fun C k' hk' r => orcL_ok r C _ (List.forall_mem_cons.2 ⟨gangwayref5_shape.ok k', (List.forall_mem_cons.2 ⟨(ih k' hk').2, (List.forall_mem_cons.2 ⟨gangwayref5_in.ok k', List.forall_mem_nil _⟩)⟩)⟩)) (fun C k' hk' r => orcN_ok r C _ (List.forall_mem_cons.2 ⟨gangwayref5_shape.ok k', (List.forall_mem_cons.2 ⟨(ih k' hk').2, (List.forall_mem_cons.2 ⟨gangwayref5_in.ok k', List.forall_mem_nil _⟩)⟩)⟩)) (fun k' hk' => orcQ_ok _ (List.forall_mem_nil _)),
      fok (md := 0) (ren := []) (cf := gangwayref5_May.cf) (fn := Try.f16) (c := bodyOf Try.f16) (by kernel_rfl) (by kernel_rfl) (by kernel_rfl) (rets := gangwayref5_May.rets) (onR := gangwayref5_May.onR) (ash := gangwayref5_May.ash) (aosh := gangwayref5_May.aosh) (F := fun t u => gangwayref5_May.f (k + 1) t.1 t.2.1) (stps := gangwayref5_May.stps) (go := gangwayref5_May.go) (Ok := fun k => orcL (gangwayref5_May.tab k)) (Nk := fun k => orcN (gangwayref5_May.tab k)) (Qk := fun k => orcQ (gangwayref5_May.qtab k))   (List.forall_mem_cons.2 ⟨fun t u ρ K => rfl, List.forall_mem_nil _⟩) (by kernel_rfl) (by kernel_rfl) k (fun x => rfl) (List.forall_mem_cons.2 ⟨by kernel_rfl, List.forall_mem_nil _⟩)   (List.forall_mem_cons.2 ⟨gangwayref5_May.run_s2, List.forall_mem_nil _⟩) (gangwayref5_May.run k) (fun C k' hk' r => orcL_ok r C _ (List.forall_mem_cons.2 ⟨(ih k' hk').1, List.forall_mem_nil _⟩)) (fun C k' hk' r => orcN_ok r C _ (List.forall_mem_cons.2 ⟨(ih k' hk').1, List.forall_mem_nil _⟩)) (fun k' hk' => orcQ_ok _ (List.forall_mem_nil _))⟩
theorem gangwayref5_may.ok (k : Nat) : FOk Try.prog 25 (gangwayref5_may.cps k) := (gangwayref5_May.oks k k (Nat.le_refl k)).1
theorem gangwayref5_May.ok (k : Nat) : FOk Try.prog 16 (gangwayref5_May.cps k) := (gangwayref5_May.oks k k (Nat.le_refl k)).2
/-! ### gangway/body.typ -/
def body_typ.onR (ρ : Type) (r : body_typ.R) (K : AV → List Ob → Option ρ) : Option ρ := K (.bo r) []
def body_typ.rets : List (Ret body_typ.R) := [⟨.bo, [], fun t u => t⟩]
def body_typ.stps : List (Stp body_typ.L) := []
def body_typ.ash : List Sh := [.int .i64]
def body_typ.aosh : List OSh := []
def body_typ.cps (k : Nat) : Cps := cpsOf body_typ.ash body_typ.aosh (fun t u => body_typ.f k t.1) body_typ.onR
def body_typ.tab (k : Nat) : List (Nat × Cps × List Bool) := []
def body_typ.qtab (k : Nat) : List QEnt := []
def body_typ.cf : Cfg := ⟨fun f => memB f [], fun f => memB f [], fun i => memB i []⟩
theorem body_typ.run (k : Nat) (t : TyL body_typ.ash) (u : TyO body_typ.aosh) : runF [] body_typ.cf (orcL (body_typ.tab k)) (orcN (body_typ.tab k)) (orcQ (body_typ.qtab k)) Try.f31 (liveS body_typ.stps) 0 (stpJ (body_typ.go k) body_typ.stps) (retD body_typ.rets) [.code (bodyOf Try.f31)] (mkS 0 Try.f31.ntmps (upto 1) (encL body_typ.ash t) (encO body_typ.aosh u)) = body_typ.f k t.1 := by kernel_rfl
theorem body_typ.ok (k : Nat) : FOk Try.prog 31 (body_typ.cps k) := fok (md := 0) (ren := []) (cf := body_typ.cf) (fn := Try.f31) (c := bodyOf Try.f31) (by kernel_rfl) (by kernel_rfl) (by kernel_rfl) (rets := body_typ.rets) (onR := body_typ.onR) (ash := body_typ.ash) (aosh := body_typ.aosh) (F := fun t u => body_typ.f k t.1) (stps := body_typ.stps) (go := body_typ.go) (Ok := fun k => orcL (body_typ.tab k)) (Nk := fun k => orcN (body_typ.tab k)) (Qk := fun k => orcQ (body_typ.qtab k))
  (List.forall_mem_cons.2 ⟨fun t u ρ K => rfl, List.forall_mem_nil _⟩) (by kernel_rfl) (by kernel_rfl) k (fun x => by cases x <;> rfl) (List.forall_mem_nil _)
  (List.forall_mem_nil _) (body_typ.run k) (fun C k' hk' r => orcL_ok r C _ (List.forall_mem_nil _)) (fun C k' hk' r => orcN_ok r C _ (List.forall_mem_nil _)) (fun k' hk' => orcQ_ok _ (List.forall_mem_nil _))
/-! ### gangway/body.typed$1 -/
def body_typed_1.onR (ρ : Type) (r : body_typed_1.R) (K : AV → List Ob → Option ρ) : Option ρ := K (.bo r) []
def body_typed_1.rets : List (Ret body_typed_1.R) := [⟨.bo, [], fun t u => t⟩]
def body_typed_1.stps : List (Stp body_typed_1.L) := []
def body_typed_1.ash : List Sh := [.int .i64]
def body_typed_1.aosh : List OSh := []
def body_typed_1.cps (k : Nat) : Cps := cpsOf body_typed_1.ash body_typed_1.aosh (fun t u => body_typed_1.f k t.1) body_typed_1.onR
def body_typed_1.tab (k : Nat) : List (Nat × Cps × List Bool) := [(31, body_typ.cps k, [false])]
def body_typed_1.qtab (k : Nat) : List QEnt := []
def body_typed_1.cf : Cfg := ⟨fun f => memB f [], fun f => memB f [], fun i => memB i []⟩
theorem body_typed_1.run (k : Nat) (t : TyL body_typed_1.ash) (u : TyO body_typed_1.aosh) : runF [] body_typed_1.cf (orcL (body_typed_1.tab k)) (orcN (body_typed_1.tab k)) (orcQ (body_typed_1.qtab k)) Try.f43 (liveS body_typed_1.stps) 0 (stpJ (body_typed_1.go k) body_typed_1.stps) (retD body_typed_1.rets) [.code (bodyOf Try.f43)] (mkS 0 Try.f43.ntmps (upto 1) (encL body_typed_1.ash t) (encO body_typed_1.aosh u)) = body_typed_1.f k t.1 := by kernel_rfl
theorem body_typed_1.ok (k : Nat) : FOk Try.prog 43 (body_typed_1.cps k) := fok (md := 0) (ren := []) (cf := body_typed_1.cf) (fn := Try.f43) (c := bodyOf Try.f43) (by kernel_rfl) (by kernel_rfl) (by kernel_rfl) (rets := body_typed_1.rets) (onR := body_typed_1.onR) (ash := body_typed_1.ash) (aosh := body_typed_1.aosh) (F := fun t u => body_typed_1.f k t.1) (stps := body_typed_1.stps) (go := body_typed_1.go) (Ok := fun k => orcL (body_typed_1.tab k)) (Nk := fun k => orcN (body_typed_1.tab k)) (Qk := fun k => orcQ (body_typed_1.qtab k))
  (List.forall_mem_cons.2 ⟨fun t u ρ K => rfl, List.forall_mem_nil _⟩) (by kernel_rfl) (by kernel_rfl) k (fun x => by cases x <;> rfl) (List.forall_mem_nil _)
  (List.forall_mem_nil _) (body_typed_1.run k) (fun C k' hk' r => orcL_ok r C _ (List.forall_mem_cons.2 ⟨body_typ.ok k', List.forall_mem_nil _⟩)) (fun C k' hk' r => orcN_ok r C _ (List.forall_mem_cons.2 ⟨body_typ.ok k', List.forall_mem_nil _⟩)) (fun k' hk' => orcQ_ok _ (List.forall_mem_nil _))
/-! ### slices.IndexFunc[[]int,int] -/
def slices_IndexFunc_int_int.onR (ρ : Type) (r : slices_IndexFunc_int_int.R) (K : AV → List Ob → Option ρ) : Option ρ := K (.int .i64 r) []
def slices_IndexFunc_int_int.rets : List (Ret slices_IndexFunc_int_int.R) := [⟨.int .i64, [], fun t u => t⟩]
def slices_IndexFunc_int_int.stps : List (Stp slices_IndexFunc_int_int.L) := [⟨2, [0, 1, 7, 8], [.ro 3, .fn 43 [], .int .i64, .int .i64], [], fun t u => .s2 t.1 t.2.2.1 t.2.2.2.1⟩]
def slices_IndexFunc_int_int.ash : List Sh := [.ro 3, .fn 43 []]
def slices_IndexFunc_int_int.aosh : List OSh := []
def slices_IndexFunc_int_int.cps (k : Nat) : Cps := cpsOf slices_IndexFunc_int_int.ash slices_IndexFunc_int_int.aosh (fun t u => slices_IndexFunc_int_int.f k t.1) slices_IndexFunc_int_int.onR
def slices_IndexFunc_int_int.tab (k : Nat) : List (Nat × Cps × List Bool) := [(43, body_typed_1.cps k, [false])]
def slices_IndexFunc_int_int.qtab (k : Nat) : List QEnt := []
def slices_IndexFunc_int_int.cf : Cfg := ⟨fun f => memB f [], fun f => memB f [], fun i => memB i []⟩
theorem slices_IndexFunc_int_int.run_s2 (k : Nat) (t : TyL [.ro 3, .fn 43 [], .int .i64, .int .i64]) (u : TyO []) : runF [] slices_IndexFunc_int_int.cf (orcL (slices_IndexFunc_int_int.tab k)) (orcN (slices_IndexFunc_int_int.tab k)) (orcQ (slices_IndexFunc_int_int.qtab k)) Try.f63 (liveS slices_IndexFunc_int_int.stps) 0 (stpJ (slices_IndexFunc_int_int.go k) slices_IndexFunc_int_int.stps) (retD slices_IndexFunc_int_int.rets) (stackAt (bodyOf Try.f63) 2) (mkS 0 Try.f63.ntmps [0, 1, 7, 8] (encL _ t) (encO _ u)) = slices_IndexFunc_int_int.go (k + 1) (.s2 t.1 t.2.2.1 t.2.2.2.1) := by kernel_rfl
theorem slices_IndexFunc_int_int.run (k : Nat) (t : TyL slices_IndexFunc_int_int.ash) (u : TyO slices_IndexFunc_int_int.aosh) : runF [] slices_IndexFunc_int_int.cf (orcL (slices_IndexFunc_int_int.tab k)) (orcN (slices_IndexFunc_int_int.tab k)) (orcQ (slices_IndexFunc_int_int.qtab k)) Try.f63 (liveS slices_IndexFunc_int_int.stps) 0 (stpJ (slices_IndexFunc_int_int.go k) slices_IndexFunc_int_int.stps) (retD slices_IndexFunc_int_int.rets) [.code (bodyOf Try.f63)] (mkS 0 Try.f63.ntmps (upto 2) (encL slices_IndexFunc_int_int.ash t) (encO slices_IndexFunc_int_int.aosh u)) = slices_IndexFunc_int_int.f k t.1 := by kernel_rfl
theorem slices_IndexFunc_int_int.ok (k : Nat) : FOk Try.prog 63 (slices_IndexFunc_int_int.cps k) := fok (md := 0) (ren := []) (cf := slices_IndexFunc_int_int.cf) (fn := Try.f63) (c := bodyOf Try.f63) (by kernel_rfl) (by kernel_rfl) (by kernel_rfl) (rets := slices_IndexFunc_int_int.rets) (onR := slices_IndexFunc_int_int.onR) (ash := slices_IndexFunc_int_int.ash) (aosh := slices_IndexFunc_int_int.aosh) (F := fun t u => slices_IndexFunc_int_int.f k t.1) (stps := slices_IndexFunc_int_int.stps) (go := slices_IndexFunc_int_int.go) (Ok := fun k => orcL (slices_IndexFunc_int_int.tab k)) (Nk := fun k => orcN (slices_IndexFunc_int_int.tab k)) (Qk := fun k => orcQ (slices_IndexFunc_int_int.qtab k))
  (List.forall_mem_cons.2 ⟨fun t u ρ K => rfl, List.forall_mem_nil _⟩) (by kernel_rfl) (by kernel_rfl) k (fun x => by cases x <;> rfl) (List.forall_mem_cons.2 ⟨by kernel_rfl, List.forall_mem_nil _⟩)
  (List.forall_mem_cons.2 ⟨slices_IndexFunc_int_int.run_s2, List.forall_mem_nil _⟩) (slices_IndexFunc_int_int.run k) (fun C k' hk' r => orcL_ok r C _ (List.forall_mem_cons.2 ⟨body_typed_1.ok k', List.forall_mem_nil _⟩)) (fun C k' hk' r => orcN_ok r C _ (List.forall_mem_cons.2 ⟨body_typed_1.ok k', List.forall_mem_nil _⟩)) (fun k' hk' => orcQ_ok _ (List.forall_mem_nil _))
/-! ### slices.ContainsFunc[[]int,int] -/
def slices_ContainsFunc_int_int.onR (ρ : Type) (r : slices_ContainsFunc_int_int.R) (K : AV → List Ob → Option ρ) : Option ρ := K (.bo r) []
def slices_ContainsFunc_int_int.rets : List (Ret slices_ContainsFunc_int_int.R) := [⟨.bo, [], fun t u => t⟩]
def slices_ContainsFunc_int_int.stps : List (Stp slices_ContainsFunc_int_int.L) := []
def slices_ContainsFunc_int_int.ash : List Sh := [.ro 3, .fn 43 []]
def slices_ContainsFunc_int_int.aosh : List OSh := []
def slices_ContainsFunc_int_int.cps (k : Nat) : Cps := cpsOf slices_ContainsFunc_int_int.ash slices_ContainsFunc_int_int.aosh (fun t u => slices_ContainsFunc_int_int.f k t.1) slices_ContainsFunc_int_int.onR
def slices_ContainsFunc_int_int.tab (k : Nat) : List (Nat × Cps × List Bool) := [(63, slices_IndexFunc_int_int.cps k, [false, false])]
def slices_ContainsFunc_int_int.qtab (k : Nat) : List QEnt := []
def slices_ContainsFunc_int_int.cf : Cfg := ⟨fun f => memB f [], fun f => memB f [], fun i => memB i []⟩
theorem slices_ContainsFunc_int_int.run (k : Nat) (t : TyL slices_ContainsFunc_int_int.ash) (u : TyO slices_ContainsFunc_int_int.aosh) : runF [] slices_ContainsFunc_int_int.cf (orcL (slices_ContainsFunc_int_int.tab k)) (orcN (slices_ContainsFunc_int_int.tab k)) (orcQ (slices_ContainsFunc_int_int.qtab k)) Try.f42 (liveS slices_ContainsFunc_int_int.stps) 0 (stpJ (slices_ContainsFunc_int_int.go k) slices_ContainsFunc_int_int.stps) (retD slices_ContainsFunc_int_int.rets) [.code (bodyOf Try.f42)] (mkS 0 Try.f42.ntmps (upto 2) (encL slices_ContainsFunc_int_int.ash t) (encO slices_ContainsFunc_int_int.aosh u)) = slices_ContainsFunc_int_int.f k t.1 := by kernel_rfl
theorem slices_ContainsFunc_int_int.ok (k : Nat) : FOk Try.prog 42 (slices_ContainsFunc_int_int.cps k) := fok (md := 0) (ren := []) (cf := slices_ContainsFunc_int_int.cf) (fn := Try.f42) (c := bodyOf Try.f42) (by kernel_rfl) (by kernel_rfl) (by kernel_rfl) (rets := slices_ContainsFunc_int_int.rets) (onR := slices_ContainsFunc_int_int.onR) (ash := slices_ContainsFunc_int_int.ash) (aosh := slices_ContainsFunc_int_int.aosh) (F := fun t u => slices_ContainsFunc_int_int.f k t.1) (stps := slices_ContainsFunc_int_int.stps) (go := slices_ContainsFunc_int_int.go) (Ok := fun k => orcL (slices_ContainsFunc_int_int.tab k)) (Nk := fun k => orcN (slices_ContainsFunc_int_int.tab k)) (Qk := fun k => orcQ (slices_ContainsFunc_int_int.qtab k))
  (List.forall_mem_cons.2 ⟨fun t u ρ K => rfl, List.forall_mem_nil _⟩) (by kernel_rfl) (by kernel_rfl) k (fun x => by cases x <;> rfl) (List.forall_mem_nil _)
  (List.forall_mem_nil _) (slices_ContainsFunc_int_int.run k) (fun C k' hk' r => orcL_ok r C _ (List.forall_mem_cons.2 ⟨slices_IndexFunc_int_int.ok k', List.forall_mem_nil _⟩)) (fun C k' hk' r => orcN_ok r C _ (List.forall_mem_cons.2 ⟨slices_IndexFunc_int_int.ok k', List.forall_mem_nil _⟩)) (fun k' hk' => orcQ_ok _ (List.forall_mem_nil _))
/-! ### gangway/body.typed -/
def body_typed.onR (ρ : Type) (r : body_typed.R) (K : AV → List Ob → Option ρ) : Option ρ := K (.bo r) []
def body_typed.rets : List (Ret body_typed.R) := [⟨.bo, [], fun t u => t⟩]
def body_typed.stps : List (Stp body_typed.L) := []
def body_typed.ash : List Sh := [.ro 3]
def body_typed.aosh : List OSh := []
def body_typed.cps (k : Nat) : Cps := cpsOf body_typed.ash body_typed.aosh (fun t u => body_typed.f k t.1) body_typed.onR
def body_typed.tab (k : Nat) : List (Nat × Cps × List Bool) := [(42, slices_ContainsFunc_int_int.cps k, [false, false])]
def body_typed.qtab (k : Nat) : List QEnt := []
def body_typed.cf : Cfg := ⟨fun f => memB f [], fun f => memB f [], fun i => memB i []⟩
theorem body_typed.run (k : Nat) (t : TyL body_typed.ash) (u : TyO body_typed.aosh) : runF [] body_typed.cf (orcL (body_typed.tab k)) (orcN (body_typed.tab k)) (orcQ (body_typed.qtab k)) Try.f27 (liveS body_typed.stps) 0 (stpJ (body_typed.go k) body_typed.stps) (retD body_typed.rets) [.code (bodyOf Try.f27)] (mkS 0 Try.f27.ntmps (upto 1) (encL body_typed.ash t) (encO body_typed.aosh u)) = body_typed.f k t.1 := by kernel_rfl
theorem body_typed.ok (k : Nat) : FOk Try.prog 27 (body_typed.cps k) := fok (md := 0) (ren := []) (cf := body_typed.cf) (fn := Try.f27) (c := bodyOf Try.f27) (by kernel_rfl) (by kernel_rfl) (by kernel_rfl) (rets := body_typed.rets) (onR := body_typed.onR) (ash := body_typed.ash) (aosh := body_typed.aosh) (F := fun t u => body_typed.f k t.1) (stps := body_typed.stps) (go := body_typed.go) (Ok := fun k => orcL (body_typed.tab k)) (Nk := fun k => orcN (body_typed.tab k)) (Qk := fun k => orcQ (body_typed.qtab k))
  (List.forall_mem_cons.2 ⟨fun t u ρ K => rfl, List.forall_mem_nil _⟩) (by kernel_rfl) (by kernel_rfl) k (fun x => by cases x <;> rfl) (List.forall_mem_nil _)
  (List.forall_mem_nil _) (body_typed.run k) (fun C k' hk' r => orcL_ok r C _ (List.forall_mem_cons.2 ⟨slices_ContainsFunc_int_int.ok k', List.forall_mem_nil _⟩)) (fun C k' hk' r => orcN_ok r C _ (List.forall_mem_cons.2 ⟨slices_ContainsFunc_int_int.ok k', List.forall_mem_nil _⟩)) (fun k' hk' => orcQ_ok _ (List.forall_mem_nil _))
/-! ### gangway/body.may$1 -/
def body_may_1.onR (ρ : Type) (r : body_may_1.R) (K : AV → List Ob → Option ρ) : Option ρ := K (.bo r) []
def body_may_1.rets : List (Ret body_may_1.R) := [⟨.bo, [], fun t u => t⟩]
def body_may_1.stps : List (Stp body_may_1.L) := []
def body_may_1.ash : List Sh := [.agg [.ro 3, .ro 3]]
def body_may_1.aosh : List OSh := []
def body_may_1.cps (k : Nat) : Cps := cpsOf body_may_1.ash body_may_1.aosh (fun t u => body_may_1.f k t.1.1 t.1.2.1) body_may_1.onR
def body_may_1.tab (k : Nat) : List (Nat × Cps × List Bool) := [(27, body_typed.cps k, [false])]
def body_may_1.qtab (k : Nat) : List QEnt := []
def body_may_1.cf : Cfg := ⟨fun f => memB f [], fun f => memB f [], fun i => memB i []⟩
theorem body_may_1.run (k : Nat) (t : TyL body_may_1.ash) (u : TyO body_may_1.aosh) : runF [] body_may_1.cf (orcL (body_may_1.tab k)) (orcN (body_may_1.tab k)) (orcQ (body_may_1.qtab k)) Try.f41 (liveS body_may_1.stps) 0 (stpJ (body_may_1.go k) body_may_1.stps) (retD body_may_1.rets) [.code (bodyOf Try.f41)] (mkS 0 Try.f41.ntmps (upto 1) (encL body_may_1.ash t) (encO body_may_1.aosh u)) = body_may_1.f k t.1.1 t.1.2.1 := by kernel_rfl
theorem body_may_1.ok (k : Nat) : FOk Try.prog 41 (body_may_1.cps k) := fok (md := 0) (ren := []) (cf := body_may_1.cf) (fn := Try.f41) (c := bodyOf Try.f41) (by kernel_rfl) (by kernel_rfl) (by kernel_rfl) (rets := body_may_1.rets) (onR := body_may_1.onR) (ash := body_may_1.ash) (aosh := body_may_1.aosh) (F := fun t u => body_may_1.f k t.1.1 t.1.2.1) (stps := body_may_1.stps) (go := body_may_1.go) (Ok := fun k => orcL (body_may_1.tab k)) (Nk := fun k => orcN (body_may_1.tab k)) (Qk := fun k => orcQ (body_may_1.qtab k))
  (List.forall_mem_cons.2 ⟨fun t u ρ K => rfl, List.forall_mem_nil _⟩) (by kernel_rfl) (by kernel_rfl) k (fun x => by cases x <;> rfl) (List.forall_mem_nil _)
  (List.forall_mem_nil _) (body_may_1.run k) (fun C k' hk' r => orcL_ok r C _ (List.forall_mem_cons.2 ⟨body_typed.ok k', List.forall_mem_nil _⟩)) (fun C k' hk' r => orcN_ok r C _ (List.forall_mem_cons.2 ⟨body_typed.ok k', List.forall_mem_nil _⟩)) (fun k' hk' => orcQ_ok _ (List.forall_mem_nil _))
/-! ### slices.IndexFunc[[]gangway/api.FuncType,gangway/api.FuncType] -/
def slices_IndexFunc_api_FuncType_api_FuncType.onR (ρ : Type) (r : slices_IndexFunc_api_FuncType_api_FuncType.R) (K : AV → List Ob → Option ρ) : Option ρ := K (.int .i64 r) []
def slices_IndexFunc_api_FuncType_api_FuncType.rets : List (Ret slices_IndexFunc_api_FuncType_api_FuncType.R) := [⟨.int .i64, [], fun t u => t⟩]
def slices_IndexFunc_api_FuncType_api_FuncType.stps : List (Stp slices_IndexFunc_api_FuncType_api_FuncType.L) := [⟨2, [0, 1, 7, 8], [.ro 27, .fn 41 [], .int .i64, .int .i64], [], fun t u => .s2 t.1 t.2.2.1 t.2.2.2.1⟩]
def slices_IndexFunc_api_FuncType_api_FuncType.ash : List Sh := [.ro 27, .fn 41 []]
def slices_IndexFunc_api_FuncType_api_FuncType.aosh : List OSh := []
def slices_IndexFunc_api_FuncType_api_FuncType.cps (k : Nat) : Cps := cpsOf slices_IndexFunc_api_FuncType_api_FuncType.ash slices_IndexFunc_api_FuncType_api_FuncType.aosh (fun t u => slices_IndexFunc_api_FuncType_api_FuncType.f k t.1) slices_IndexFunc_api_FuncType_api_FuncType.onR
def slices_IndexFunc_api_FuncType_api_FuncType.tab (k : Nat) : List (Nat × Cps × List Bool) := [(41, body_may_1.cps k, [false])]
def slices_IndexFunc_api_FuncType_api_FuncType.qtab (k : Nat) : List QEnt := []
def slices_IndexFunc_api_FuncType_api_FuncType.cf : Cfg := ⟨fun f => memB f [], fun f => memB f [], fun i => memB i []⟩
theorem slices_IndexFunc_api_FuncType_api_FuncType.run_s2 (k : Nat) (t : TyL [.ro 27, .fn 41 [], .int .i64, .int .i64]) (u : TyO []) : runF [] slices_IndexFunc_api_FuncType_api_FuncType.cf (orcL (slices_IndexFunc_api_FuncType_api_FuncType.tab k)) (orcN (slices_IndexFunc_api_FuncType_api_FuncType.tab k)) (orcQ (slices_IndexFunc_api_FuncType_api_FuncType.qtab k)) Try.f62 (liveS slices_IndexFunc_api_FuncType_api_FuncType.stps) 0 (stpJ (slices_IndexFunc_api_FuncType_api_FuncType.go k) slices_IndexFunc_api_FuncType_api_FuncType.stps) (retD slices_IndexFunc_api_FuncType_api_FuncType.rets) (stackAt (bodyOf Try.f62) 2) (mkS 0 Try.f62.ntmps [0, 1, 7, 8] (encL _ t) (encO _ u)) = slices_IndexFunc_api_FuncType_api_FuncType.go (k + 1) (.s2 t.1 t.2.2.1 t.2.2.2.1) := by kernel_rfl
theorem slices_IndexFunc_api_FuncType_api_FuncType.run (k : Nat) (t : TyL slices_IndexFunc_api_FuncType_api_FuncType.ash) (u : TyO slices_IndexFunc_api_FuncType_api_FuncType.aosh) : runF [] slices_IndexFunc_api_FuncType_api_FuncType.cf (orcL (slices_IndexFunc_api_FuncType_api_FuncType.tab k)) (orcN (slices_IndexFunc_api_FuncType_api_FuncType.tab k)) (orcQ (slices_IndexFunc_api_FuncType_api_FuncType.qtab k)) Try.f62 (liveS slices_IndexFunc_api_FuncType_api_FuncType.stps) 0 (stpJ (slices_IndexFunc_api_FuncType_api_FuncType.go k) slices_IndexFunc_api_FuncType_api_FuncType.stps) (retD slices_IndexFunc_api_FuncType_api_FuncType.rets) [.code (bodyOf Try.f62)] (mkS 0 Try.f62.ntmps (upto 2) (encL slices_IndexFunc_api_FuncType_api_FuncType.ash t) (encO slices_IndexFunc_api_FuncType_api_FuncType.aosh u)) = slices_IndexFunc_api_FuncType_api_FuncType.f k t.1 := by kernel_rfl
theorem slices_IndexFunc_api_FuncType_api_FuncType.ok (k : Nat) : FOk Try.prog 62 (slices_IndexFunc_api_FuncType_api_FuncType.cps k) := fok (md := 0) (ren := []) (cf := slices_IndexFunc_api_FuncType_api_FuncType.cf) (fn := Try.f62) (c := bodyOf Try.f62) (by kernel_rfl) (by kernel_rfl) (by kernel_rfl) (rets := slices_IndexFunc_api_FuncType_api_FuncType.rets) (onR := slices_IndexFunc_api_FuncType_api_FuncType.onR) (ash := slices_IndexFunc_api_FuncType_api_FuncType.ash) (aosh := slices_IndexFunc_api_FuncType_api_FuncType.aosh) (F := fun t u => slices_IndexFunc_api_FuncType_api_FuncType.f k t.1) (stps := slices_IndexFunc_api_FuncType_api_FuncType.stps) (go := slices_IndexFunc_api_FuncType_api_FuncType.go) (Ok := fun k => orcL (slices_IndexFunc_api_FuncType_api_FuncType.tab k)) (Nk := fun k => orcN (slices_IndexFunc_api_FuncType_api_FuncType.tab k)) (Qk := fun k => orcQ (slices_IndexFunc_api_FuncType_api_FuncType.qtab k))
  (List.forall_mem_cons.2 ⟨fun t u ρ K => rfl, List.forall_mem_nil _⟩) (by kernel_rfl) (by kernel_rfl) k (fun x => by cases x <;> rfl) (List.forall_mem_cons.2 ⟨by kernel_rfl, List.forall_mem_nil _⟩)
  (List.forall_mem_cons.2 ⟨slices_IndexFunc_api_FuncType_api_FuncType.run_s2, List.forall_mem_nil _⟩) (slices_IndexFunc_api_FuncType_api_FuncType.run k) (fun C k' hk' r => orcL_ok r C _ (List.forall_mem_cons.2 ⟨body_may_1.ok k', List.forall_mem_nil _⟩)) (fun C k' hk' r => orcN_ok r C _ (List.forall_mem_cons.2 ⟨body_may_1.ok k', List.forall_mem_nil _⟩)) (fun k' hk' => orcQ_ok _ (List.forall_mem_nil _))
/-! ### slices.ContainsFunc[[]gangway/api.FuncType,gangway/api.FuncType] -/
def slices_ContainsFunc_api_FuncType_api_FuncType.onR (ρ : Type) (r : slices_ContainsFunc_api_FuncType_api_FuncType.R) (K : AV → List Ob → Option ρ) : Option ρ := K (.bo r) []
def slices_ContainsFunc_api_FuncType_api_FuncType.rets : List (Ret slices_ContainsFunc_api_FuncType_api_FuncType.R) := [⟨.bo, [], fun t u => t⟩]
def slices_ContainsFunc_api_FuncType_api_FuncType.stps : List (Stp slices_ContainsFunc_api_FuncType_api_FuncType.L) := []
def slices_ContainsFunc_api_FuncType_api_FuncType.ash : List Sh := [.ro 27, .fn 41 []]
def slices_ContainsFunc_api_FuncType_api_FuncType.aosh : List OSh := []
def slices_ContainsFunc_api_FuncType_api_FuncType.cps (k : Nat) : Cps := cpsOf slices_ContainsFunc_api_FuncType_api_FuncType.ash slices_ContainsFunc_api_FuncType_api_FuncType.aosh (fun t u => slices_ContainsFunc_api_FuncType_api_FuncType.f k t.1) slices_ContainsFunc_api_FuncType_api_FuncType.onR
def slices_ContainsFunc_api_FuncType_api_FuncType.tab (k : Nat) : List (Nat × Cps × List Bool) := [(62, slices_IndexFunc_api_FuncType_api_FuncType.cps k, [false, false])]
def slices_ContainsFunc_api_FuncType_api_FuncType.qtab (k : Nat) : List QEnt := []
def slices_ContainsFunc_api_FuncType_api_FuncType.cf : Cfg := ⟨fun f => memB f [], fun f => memB f [], fun i => memB i []⟩
theorem slices_ContainsFunc_api_FuncType_api_FuncType.run (k : Nat) (t : TyL slices_ContainsFunc_api_FuncType_api_FuncType.ash) (u : TyO slices_ContainsFunc_api_FuncType_api_FuncType.aosh) : runF [] slices_ContainsFunc_api_FuncType_api_FuncType.cf (orcL (slices_ContainsFunc_api_FuncType_api_FuncType.tab k)) (orcN (slices_ContainsFunc_api_FuncType_api_FuncType.tab k)) (orcQ (slices_ContainsFunc_api_FuncType_api_FuncType.qtab k)) Try.f40 (liveS slices_ContainsFunc_api_FuncType_api_FuncType.stps) 0 (stpJ (slices_ContainsFunc_api_FuncType_api_FuncType.go k) slices_ContainsFunc_api_FuncType_api_FuncType.stps) (retD slices_ContainsFunc_api_FuncType_api_FuncType.rets) [.code (bodyOf Try.f40)] (mkS 0 Try.f40.ntmps (upto 2) (encL slices_ContainsFunc_api_FuncType_api_FuncType.ash t) (encO slices_ContainsFunc_api_FuncType_api_FuncType.aosh u)) = slices_ContainsFunc_api_FuncType_api_FuncType.f k t.1 := by kernel_rfl
theorem slices_ContainsFunc_api_FuncType_api_FuncType.ok (k : Nat) : FOk Try.prog 40 (slices_ContainsFunc_api_FuncType_api_FuncType.cps k) := fok (md := 0) (ren := []) (cf := slices_ContainsFunc_api_FuncType_api_FuncType.cf) (fn := Try.f40) (c := bodyOf Try.f40) (by kernel_rfl) (by kernel_rfl) (by kernel_rfl) (rets := slices_ContainsFunc_api_FuncType_api_FuncType.rets) (onR := slices_ContainsFunc_api_FuncType_api_FuncType.onR) (ash := slices_ContainsFunc_api_FuncType_api_FuncType.ash) (aosh := slices_ContainsFunc_api_FuncType_api_FuncType.aosh) (F := fun t u => slices_ContainsFunc_api_FuncType_api_FuncType.f k t.1) (stps := slices_ContainsFunc_api_FuncType_api_FuncType.stps) (go := slices_ContainsFunc_api_FuncType_api_FuncType.go) (Ok := fun k => orcL (slices_ContainsFunc_api_FuncType_api_FuncType.tab k)) (Nk := fun k => orcN (slices_ContainsFunc_api_FuncType_api_FuncType.tab k)) (Qk := fun k => orcQ (slices_ContainsFunc_api_FuncType_api_FuncType.qtab k))
  (List.forall_mem_cons.2 ⟨fun t u ρ K => rfl, List.forall_mem_nil _⟩) (by kernel_rfl) (by kernel_rfl) k (fun x => by cases x <;> rfl) (List.forall_mem_nil _)
  (List.forall_mem_nil _) (slices_ContainsFunc_api_FuncType_api_FuncType.run k) (fun C k' hk' r => orcL_ok r C _ (List.forall_mem_cons.2 ⟨slices_IndexFunc_api_FuncType_api_FuncType.ok k', List.forall_mem_nil _⟩)) (fun C k' hk' r => orcN_ok r C _ (List.forall_mem_cons.2 ⟨slices_IndexFunc_api_FuncType_api_FuncType.ok k', List.forall_mem_nil _⟩)) (fun k' hk' => orcQ_ok _ (List.forall_mem_nil _))
/-! ### gangway/body.may -/
def body_may.onR (ρ : Type) (r : body_may.R) (K : AV → List Ob → Option ρ) : Option ρ := K (.bo r) []
def body_may.rets : List (Ret body_may.R) := [⟨.bo, [], fun t u => t⟩]
def body_may.stps : List (Stp body_may.L) := []
def body_may.ash : List Sh := [.ro 27]
def body_may.aosh : List OSh := []
def body_may.cps (k : Nat) : Cps := cpsOf body_may.ash body_may.aosh (fun t u => body_may.f k t.1) body_may.onR
def body_may.tab (k : Nat) : List (Nat × Cps × List Bool) := [(40, slices_ContainsFunc_api_FuncType_api_FuncType.cps k, [false, false])]
def body_may.qtab (k : Nat) : List QEnt := []
def body_may.cf : Cfg := ⟨fun f => memB f [], fun f => memB f [], fun i => memB i []⟩
theorem body_may.run (k : Nat) (t : TyL body_may.ash) (u : TyO body_may.aosh) : runF [] body_may.cf (orcL (body_may.tab k)) (orcN (body_may.tab k)) (orcQ (body_may.qtab k)) Try.f26 (liveS body_may.stps) 0 (stpJ (body_may.go k) body_may.stps) (retD body_may.rets) [.code (bodyOf Try.f26)] (mkS 0 Try.f26.ntmps (upto 1) (encL body_may.ash t) (encO body_may.aosh u)) = body_may.f k t.1 := by kernel_rfl
theorem body_may.ok (k : Nat) : FOk Try.prog 26 (body_may.cps k) := fok (md := 0) (ren := []) (cf := body_may.cf) (fn := Try.f26) (c := bodyOf Try.f26) (by kernel_rfl) (by kernel_rfl) (by kernel_rfl) (rets := body_may.rets) (onR := body_may.onR) (ash := body_may.ash) (aosh := body_may.aosh) (F := fun t u => body_may.f k t.1) (stps := body_may.stps) (go := body_may.go) (Ok := fun k => orcL (body_may.tab k)) (Nk := fun k => orcN (body_may.tab k)) (Qk := fun k => orcQ (body_may.qtab k))
  (List.forall_mem_cons.2 ⟨fun t u ρ K => rfl, List.forall_mem_nil _⟩) (by kernel_rfl) (by kernel_rfl) k (fun x => by cases x <;> rfl) (List.forall_mem_nil _)
  (List.forall_mem_nil _) (body_may.run k) (fun C k' hk' r => orcL_ok r C _ (List.forall_mem_cons.2 ⟨slices_ContainsFunc_api_FuncType_api_FuncType.ok k', List.forall_mem_nil _⟩)) (fun C k' hk' r => orcN_ok r C _ (List.forall_mem_cons.2 ⟨slices_ContainsFunc_api_FuncType_api_FuncType.ok k', List.forall_mem_nil _⟩)) (fun k' hk' => orcQ_ok _ (List.forall_mem_nil _))
/-! ### gangway/code.shape -/
def code_shape.onR (ρ : Type) (r : code_shape.R) (K : AV → List Ob → Option ρ) : Option ρ := K (.int .i64 r) []
def code_shape.rets : List (Ret code_shape.R) := [⟨.int .i64, [], fun t u => t⟩]
def code_shape.stps : List (Stp code_shape.L) := [⟨3, [0], [.int .i64], [], fun t u => .s3 t.1⟩,
  ⟨7, [0], [.int .i64], [], fun t u => .s7 t.1⟩,
  ⟨13, [0], [.int .i64], [], fun t u => .s13 t.1⟩,
  ⟨15, [0], [.int .i64], [], fun t u => .s15 t.1⟩]
def code_shape.ash : List Sh := [.int .i64]
def code_shape.aosh : List OSh := []
def code_shape.cps (k : Nat) : Cps := cpsOf code_shape.ash code_shape.aosh (fun t u => code_shape.f k t.1) code_shape.onR
def code_shape.tab (k : Nat) : List (Nat × Cps × List Bool) := []
def code_shape.qtab (k : Nat) : List QEnt := []
def code_shape.cf : Cfg := ⟨fun f => memB f [], fun f => memB f [], fun i => memB i []⟩
theorem code_shape.run_s3 (k : Nat) (t : TyL [.int .i64]) (u : TyO []) : runF [] code_shape.cf (orcL (code_shape.tab k)) (orcN (code_shape.tab k)) (orcQ (code_shape.qtab k)) Try.f72 (liveS code_shape.stps) 0 (stpJ (code_shape.go k) code_shape.stps) (retD code_shape.rets) (stackAt (bodyOf Try.f72) 3) (mkS 0 Try.f72.ntmps [0] (encL _ t) (encO _ u)) = code_shape.go (k + 1) (.s3 t.1) := by kernel_rfl
theorem code_shape.run_s7 (k : Nat) (t : TyL [.int .i64]) (u : TyO []) : runF [] code_shape.cf (orcL (code_shape.tab k)) (orcN (code_shape.tab k)) (orcQ (code_shape.qtab k)) Try.f72 (liveS code_shape.stps) 0 (stpJ (code_shape.go k) code_shape.stps) (retD code_shape.rets) (stackAt (bodyOf Try.f72) 7) (mkS 0 Try.f72.ntmps [0] (encL _ t) (encO _ u)) = code_shape.go (k + 1) (.s7 t.1) := by kernel_rfl
theorem code_shape.run_s13 (k : Nat) (t : TyL [.int .i64]) (u : TyO []) : runF [] code_shape.cf (orcL (code_shape.tab k)) (orcN (code_shape.tab k)) (orcQ (code_shape.qtab k)) Try.f72 (liveS code_shape.stps) 0 (stpJ (code_shape.go k) code_shape.stps) (retD code_shape.rets) (stackAt (bodyOf Try.f72) 13) (mkS 0 Try.f72.ntmps [0] (encL _ t) (encO _ u)) = code_shape.go (k + 1) (.s13 t.1) := by kernel_rfl
theorem code_shape.run_s15 (k : Nat) (t : TyL [.int .i64]) (u : TyO []) : runF [] code_shape.cf (orcL (code_shape.tab k)) (orcN (code_shape.tab k)) (orcQ (code_shape.qtab k)) Try.f72 (liveS code_shape.stps) 0 (stpJ (code_shape.go k) code_shape.stps) (retD code_shape.rets) (stackAt (bodyOf Try.f72) 15) (mkS 0 Try.f72.ntmps [0] (encL _ t) (encO _ u)) = code_shape.go (k + 1) (.s15 t.1) := by kernel_rfl
theorem code_shape.run (k : Nat) (t : TyL code_shape.ash) (u : TyO code_shape.aosh) : runF [] code_shape.cf (orcL (code_shape.tab k)) (orcN (code_shape.tab k)) (orcQ (code_shape.qtab k)) Try.f72 (liveS code_shape.stps) 0 (stpJ (code_shape.go k) code_shape.stps) (retD code_shape.rets) [.code (bodyOf Try.f72)] (mkS 0 Try.f72.ntmps (upto 1) (encL code_shape.ash t) (encO code_shape.aosh u)) = code_shape.f k t.1 := by kernel_rfl
theorem code_shape.ok (k : Nat) : FOk Try.prog 72 (code_shape.cps k) := fok (md := 0) (ren := []) (cf := code_shape.cf) (fn := Try.f72) (c := bodyOf Try.f72) (by kernel_rfl) (by kernel_rfl) (by kernel_rfl) (rets := code_shape.rets) (onR := code_shape.onR) (ash := code_shape.ash) (aosh := code_shape.aosh) (F := fun t u => code_shape.f k t.1) (stps := code_shape.stps) (go := code_shape.go) (Ok := fun k => orcL (code_shape.tab k)) (Nk := fun k => orcN (code_shape.tab k)) (Qk := fun k => orcQ (code_shape.qtab k))
  (List.forall_mem_cons.2 ⟨fun t u ρ K => rfl, List.forall_mem_nil _⟩) (by kernel_rfl) (by kernel_rfl) k (fun x => by cases x <;> rfl) (List.forall_mem_cons.2 ⟨by kernel_rfl, (List.forall_mem_cons.2 ⟨by kernel_rfl, (List.forall_mem_cons.2 ⟨by kernel_rfl, (List.forall_mem_cons.2 ⟨by kernel_rfl, List.forall_mem_nil _⟩)⟩)⟩)⟩)
  (List.forall_mem_cons.2 ⟨code_shape.run_s3, (List.forall_mem_cons.2 ⟨code_shape.run_s7, (List.forall_mem_cons.2 ⟨code_shape.run_s13, (List.forall_mem_cons.2 ⟨code_shape.run_s15, List.forall_mem_nil _⟩)⟩)⟩)⟩) (code_shape.run k) (fun C k' hk' r => orcL_ok r C _ (List.forall_mem_nil _)) (fun C k' hk' r => orcN_ok r C _ (List.forall_mem_nil _)) (fun k' hk' => orcQ_ok _ (List.forall_mem_nil _))
/-! ### gangway/code.word -/
def code_word.onR (ρ : Type) (r : code_word.R) (K : AV → List Ob → Option ρ) : Option ρ := K (.bo r) []
def code_word.rets : List (Ret code_word.R) := [⟨.bo, [], fun t u => t⟩]
def code_word.stps : List (Stp code_word.L) := []
def code_word.ash : List Sh := [.int .i64]
def code_word.aosh : List OSh := []
def code_word.cps (k : Nat) : Cps := cpsOf code_word.ash code_word.aosh (fun t u => code_word.f k t.1) code_word.onR
def code_word.tab (k : Nat) : List (Nat × Cps × List Bool) := []
def code_word.qtab (k : Nat) : List QEnt := []
def code_word.cf : Cfg := ⟨fun f => memB f [], fun f => memB f [], fun i => memB i []⟩
theorem code_word.run (k : Nat) (t : TyL code_word.ash) (u : TyO code_word.aosh) : runF [] code_word.cf (orcL (code_word.tab k)) (orcN (code_word.tab k)) (orcQ (code_word.qtab k)) Try.f75 (liveS code_word.stps) 0 (stpJ (code_word.go k) code_word.stps) (retD code_word.rets) [.code (bodyOf Try.f75)] (mkS 0 Try.f75.ntmps (upto 1) (encL code_word.ash t) (encO code_word.aosh u)) = code_word.f k t.1 := by kernel_rfl
theorem code_word.ok (k : Nat) : FOk Try.prog 75 (code_word.cps k) := fok (md := 0) (ren := []) (cf := code_word.cf) (fn := Try.f75) (c := bodyOf Try.f75) (by kernel_rfl) (by kernel_rfl) (by kernel_rfl) (rets := code_word.rets) (onR := code_word.onR) (ash := code_word.ash) (aosh := code_word.aosh) (F := fun t u => code_word.f k t.1) (stps := code_word.stps) (go := code_word.go) (Ok := fun k => orcL (code_word.tab k)) (Nk := fun k => orcN (code_word.tab k)) (Qk := fun k => orcQ (code_word.qtab k))
  (List.forall_mem_cons.2 ⟨fun t u ρ K => rfl, List.forall_mem_nil _⟩) (by kernel_rfl) (by kernel_rfl) k (fun x => by cases x <;> rfl) (List.forall_mem_nil _)
  (List.forall_mem_nil _) (code_word.run k) (fun C k' hk' r => orcL_ok r C _ (List.forall_mem_nil _)) (fun C k' hk' r => orcN_ok r C _ (List.forall_mem_nil _)) (fun k' hk' => orcQ_ok _ (List.forall_mem_nil _))
/-! ### gangway/code.typ -/
def code_typ.onR (ρ : Type) (r : code_typ.R) (K : AV → List Ob → Option ρ) : Option ρ := K (.bo r) []
def code_typ.rets : List (Ret code_typ.R) := [⟨.bo, [], fun t u => t⟩]
def code_typ.stps : List (Stp code_typ.L) := []
def code_typ.ash : List Sh := [.int .i64]
def code_typ.aosh : List OSh := []
def code_typ.cps (k : Nat) : Cps := cpsOf code_typ.ash code_typ.aosh (fun t u => code_typ.f k t.1) code_typ.onR
def code_typ.tab (k : Nat) : List (Nat × Cps × List Bool) := []
def code_typ.qtab (k : Nat) : List QEnt := []
def code_typ.cf : Cfg := ⟨fun f => memB f [], fun f => memB f [], fun i => memB i []⟩
theorem code_typ.run (k : Nat) (t : TyL code_typ.ash) (u : TyO code_typ.aosh) : runF [] code_typ.cf (orcL (code_typ.tab k)) (orcN (code_typ.tab k)) (orcQ (code_typ.qtab k)) Try.f73 (liveS code_typ.stps) 0 (stpJ (code_typ.go k) code_typ.stps) (retD code_typ.rets) [.code (bodyOf Try.f73)] (mkS 0 Try.f73.ntmps (upto 1) (encL code_typ.ash t) (encO code_typ.aosh u)) = code_typ.f k t.1 := by kernel_rfl
theorem code_typ.ok (k : Nat) : FOk Try.prog 73 (code_typ.cps k) := fok (md := 0) (ren := []) (cf := code_typ.cf) (fn := Try.f73) (c := bodyOf Try.f73) (by kernel_rfl) (by kernel_rfl) (by kernel_rfl) (rets := code_typ.rets) (onR := code_typ.onR) (ash := code_typ.ash) (aosh := code_typ.aosh) (F := fun t u => code_typ.f k t.1) (stps := code_typ.stps) (go := code_typ.go) (Ok := fun k => orcL (code_typ.tab k)) (Nk := fun k => orcN (code_typ.tab k)) (Qk := fun k => orcQ (code_typ.qtab k))
  (List.forall_mem_cons.2 ⟨fun t u ρ K => rfl, List.forall_mem_nil _⟩) (by kernel_rfl) (by kernel_rfl) k (fun x => by cases x <;> rfl) (List.forall_mem_nil _)
  (List.forall_mem_nil _) (code_typ.run k) (fun C k' hk' r => orcL_ok r C _ (List.forall_mem_nil _)) (fun C k' hk' r => orcN_ok r C _ (List.forall_mem_nil _)) (fun k' hk' => orcQ_ok _ (List.forall_mem_nil _))
/-! ### gangway/code.good$1 -/
def code_good_1.onR (ρ : Type) (r : code_good_1.R) (K : AV → List Ob → Option ρ) : Option ρ := K (.bo r) []
def code_good_1.rets : List (Ret code_good_1.R) := [⟨.bo, [], fun t u => t⟩]
def code_good_1.stps : List (Stp code_good_1.L) := []
def code_good_1.ash : List Sh := [.int .i64]
def code_good_1.aosh : List OSh := []
def code_good_1.cps (k : Nat) : Cps := cpsOf code_good_1.ash code_good_1.aosh (fun t u => code_good_1.f k t.1) code_good_1.onR
def code_good_1.tab (k : Nat) : List (Nat × Cps × List Bool) := [(75, code_word.cps k, [false])]
def code_good_1.qtab (k : Nat) : List QEnt := []
def code_good_1.cf : Cfg := ⟨fun f => memB f [], fun f => memB f [], fun i => memB i []⟩
theorem code_good_1.run (k : Nat) (t : TyL code_good_1.ash) (u : TyO code_good_1.aosh) : runF [] code_good_1.cf (orcL (code_good_1.tab k)) (orcN (code_good_1.tab k)) (orcQ (code_good_1.qtab k)) Try.f74 (liveS code_good_1.stps) 0 (stpJ (code_good_1.go k) code_good_1.stps) (retD code_good_1.rets) [.code (bodyOf Try.f74)] (mkS 0 Try.f74.ntmps (upto 1) (encL code_good_1.ash t) (encO code_good_1.aosh u)) = code_good_1.f k t.1 := by kernel_rfl
theorem code_good_1.ok (k : Nat) : FOk Try.prog 74 (code_good_1.cps k) := fok (md := 0) (ren := []) (cf := code_good_1.cf) (fn := Try.f74) (c := bodyOf Try.f74) (by kernel_rfl) (by kernel_rfl) (by kernel_rfl) (rets := code_good_1.rets) (onR := code_good_1.onR) (ash := code_good_1.ash) (aosh := code_good_1.aosh) (F := fun t u => code_good_1.f k t.1) (stps := code_good_1.stps) (go := code_good_1.go) (Ok := fun k => orcL (code_good_1.tab k)) (Nk := fun k => orcN (code_good_1.tab k)) (Qk := fun k => orcQ (code_good_1.qtab k))
  (List.forall_mem_cons.2 ⟨fun t u ρ K => rfl, List.forall_mem_nil _⟩) (by kernel_rfl) (by kernel_rfl) k (fun x => by cases x <;> rfl) (List.forall_mem_nil _)
  (List.forall_mem_nil _) (code_good_1.run k) (fun C k' hk' r => orcL_ok r C _ (List.forall_mem_cons.2 ⟨code_word.ok k', List.forall_mem_nil _⟩)) (fun C k' hk' r => orcN_ok r C _ (List.forall_mem_cons.2 ⟨code_word.ok k', List.forall_mem_nil _⟩)) (fun k' hk' => orcQ_ok _ (List.forall_mem_nil _))
/-! ### slices.IndexFunc[[]int,int] -/
def slices_IndexFunc_int_int_1.onR (ρ : Type) (r : slices_IndexFunc_int_int_1.R) (K : AV → List Ob → Option ρ) : Option ρ := K (.int .i64 r) []
def slices_IndexFunc_int_int_1.rets : List (Ret slices_IndexFunc_int_int_1.R) := [⟨.int .i64, [], fun t u => t⟩]
def slices_IndexFunc_int_int_1.stps : List (Stp slices_IndexFunc_int_int_1.L) := [⟨2, [0, 1, 7, 8], [.ro 3, .fn 74 [], .int .i64, .int .i64], [], fun t u => .s2 t.1 t.2.2.1 t.2.2.2.1⟩]
def slices_IndexFunc_int_int_1.ash : List Sh := [.ro 3, .fn 74 []]
def slices_IndexFunc_int_int_1.aosh : List OSh := []
def slices_IndexFunc_int_int_1.cps (k : Nat) : Cps := cpsOf slices_IndexFunc_int_int_1.ash slices_IndexFunc_int_int_1.aosh (fun t u => slices_IndexFunc_int_int_1.f k t.1) slices_IndexFunc_int_int_1.onR
def slices_IndexFunc_int_int_1.tab (k : Nat) : List (Nat × Cps × List Bool) := [(74, code_good_1.cps k, [false])]
def slices_IndexFunc_int_int_1.qtab (k : Nat) : List QEnt := []
def slices_IndexFunc_int_int_1.cf : Cfg := ⟨fun f => memB f [], fun f => memB f [], fun i => memB i []⟩
theorem slices_IndexFunc_int_int_1.run_s2 (k : Nat) (t : TyL [.ro 3, .fn 74 [], .int .i64, .int .i64]) (u : TyO []) : runF [] slices_IndexFunc_int_int_1.cf (orcL (slices_IndexFunc_int_int_1.tab k)) (orcN (slices_IndexFunc_int_int_1.tab k)) (orcQ (slices_IndexFunc_int_int_1.qtab k)) Try.f63 (liveS slices_IndexFunc_int_int_1.stps) 0 (stpJ (slices_IndexFunc_int_int_1.go k) slices_IndexFunc_int_int_1.stps) (retD slices_IndexFunc_int_int_1.rets) (stackAt (bodyOf Try.f63) 2) (mkS 0 Try.f63.ntmps [0, 1, 7, 8] (encL _ t) (encO _ u)) = slices_IndexFunc_int_int_1.go (k + 1) (.s2 t.1 t.2.2.1 t.2.2.2.1) := by kernel_rfl
theorem slices_IndexFunc_int_int_1.run (k : Nat) (t : TyL slices_IndexFunc_int_int_1.ash) (u : TyO slices_IndexFunc_int_int_1.aosh) : runF [] slices_IndexFunc_int_int_1.cf (orcL (slices_IndexFunc_int_int_1.tab k)) (orcN (slices_IndexFunc_int_int_1.tab k)) (orcQ (slices_IndexFunc_int_int_1.qtab k)) Try.f63 (liveS slices_IndexFunc_int_int_1.stps) 0 (stpJ (slices_IndexFunc_int_int_1.go k) slices_IndexFunc_int_int_1.stps) (retD slices_IndexFunc_int_int_1.rets) [.code (bodyOf Try.f63)] (mkS 0 Try.f63.ntmps (upto 2) (encL slices_IndexFunc_int_int_1.ash t) (encO slices_IndexFunc_int_int_1.aosh u)) = slices_IndexFunc_int_int_1.f k t.1 := by kernel_rfl
theorem slices_IndexFunc_int_int_1.ok (k : Nat) : FOk Try.prog 63 (slices_IndexFunc_int_int_1.cps k) := fok (md := 0) (ren := []) (cf := slices_IndexFunc_int_int_1.cf) (fn := Try.f63) (c := bodyOf Try.f63) (by kernel_rfl) (by kernel_rfl) (by kernel_rfl) (rets := slices_IndexFunc_int_int_1.rets) (onR := slices_IndexFunc_int_int_1.onR) (ash := slices_IndexFunc_int_int_1.ash) (aosh := slices_IndexFunc_int_int_1.aosh) (F := fun t u => slices_IndexFunc_int_int_1.f k t.1) (stps := slices_IndexFunc_int_int_1.stps) (go := slices_IndexFunc_int_int_1.go) (Ok := fun k => orcL (slices_IndexFunc_int_int_1.tab k)) (Nk := fun k => orcN (slices_IndexFunc_int_int_1.tab k)) (Qk := fun k => orcQ (slices_IndexFunc_int_int_1.qtab k))
  (List.forall_mem_cons.2 ⟨fun t u ρ K => rfl, List.forall_mem_nil _⟩) (by kernel_rfl) (by kernel_rfl) k (fun x => by cases x <;> rfl) (List.forall_mem_cons.2 ⟨by kernel_rfl, List.forall_mem_nil _⟩)
  (List.forall_mem_cons.2 ⟨slices_IndexFunc_int_int_1.run_s2, List.forall_mem_nil _⟩) (slices_IndexFunc_int_int_1.run k) (fun C k' hk' r => orcL_ok r C _ (List.forall_mem_cons.2 ⟨code_good_1.ok k', List.forall_mem_nil _⟩)) (fun C k' hk' r => orcN_ok r C _ (List.forall_mem_cons.2 ⟨code_good_1.ok k', List.forall_mem_nil _⟩)) (fun k' hk' => orcQ_ok _ (List.forall_mem_nil _))
/-! ### slices.ContainsFunc[[]int,int] -/
def slices_ContainsFunc_int_int_1.onR (ρ : Type) (r : slices_ContainsFunc_int_int_1.R) (K : AV → List Ob → Option ρ) : Option ρ := K (.bo r) []
def slices_ContainsFunc_int_int_1.rets : List (Ret slices_ContainsFunc_int_int_1.R) := [⟨.bo, [], fun t u => t⟩]
def slices_ContainsFunc_int_int_1.stps : List (Stp slices_ContainsFunc_int_int_1.L) := []
def slices_ContainsFunc_int_int_1.ash : List Sh := [.ro 3, .fn 74 []]
def slices_ContainsFunc_int_int_1.aosh : List OSh := []
def slices_ContainsFunc_int_int_1.cps (k : Nat) : Cps := cpsOf slices_ContainsFunc_int_int_1.ash slices_ContainsFunc_int_int_1.aosh (fun t u => slices_ContainsFunc_int_int_1.f k t.1) slices_ContainsFunc_int_int_1.onR
def slices_ContainsFunc_int_int_1.tab (k : Nat) : List (Nat × Cps × List Bool) := [(63, slices_IndexFunc_int_int_1.cps k, [false, false])]
def slices_ContainsFunc_int_int_1.qtab (k : Nat) : List QEnt := []
def slices_ContainsFunc_int_int_1.cf : Cfg := ⟨fun f => memB f [], fun f => memB f [], fun i => memB i []⟩
theorem slices_ContainsFunc_int_int_1.run (k : Nat) (t : TyL slices_ContainsFunc_int_int_1.ash) (u : TyO slices_ContainsFunc_int_int_1.aosh) : runF [] slices_ContainsFunc_int_int_1.cf (orcL (slices_ContainsFunc_int_int_1.tab k)) (orcN (slices_ContainsFunc_int_int_1.tab k)) (orcQ (slices_ContainsFunc_int_int_1.qtab k)) Try.f42 (liveS slices_ContainsFunc_int_int_1.stps) 0 (stpJ (slices_ContainsFunc_int_int_1.go k) slices_ContainsFunc_int_int_1.stps) (retD slices_ContainsFunc_int_int_1.rets) [.code (bodyOf Try.f42)] (mkS 0 Try.f42.ntmps (upto 2) (encL slices_ContainsFunc_int_int_1.ash t) (encO slices_ContainsFunc_int_int_1.aosh u)) = slices_ContainsFunc_int_int_1.f k t.1 := by kernel_rfl
theorem slices_ContainsFunc_int_int_1.ok (k : Nat) : FOk Try.prog 42 (slices_ContainsFunc_int_int_1.cps k) := fok (md := 0) (ren := []) (cf := slices_ContainsFunc_int_int_1.cf) (fn := Try.f42) (c := bodyOf Try.f42) (by kernel_rfl) (by kernel_rfl) (by kernel_rfl) (rets := slices_ContainsFunc_int_int_1.rets) (onR := slices_ContainsFunc_int_int_1.onR) (ash := slices_ContainsFunc_int_int_1.ash) (aosh := slices_ContainsFunc_int_int_1.aosh) (F := fun t u => slices_ContainsFunc_int_int_1.f k t.1) (stps := slices_ContainsFunc_int_int_1.stps) (go := slices_ContainsFunc_int_int_1.go) (Ok := fun k => orcL (slices_ContainsFunc_int_int_1.tab k)) (Nk := fun k => orcN (slices_ContainsFunc_int_int_1.tab k)) (Qk := fun k => orcQ (slices_ContainsFunc_int_int_1.qtab k))
  (List.forall_mem_cons.2 ⟨fun t u ρ K => rfl, List.forall_mem_nil _⟩) (by kernel_rfl) (by kernel_rfl) k (fun x => by cases x <;> rfl) (List.forall_mem_nil _)
  (List.forall_mem_nil _) (slices_ContainsFunc_int_int_1.run k) (fun C k' hk' r => orcL_ok r C _ (List.forall_mem_cons.2 ⟨slices_IndexFunc_int_int_1.ok k', List.forall_mem_nil _⟩)) (fun C k' hk' r => orcN_ok r C _ (List.forall_mem_cons.2 ⟨slices_IndexFunc_int_int_1.ok k', List.forall_mem_nil _⟩)) (fun k' hk' => orcQ_ok _ (List.forall_mem_nil _))
/-! ### gangway/code.good -/
def code_good.onR (ρ : Type) (r : code_good.R) (K : AV → List Ob → Option ρ) : Option ρ := K (.bo r) []
def code_good.rets : List (Ret code_good.R) := [⟨.bo, [], fun t u => t⟩]
def code_good.stps : List (Stp code_good.L) := []
def code_good.ash : List Sh := [.agg [.int .i64, .int .i64, .int .i64, .int .i64, .int .i64, .int .i64, .ro 3, .ro 41, .ro 41], .int .i64]
def code_good.aosh : List OSh := []
def code_good.cps (k : Nat) : Cps := cpsOf code_good.ash code_good.aosh (fun t u => code_good.f k t.1.1 t.1.2.1 t.1.2.2.1 t.1.2.2.2.1 t.1.2.2.2.2.1 t.1.2.2.2.2.2.1 t.1.2.2.2.2.2.2.1 t.1.2.2.2.2.2.2.2.1 t.1.2.2.2.2.2.2.2.2.1 t.2.1) code_good.onR
/-! ### gangway/code.all$1 -/
def code_all_1.onR (ρ : Type) (r : code_all_1.R) (K : AV → List Ob → Option ρ) : Option ρ := K (.bo r.1) [.box 3 [.int .i64 r.2]]
def code_all_1.rets : List (Ret code_all_1.R) := [⟨.bo, [.box 3 [.int .i64]], fun t u => (t, u.1.1)⟩]
def code_all_1.stps : List (Stp code_all_1.L) := []
def code_all_1.ash : List Sh := [.agg [.int .i64, .int .i64, .int .i64, .int .i64, .int .i64, .int .i64, .ro 3, .ro 41, .ro 41], .ptr 0 0]
def code_all_1.aosh : List OSh := [.box 3 [.int .i64]]
def code_all_1.cps (k : Nat) : Cps := cpsOf code_all_1.ash code_all_1.aosh (fun t u => code_all_1.f k t.1.1 t.1.2.1 t.1.2.2.1 t.1.2.2.2.1 t.1.2.2.2.2.1 t.1.2.2.2.2.2.1 t.1.2.2.2.2.2.2.1 t.1.2.2.2.2.2.2.2.1 t.1.2.2.2.2.2.2.2.2.1 u.1.1) code_all_1.onR
/-! ### slices.IndexFunc[[]gangway/api.Instr,gangway/api.Instr] -/
def slices_IndexFunc_api_Instr_api_Instr.onR (ρ : Type) (r : slices_IndexFunc_api_Instr_api_Instr.R) (K : AV → List Ob → Option ρ) : Option ρ := K (.int .i64 r.1) [.box 3 [.int .i64 r.2]]
def slices_IndexFunc_api_Instr_api_Instr.rets : List (Ret slices_IndexFunc_api_Instr_api_Instr.R) := [⟨.int .i64, [.box 3 [.int .i64]], fun t u => (t, u.1.1)⟩]
def slices_IndexFunc_api_Instr_api_Instr.stps : List (Stp slices_IndexFunc_api_Instr_api_Instr.L) := [⟨2, [0, 1, 7, 8], [.ro 41, .fn 65 [.ptr 0 0], .int .i64, .int .i64], [.box 3 [.int .i64]], fun t u => .s2 t.1 t.2.2.1 t.2.2.2.1 u.1.1⟩]
def slices_IndexFunc_api_Instr_api_Instr.ash : List Sh := [.ro 41, .fn 65 [.ptr 0 0]]
def slices_IndexFunc_api_Instr_api_Instr.aosh : List OSh := [.box 3 [.int .i64]]
def slices_IndexFunc_api_Instr_api_Instr.cps (k : Nat) : Cps := cpsOf slices_IndexFunc_api_Instr_api_Instr.ash slices_IndexFunc_api_Instr_api_Instr.aosh (fun t u => slices_IndexFunc_api_Instr_api_Instr.f k t.1 u.1.1) slices_IndexFunc_api_Instr_api_Instr.onR
/-! ### slices.ContainsFunc[[]gangway/api.Instr,gangway/api.Instr] -/
def slices_ContainsFunc_api_Instr_api_Instr.onR (ρ : Type) (r : slices_ContainsFunc_api_Instr_api_Instr.R) (K : AV → List Ob → Option ρ) : Option ρ := K (.bo r.1) [.box 3 [.int .i64 r.2]]
def slices_ContainsFunc_api_Instr_api_Instr.rets : List (Ret slices_ContainsFunc_api_Instr_api_Instr.R) := [⟨.bo, [.box 3 [.int .i64]], fun t u => (t, u.1.1)⟩]
def slices_ContainsFunc_api_Instr_api_Instr.stps : List (Stp slices_ContainsFunc_api_Instr_api_Instr.L) := []
def slices_ContainsFunc_api_Instr_api_Instr.ash : List Sh := [.ro 41, .fn 65 [.ptr 0 0]]
def slices_ContainsFunc_api_Instr_api_Instr.aosh : List OSh := [.box 3 [.int .i64]]
def slices_ContainsFunc_api_Instr_api_Instr.cps (k : Nat) : Cps := cpsOf slices_ContainsFunc_api_Instr_api_Instr.ash slices_ContainsFunc_api_Instr_api_Instr.aosh (fun t u => slices_ContainsFunc_api_Instr_api_Instr.f k t.1 u.1.1) slices_ContainsFunc_api_Instr_api_Instr.onR
/-! ### gangway/code.all -/
def code_all.onR (ρ : Type) (r : code_all.R) (K : AV → List Ob → Option ρ) : Option ρ := K (.bo r) []
def code_all.rets : List (Ret code_all.R) := [⟨.bo, [], fun t u => t⟩]
def code_all.stps : List (Stp code_all.L) := []
def code_all.ash : List Sh := [.ro 41, .int .i64]
def code_all.aosh : List OSh := []
def code_all.cps (k : Nat) : Cps := cpsOf code_all.ash code_all.aosh (fun t u => code_all.f k t.1 t.2.1) code_all.onR
def code_good.tab (k : Nat) : List (Nat × Cps × List Bool) := [(72, code_shape.cps k, [false]), (75, code_word.cps k, [false]), (73, code_typ.cps k, [false]), (44, code_all.cps k, [false, false]), (42, slices_ContainsFunc_int_int_1.cps k, [false, false])]
def code_good.qtab (k : Nat) : List QEnt := []
def code_good.cf : Cfg := ⟨fun f => memB f [], fun f => memB f [], fun i => memB i [9, 18, 21]⟩
def code_good.fA (k : Nat) (a0 : Int) (a1 : Int) (a2 : Int) (a3 : Int) (a4 : Int) (a5 : Int) (a6 : List Int) (a7 : List api_Instr) (a8 : List api_Instr) (a9 : Int) : Option code_good.R :=
  (code_shape.f k a0).bind fun r1 =>
  if r1 = (1 : Int) then
    (code_word.f k a2).bind fun r2 =>
    if r2 = true then
      (code_word.f k a3).bind fun r3 =>
      if r3 = true then
        (code_word.f k a4).bind fun r4 =>
        if r4 = true then
          if 0 = a1 then
            if 0 = a2 then
              if 0 = a3 then
                if 0 = a4 then
                  if 0 = a5 then
                    if (([] : List Int).length : Int) = (a6.length : Int) then
                      if (([] : List api_Instr).length : Int) = (a7.length : Int) then
                        some (decide ((([] : List api_Instr).length : Int) = (a8.length : Int)))
                      else
                        some false
                    else
                      some false
                  else
                    some false
                else
                  some false
              else
                some false
            else
              some false
          else
            some false
        else
          some false
      else
        some false
    else
      some false
  else
    if r1 = (8 : Int) then
      (code_word.f k a2).bind fun r5 =>
      if r5 = true then
        (code_word.f k a3).bind fun r6 =>
        if r6 = true then
          (code_word.f k a4).bind fun r7 =>
          if r7 = true then
            if 0 = a1 then
              if 0 = a2 then
                if 0 = a3 then
                  if 0 = a4 then
                    if 0 = a5 then
                      if (([] : List Int).length : Int) = (a6.length : Int) then
                        if (([] : List api_Instr).length : Int) = (a7.length : Int) then
                          some (decide ((([] : List api_Instr).length : Int) = (a8.length : Int)))
                        else
                          some false
                      else
                        some false
                    else
                      some false
                  else
                    some false
                else
                  some false
              else
                some false
            else
              some false
          else
            some false
        else
          some false
      else
        some false
    else
      if r1 = (2 : Int) then
        (fun x_ => ambL [x_, x_]) <|
        (code_typ.f k a1).bind fun r8 =>
        if r8 = true then
          if a9 < (40 : Int) then
            (code_all.f k a7 (IntKind.i64.wrap (a9 + (1 : Int)))).bind fun r9 =>
            if a0 = (4 : Int) then
              if r9 = true then
                (code_all.f k a8 (IntKind.i64.wrap (a9 + (1 : Int)))).bind fun r10 =>
                if r10 = true then
                  (code_word.f k a2).bind fun r11 =>
                  if r11 = true then
                    (code_word.f k a3).bind fun r12 =>
                    if r12 = true then
                      (code_word.f k a4).bind fun r13 =>
                      if r13 = true then
                        if a1 = a1 then
                          if 0 = a2 then
                            if 0 = a3 then
                              if 0 = a4 then
                                if 0 = a5 then
                                  if (([] : List Int).length : Int) = (a6.length : Int) then
                                    if (a7.length : Int) = (a7.length : Int) then
                                      some (decide ((a8.length : Int) = (a8.length : Int)))
                                    else
                                      some false
                                  else
                                    some false
                                else
                                  some false
                              else
                                some false
                            else
                              some false
                          else
                            some false
                        else
                          some false
                      else
                        some false
                    else
                      some false
                  else
                    some false
                else
                  some false
              else
                some false
            else
              if r9 = true then
                (code_word.f k a2).bind fun r14 =>
                if r14 = true then
                  (code_word.f k a3).bind fun r15 =>
                  if r15 = true then
                    (code_word.f k a4).bind fun r16 =>
                    if r16 = true then
                      if a1 = a1 then
                        if 0 = a2 then
                          if 0 = a3 then
                            if 0 = a4 then
                              if 0 = a5 then
                                if (([] : List Int).length : Int) = (a6.length : Int) then
                                  if (a7.length : Int) = (a7.length : Int) then
                                    some (decide ((([] : List api_Instr).length : Int) = (a8.length : Int)))
                                  else
                                    some false
                                else
                                  some false
                              else
                                some false
                            else
                              some false
                          else
                            some false
                        else
                          some false
                      else
                        some false
                    else
                      some false
                  else
                    some false
                else
                  some false
              else
                some false
          else
            if a0 = (4 : Int) then
              some false
            else
              some false
        else
          if a0 = (4 : Int) then
            some false
          else
            some false
      else
        if r1 = (3 : Int) then
          (fun x_ => ambL [x_, x_]) <|
          (code_typ.f k a1).bind fun r17 =>
          if r17 = true then
            if a9 < (40 : Int) then
              (code_all.f k a7 (IntKind.i64.wrap (a9 + (1 : Int)))).bind fun r18 =>
              if a0 = (4 : Int) then
                if r18 = true then
                  (code_all.f k a8 (IntKind.i64.wrap (a9 + (1 : Int)))).bind fun r19 =>
                  if r19 = true then
                    (code_word.f k a2).bind fun r20 =>
                    if r20 = true then
                      (code_word.f k a3).bind fun r21 =>
                      if r21 = true then
                        (code_word.f k a4).bind fun r22 =>
                        if r22 = true then
                          if a1 = a1 then
                            if 0 = a2 then
                              if 0 = a3 then
                                if 0 = a4 then
                                  if 0 = a5 then
                                    if (([] : List Int).length : Int) = (a6.length : Int) then
                                      if (a7.length : Int) = (a7.length : Int) then
                                        some (decide ((a8.length : Int) = (a8.length : Int)))
                                      else
                                        some false
                                    else
                                      some false
                                  else
                                    some false
                                else
                                  some false
                              else
                                some false
                            else
                              some false
                          else
                            some false
                        else
                          some false
                      else
                        some false
                    else
                      some false
                  else
                    some false
                else
                  some false
              else
                if r18 = true then
                  (code_word.f k a2).bind fun r23 =>
                  if r23 = true then
                    (code_word.f k a3).bind fun r24 =>
                    if r24 = true then
                      (code_word.f k a4).bind fun r25 =>
                      if r25 = true then
                        if a1 = a1 then
                          if 0 = a2 then
                            if 0 = a3 then
                              if 0 = a4 then
                                if 0 = a5 then
                                  if (([] : List Int).length : Int) = (a6.length : Int) then
                                    if (a7.length : Int) = (a7.length : Int) then
                                      some (decide ((([] : List api_Instr).length : Int) = (a8.length : Int)))
                                    else
                                      some false
                                  else
                                    some false
                                else
                                  some false
                              else
                                some false
                            else
                              some false
                          else
                            some false
                        else
                          some false
                      else
                        some false
                    else
                      some false
                  else
                    some false
                else
                  some false
            else
              if a0 = (4 : Int) then
                some false
              else
                some false
          else
            if a0 = (4 : Int) then
              some false
            else
              some false
        else
          if r1 = (4 : Int) then
            (code_word.f k a2).bind fun r26 =>
            if r26 = true then
              (code_word.f k a3).bind fun r27 =>
              if r27 = true then
                (code_word.f k a4).bind fun r28 =>
                if r28 = true then
                  if 0 = a1 then
                    if a2 = a2 then
                      if 0 = a3 then
                        if 0 = a4 then
                          if 0 = a5 then
                            if (([] : List Int).length : Int) = (a6.length : Int) then
                              if (([] : List api_Instr).length : Int) = (a7.length : Int) then
                                some (decide ((([] : List api_Instr).length : Int) = (a8.length : Int)))
                              else
                                some false
                            else
                              some false
                          else
                            some false
                        else
                          some false
                      else
                        some false
                    else
                      some false
                  else
                    some false
                else
                  some false
              else
                some false
            else
              some false
          else
            if r1 = (6 : Int) then
              (code_word.f k a2).bind fun r29 =>
              if r29 = true then
                (code_word.f k a3).bind fun r30 =>
                if r30 = true then
                  (code_word.f k a4).bind fun r31 =>
                  if r31 = true then
                    if 0 = a1 then
                      if a2 = a2 then
                        if 0 = a3 then
                          if 0 = a4 then
                            if 0 = a5 then
                              if (([] : List Int).length : Int) = (a6.length : Int) then
                                if (([] : List api_Instr).length : Int) = (a7.length : Int) then
                                  some (decide ((([] : List api_Instr).length : Int) = (a8.length : Int)))
                                else
                                  some false
                              else
                                some false
                            else
                              some false
                          else
                            some false
                        else
                          some false
                      else
                        some false
                    else
                      some false
                  else
                    some false
                else
                  some false
              else
                some false
            else
              if r1 = (5 : Int) then
                (fun x_ => ambL [x_, x_]) <|
                (slices_ContainsFunc_int_int_1.f k a6).bind fun r32 =>
                if (!r32) = true then
                  (code_word.f k a2).bind fun r33 =>
                  if r33 = true then
                    (code_word.f k a3).bind fun r34 =>
                    if r34 = true then
                      (code_word.f k a4).bind fun r35 =>
                      if r35 = true then
                        if 0 = a1 then
                          if a2 = a2 then
                            if 0 = a3 then
                              if 0 = a4 then
                                if 0 = a5 then
                                  if (a6.length : Int) = (a6.length : Int) then
                                    if (([] : List api_Instr).length : Int) = (a7.length : Int) then
                                      some (decide ((([] : List api_Instr).length : Int) = (a8.length : Int)))
                                    else
                                      some false
                                  else
                                    some false
                                else
                                  some false
                              else
                                some false
                            else
                              some false
                          else
                            some false
                        else
                          some false
                      else
                        some false
                    else
                      some false
                  else
                    some false
                else
                  some false
              else
                if r1 = (7 : Int) then
                  (fun x_ => ambL [x_, x_]) <|
                  (code_word.f k a2).bind fun r36 =>
                  if r36 = true then
                    (code_word.f k a3).bind fun r37 =>
                    if r37 = true then
                      (code_word.f k a4).bind fun r38 =>
                      if r38 = true then
                        if 0 = a1 then
                          if 0 = a2 then
                            if a3 = a3 then
                              if a4 = a4 then
                                if 0 = a5 then
                                  if (([] : List Int).length : Int) = (a6.length : Int) then
                                    if (([] : List api_Instr).length : Int) = (a7.length : Int) then
                                      some (decide ((([] : List api_Instr).length : Int) = (a8.length : Int)))
                                    else
                                      some false
                                  else
                                    some false
                                else
                                  some false
                              else
                                some false
                            else
                              some false
                          else
                            some false
                        else
                          some false
                      else
                        some false
                    else
                      some false
                  else
                    some false
                else
                  if r1 = (9 : Int) then
                    if a5 = (IntKind.i64.wrap (IntKind.i32.wrap a5)) then
                      (code_word.f k a2).bind fun r39 =>
                      if r39 = true then
                        (code_word.f k a3).bind fun r40 =>
                        if r40 = true then
                          (code_word.f k a4).bind fun r41 =>
                          if r41 = true then
                            if 0 = a1 then
                              if 0 = a2 then
                                if 0 = a3 then
                                  if 0 = a4 then
                                    if a5 = a5 then
                                      if (([] : List Int).length : Int) = (a6.length : Int) then
                                        if (([] : List api_Instr).length : Int) = (a7.length : Int) then
                                          some (decide ((([] : List api_Instr).length : Int) = (a8.length : Int)))
                                        else
                                          some false
                                      else
                                        some false
                                    else
                                      some false
                                  else
                                    some false
                                else
                                  some false
                              else
                                some false
                            else
                              some false
                          else
                            some false
                        else
                          some false
                      else
                        some false
                    else
                      some false
                  else
                    if r1 = (10 : Int) then
                      (code_word.f k a2).bind fun r42 =>
                      if r42 = true then
                        (code_word.f k a3).bind fun r43 =>
                        if r43 = true then
                          (code_word.f k a4).bind fun r44 =>
                          if r44 = true then
                            if 0 = a1 then
                              if 0 = a2 then
                                if 0 = a3 then
                                  if 0 = a4 then
                                    if a5 = a5 then
                                      if (([] : List Int).length : Int) = (a6.length : Int) then
                                        if (([] : List api_Instr).length : Int) = (a7.length : Int) then
                                          some (decide ((([] : List api_Instr).length : Int) = (a8.length : Int)))
                                        else
                                          some false
                                      else
                                        some false
                                    else
                                      some false
                                  else
                                    some false
                                else
                                  some false
                              else
                                some false
                            else
                              some false
                          else
                            some false
                        else
                          some false
                      else
                        some false
                    else
                      some false
theorem code_good.fA_eq (k : Nat) (a0 : Int) (a1 : Int) (a2 : Int) (a3 : Int) (a4 : Int) (a5 : Int) (a6 : List Int) (a7 : List api_Instr) (a8 : List api_Instr) (a9 : Int) : code_good.fA k a0 a1 a2 a3 a4 a5 a6 a7 a8 a9 = code_good.f (k + 1) a0 a1 a2 a3 a4 a5 a6 a7 a8 a9 := by
  unfold code_good.fA
  simp only [-eq_self, -iff_self, amb1, amb2, amb3, amb4]
  rfl
theorem code_good.run (k : Nat) (t : TyL code_good.ash) (u : TyO code_good.aosh) : runF [] code_good.cf (orcL (code_good.tab k)) (orcN (code_good.tab k)) (orcQ (code_good.qtab k)) Try.f66 (liveS code_good.stps) 0 (stpJ (code_good.go k) code_good.stps) (retD code_good.rets) [.code (bodyOf Try.f66)] (mkS 0 Try.f66.ntmps (upto 2) (encL code_good.ash t) (encO code_good.aosh u)) = code_good.f (k + 1) t.1.1 t.1.2.1 t.1.2.2.1 t.1.2.2.2.1 t.1.2.2.2.2.1 t.1.2.2.2.2.2.1 t.1.2.2.2.2.2.2.1 t.1.2.2.2.2.2.2.2.1 t.1.2.2.2.2.2.2.2.2.1 t.2.1 := by
  have h : runF [] code_good.cf (orcL (code_good.tab k)) (orcN (code_good.tab k)) (orcQ (code_good.qtab k)) Try.f66 (liveS code_good.stps) 0 (stpJ (code_good.go k) code_good.stps) (retD code_good.rets) [.code (bodyOf Try.f66)] (mkS 0 Try.f66.ntmps (upto 2) (encL code_good.ash t) (encO code_good.aosh u)) = code_good.fA k t.1.1 t.1.2.1 t.1.2.2.1 t.1.2.2.2.1 t.1.2.2.2.2.1 t.1.2.2.2.2.2.1 t.1.2.2.2.2.2.2.1 t.1.2.2.2.2.2.2.2.1 t.1.2.2.2.2.2.2.2.2.1 t.2.1 := by kernel_rfl
  exact h.trans (code_good.fA_eq k _ _ _ _ _ _ _ _ _ _)
def code_all_1.tab (k : Nat) : List (Nat × Cps × List Bool) := [(66, code_good.cps k, [false, false])]
def code_all_1.qtab (k : Nat) : List QEnt := []
def code_all_1.cf : Cfg := ⟨fun f => memB f [], fun f => memB f [], fun i => memB i []⟩
theorem code_all_1.run (k : Nat) (t : TyL code_all_1.ash) (u : TyO code_all_1.aosh) : runF [] code_all_1.cf (orcL (code_all_1.tab k)) (orcN (code_all_1.tab k)) (orcQ (code_all_1.qtab k)) Try.f65 (liveS code_all_1.stps) 1 (stpJ (code_all_1.go k) code_all_1.stps) (retD code_all_1.rets) [.code (bodyOf Try.f65)] (mkS 0 Try.f65.ntmps (upto 2) (encL code_all_1.ash t) (encO code_all_1.aosh u)) = code_all_1.f (k + 1) t.1.1 t.1.2.1 t.1.2.2.1 t.1.2.2.2.1 t.1.2.2.2.2.1 t.1.2.2.2.2.2.1 t.1.2.2.2.2.2.2.1 t.1.2.2.2.2.2.2.2.1 t.1.2.2.2.2.2.2.2.2.1 u.1.1 := by kernel_rfl
def slices_IndexFunc_api_Instr_api_Instr.tab (k : Nat) : List (Nat × Cps × List Bool) := [(65, code_all_1.cps k, [false, false])]
def slices_IndexFunc_api_Instr_api_Instr.qtab (k : Nat) : List QEnt := []
def slices_IndexFunc_api_Instr_api_Instr.cf : Cfg := ⟨fun f => memB f [], fun f => memB f [], fun i => memB i []⟩
theorem slices_IndexFunc_api_Instr_api_Instr.run_s2 (k : Nat) (t : TyL [.ro 41, .fn 65 [.ptr 0 0], .int .i64, .int .i64]) (u : TyO [.box 3 [.int .i64]]) : runF [] slices_IndexFunc_api_Instr_api_Instr.cf (orcL (slices_IndexFunc_api_Instr_api_Instr.tab k)) (orcN (slices_IndexFunc_api_Instr_api_Instr.tab k)) (orcQ (slices_IndexFunc_api_Instr_api_Instr.qtab k)) Try.f71 (liveS slices_IndexFunc_api_Instr_api_Instr.stps) 1 (stpJ (slices_IndexFunc_api_Instr_api_Instr.go k) slices_IndexFunc_api_Instr_api_Instr.stps) (retD slices_IndexFunc_api_Instr_api_Instr.rets) (stackAt (bodyOf Try.f71) 2) (mkS 0 Try.f71.ntmps [0, 1, 7, 8] (encL _ t) (encO _ u)) = slices_IndexFunc_api_Instr_api_Instr.go (k + 1) (.s2 t.1 t.2.2.1 t.2.2.2.1 u.1.1) := by kernel_rfl
theorem slices_IndexFunc_api_Instr_api_Instr.run (k : Nat) (t : TyL slices_IndexFunc_api_Instr_api_Instr.ash) (u : TyO slices_IndexFunc_api_Instr_api_Instr.aosh) : runF [] slices_IndexFunc_api_Instr_api_Instr.cf (orcL (slices_IndexFunc_api_Instr_api_Instr.tab k)) (orcN (slices_IndexFunc_api_Instr_api_Instr.tab k)) (orcQ (slices_IndexFunc_api_Instr_api_Instr.qtab k)) Try.f71 (liveS slices_IndexFunc_api_Instr_api_Instr.stps) 1 (stpJ (slices_IndexFunc_api_Instr_api_Instr.go k) slices_IndexFunc_api_Instr_api_Instr.stps) (retD slices_IndexFunc_api_Instr_api_Instr.rets) [.code (bodyOf Try.f71)] (mkS 0 Try.f71.ntmps (upto 2) (encL slices_IndexFunc_api_Instr_api_Instr.ash t) (encO slices_IndexFunc_api_Instr_api_Instr.aosh u)) = slices_IndexFunc_api_Instr_api_Instr.f (k + 1) t.1 u.1.1 := by kernel_rfl
def slices_ContainsFunc_api_Instr_api_Instr.tab (k : Nat) : List (Nat × Cps × List Bool) := [(71, slices_IndexFunc_api_Instr_api_Instr.cps k, [false, false])]
def slices_ContainsFunc_api_Instr_api_Instr.qtab (k : Nat) : List QEnt := []
def slices_ContainsFunc_api_Instr_api_Instr.cf : Cfg := ⟨fun f => memB f [], fun f => memB f [], fun i => memB i []⟩
theorem slices_ContainsFunc_api_Instr_api_Instr.run (k : Nat) (t : TyL slices_ContainsFunc_api_Instr_api_Instr.ash) (u : TyO slices_ContainsFunc_api_Instr_api_Instr.aosh) : runF [] slices_ContainsFunc_api_Instr_api_Instr.cf (orcL (slices_ContainsFunc_api_Instr_api_Instr.tab k)) (orcN (slices_ContainsFunc_api_Instr_api_Instr.tab k)) (orcQ (slices_ContainsFunc_api_Instr_api_Instr.qtab k)) Try.f64 (liveS slices_ContainsFunc_api_Instr_api_Instr.stps) 1 (stpJ (slices_ContainsFunc_api_Instr_api_Instr.go k) slices_ContainsFunc_api_Instr_api_Instr.stps) (retD slices_ContainsFunc_api_Instr_api_Instr.rets) [.code (bodyOf Try.f64)] (mkS 0 Try.f64.ntmps (upto 2) (encL slices_ContainsFunc_api_Instr_api_Instr.ash t) (encO slices_ContainsFunc_api_Instr_api_Instr.aosh u)) = slices_ContainsFunc_api_Instr_api_Instr.f (k + 1) t.1 u.1.1 := by kernel_rfl
def code_all.tab (k : Nat) : List (Nat × Cps × List Bool) := [(64, slices_ContainsFunc_api_Instr_api_Instr.cps k, [false, false])]
def code_all.qtab (k : Nat) : List QEnt := []
def code_all.cf : Cfg := ⟨fun f => memB f [], fun f => memB f [], fun i => memB i []⟩
theorem code_all.run (k : Nat) (t : TyL code_all.ash) (u : TyO code_all.aosh) : runF [] code_all.cf (orcL (code_all.tab k)) (orcN (code_all.tab k)) (orcQ (code_all.qtab k)) Try.f44 (liveS code_all.stps) 0 (stpJ (code_all.go k) code_all.stps) (retD code_all.rets) [.code (bodyOf Try.f44)] (mkS 0 Try.f44.ntmps (upto 2) (encL code_all.ash t) (encO code_all.aosh u)) = code_all.f (k + 1) t.1 t.2.1 := by kernel_rfl
theorem code_all.oks : ∀ k : Nat, ∀ j, j ≤ k → FOk Try.prog 66 (code_good.cps j) ∧ FOk Try.prog 65 (code_all_1.cps j) ∧ FOk Try.prog 71 (slices_IndexFunc_api_Instr_api_Instr.cps j) ∧ FOk Try.prog 64 (slices_ContainsFunc_api_Instr_api_Instr.cps j) ∧ FOk Try.prog 44 (code_all.cps j)
  | 0 => fun j hj => by
    obtain rfl : j = 0 := Nat.le_zero.1 hj
    exact ⟨fok0 (fn := Try.f66) (by kernel_rfl) (by kernel_rfl) (by kernel_rfl) (fun t u => rfl), fok0 (fn := Try.f65) (by kernel_rfl) (by kernel_rfl) (by kernel_rfl) (fun t u => rfl), fok0 (fn := Try.f71) (by kernel_rfl) (by kernel_rfl) (by kernel_rfl) (fun t u => rfl), fok0 (fn := Try.f64) (by kernel_rfl) (by kernel_rfl) (by kernel_rfl) (fun t u => rfl), fok0 (fn := Try.f44) (by kernel_rfl) (by kernel_rfl) (by kernel_rfl) (fun t u => rfl)⟩
  | k + 1 => fun j hj => by
    rcases Nat.lt_or_ge j (k + 1) with h | h
    · exact code_all.oks k j (Nat.le_of_lt_succ h)
    obtain rfl : j = k + 1 := Nat.le_antisymm hj h
    have ih := code_all.oks k
    exact ⟨fok (md := 0) (ren := []) (cf := code_good.cf) (fn := Try.f66) (c := bodyOf Try.f66) (by kernel_rfl) (by kernel_rfl) (by kernel_rfl) (rets := code_good.rets) (onR := code_good.onR) (ash := code_good.ash) (aosh := code_good.aosh) (F := fun t u => code_good.f (k + 1) t.1.1 t.1.2.1 t.1.2.2.1 t.1.2.2.2.1 t.1.2.2.2.2.1 t.1.2.2.2.2.2.1 t.1.2.2.2.2.2.2.1 t.1.2.2.2.2.2.2.2.1 t.1.2.2.2.2.2.2.2.2.1 t.2.1) (stps := code_good.stps) (go := code_good.go) (Ok := fun k => orcL (code_good.tab k)) (Nk := fun k => orcN (code_good.tab k)) (Qk := fun k => orcQ (code_good.qtab k))   (List.forall_mem_cons.2 ⟨fun t u ρ K => rfl, List.forall_mem_nil _⟩) (by kernel_rfl) (by kernel_rfl) k (fun x => rfl) (List.forall_mem_nil _)   (List.forall_mem_nil _) (code_good.run k) (fun C k' hk' r => orcL_ok r C _ (List.forall_mem_cons.2 ⟨code_shape.ok k', (List.forall_mem_cons.2 ⟨code_word.ok k', (List.forall_mem_cons.2 ⟨code_typ.ok k', (List.forall_mem_cons.2 ⟨(ih k' hk').2.2.2.2, (List.forall_mem_cons.2 ⟨slices_ContainsFunc_int_int_1.ok k', List.forall_mem_nil _⟩)⟩)⟩)⟩)⟩)) (fun C k' hk' r => orcN_ok r C _ (List.forall_mem_cons.2 ⟨code_shape.ok k', (List.forall_mem_cons.2 ⟨code_word.ok k', (List.forall_mem_cons.2 ⟨code_typ.ok k', (List.forall_mem_cons.2 ⟨(ih k' hk').2.2.2.2, (List.forall_mem_cons.2 ⟨slices_ContainsFunc_int_int_1.ok k', List.forall_mem_nil _⟩)⟩)⟩)⟩)⟩)) (fun k' hk' => orcQ_ok _ (List.forall_mem_nil _)),
      fok (md := 0) (ren := []) (cf := code_all_1.cf) (fn := Try.f65) (c := bodyOf Try.f65) (by kernel_rfl) (by kernel_rfl) (by kernel_rfl) (rets := code_all_1.rets) (onR := code_all_1.onR) (ash := code_all_1.ash) (aosh := code_all_1.aosh) (F := fun t u => code_all_1.f (k + 1) t.1.1 t.1.2.1 t.1.2.2.1 t.1.2.2.2.1 t.1.2.2.2.2.1 t.1.2.2.2.2.2.1 t.1.2.2.2.2.2.2.1 t.1.2.2.2.2.2.2.2.1 t.1.2.2.2.2.2.2.2.2.1 u.1.1) (stps := code_all_1.stps) (go := code_all_1.go) (Ok := fun k => orcL (code_all_1.tab k)) (Nk := fun k => orcN (code_all_1.tab k)) (Qk := fun k => orcQ (code_all_1.qtab k))   (List.forall_mem_cons.2 ⟨fun t u ρ K => rfl, List.forall_mem_nil _⟩) (by kernel_rfl) (by kernel_rfl) k (fun x => rfl) (List.forall_mem_nil _)   (List.forall_mem_nil _) (code_all_1.run k) (fun C k' hk' r => orcL_ok r C _ (List.forall_mem_cons.2 ⟨(ih k' hk').1, List.forall_mem_nil _⟩)) (fun C k' hk' r => orcN_ok r C _ (List.forall_mem_cons.2 ⟨(ih k' hk').1, List.forall_mem_nil _⟩)) (fun k' hk' => orcQ_ok _ (List.forall_mem_nil _)),
      fok (md := 0) (ren := []) (cf := slices_IndexFunc_api_Instr_api_Instr.cf) (fn := Try.f71) (c := bodyOf Try.f71) (by kernel_rfl) (by kernel_rfl) (by kernel_rfl) (rets := slices_IndexFunc_api_Instr_api_Instr.rets) (onR := slices_IndexFunc_api_Instr_api_Instr.onR) (ash := slices_IndexFunc_api_Instr_api_Instr.ash) (aosh := slices_IndexFunc_api_Instr_api_Instr.aosh) (F := fun t u => slices_IndexFunc_api_Instr_api_Instr.f (k + 1) t.1 u.1.1) (stps := slices_IndexFunc_api_Instr_api_Instr.stps) (go := slices_IndexFunc_api_Instr_api_Instr.go) (Ok := fun k => orcL (slices_IndexFunc_api_Instr_api_Instr.tab k)) (Nk := fun k => orcN (slices_IndexFunc_api_Instr_api_Instr.tab k)) (Qk := fun k => orcQ (slices_IndexFunc_api_Instr_api_Instr.qtab k))   (List.forall_mem_cons.2 ⟨fun t u ρ K => rfl, List.forall_mem_nil _⟩) (by kernel_rfl) (by kernel_rfl) k (fun x => rfl) (List.forall_mem_cons.2 ⟨by kernel_rfl, List.forall_mem_nil _⟩)   (List.forall_mem_cons.2 ⟨slices_IndexFunc_api_Instr_api_Instr.run_s2, List.forall_mem_nil _⟩) (slices_IndexFunc_api_Instr_api_Instr.run k) (fun C k' hk' r => orcL_ok r C _ (List.forall_mem_cons.2 ⟨(ih k' hk').2.1, List.forall_mem_nil _⟩)) (fun C k' hk' r => orcN_ok r C _ (List.forall_mem_cons.2 ⟨(ih k' hk').2.1, List.forall_mem_nil _⟩)) (fun k' hk' => orcQ_ok _ (List.forall_mem_nil _)),
      fok (md := 0) (ren := []) (cf := slices_ContainsFunc_api_Instr_api_Instr.cf) (fn := Try.f64) (c := bodyOf Try.f64) (by kernel_rfl) (by kernel_rfl) (by kernel_rfl) (rets := slices_ContainsFunc_api_Instr_api_Instr.rets) (onR := slices_ContainsFunc_api_Instr_api_Instr.onR) (ash := slices_ContainsFunc_api_Instr_api_Instr.ash) (aosh := slices_ContainsFunc_api_Instr_api_Instr.aosh) (F := fun t u => slices_ContainsFunc_api_Instr_api_Instr.f (k + 1) t.1 u.1.1) (stps := slices_ContainsFunc_api_Instr_api_Instr.stps) (go := slices_ContainsFunc_api_Instr_api_Instr.go) (Ok := fun k => orcL (slices_ContainsFunc_api_Instr_api_Instr.tab k)) (Nk := fun k => orcN (slices_ContainsFunc_api_Instr_api_Instr.tab k)) (Qk := fun k => orcQ (slices_ContainsFunc_api_Instr_api_Instr.qtab k))   (List.forall_mem_cons.2 ⟨fun t u ρ K => rfl, List.forall_mem_nil _⟩) (by kernel_rfl) (by kernel_rfl) k (fun x => rfl) (List.forall_mem_nil _)   (List.forall_mem_nil _) (slices_ContainsFunc_api_Instr_api_Instr.run k) (fun C k' hk' r => orcL_ok r C _ (List.forall_mem_cons.2 ⟨(ih k' hk').2.2.1, List.forall_mem_nil _⟩)) (fun C k' hk' r => orcN_ok r C _ (List.forall_mem_cons.2 ⟨(ih k' hk').2.2.1, List.forall_mem_nil _⟩)) (fun k' hk' => orcQ_ok _ (List.forall_mem_nil _)),
      fok (md := 0) (ren := []) (cf := code_all.cf) (fn := Try.f44) (c := bodyOf Try.f44) (by kernel_rfl) (by kernel_rfl) (by kernel_rfl) (rets := code_all.rets) (onR := code_all.onR) (ash := code_all.ash) (aosh := code_all.aosh) (F := fun t u => code_all.f (k + 1) t.1 t.2.1) (stps := code_all.stps) (go := code_all.go) (Ok := fun k => orcL (code_all.tab k)) (Nk := fun k => orcN (code_all.tab k)) (Qk := fun k => orcQ (code_all.qtab k))   (List.forall_mem_cons.2 ⟨fun t u ρ K => rfl, List.forall_mem_nil _⟩) (by kernel_rfl) (by kernel_rfl) k (fun x => rfl) (List.forall_mem_nil _)   (List.forall_mem_nil _) (code_all.run k) (fun C k' hk' r => orcL_ok r C _ (List.forall_mem_cons.2 ⟨(ih k' hk').2.2.2.1, List.forall_mem_nil _⟩)) (fun C k' hk' r => orcN_ok r C _ (List.forall_mem_cons.2 ⟨(ih k' hk').2.2.2.1, List.forall_mem_nil _⟩)) (fun k' hk' => orcQ_ok _ (List.forall_mem_nil _))⟩
theorem code_good.ok (k : Nat) : FOk Try.prog 66 (code_good.cps k) := (code_all.oks k k (Nat.le_refl k)).1
theorem code_all_1.ok (k : Nat) : FOk Try.prog 65 (code_all_1.cps k) := (code_all.oks k k (Nat.le_refl k)).2.1
theorem slices_IndexFunc_api_Instr_api_Instr.ok (k : Nat) : FOk Try.prog 71 (slices_IndexFunc_api_Instr_api_Instr.cps k) := (code_all.oks k k (Nat.le_refl k)).2.2.1
theorem slices_ContainsFunc_api_Instr_api_Instr.ok (k : Nat) : FOk Try.prog 64 (slices_ContainsFunc_api_Instr_api_Instr.cps k) := (code_all.oks k k (Nat.le_refl k)).2.2.2.1
theorem code_all.ok (k : Nat) : FOk Try.prog 44 (code_all.cps k) := (code_all.oks k k (Nat.le_refl k)).2.2.2.2
/-! ### gangway/code.Check -/
def code_Check.onR (ρ : Type) (r : code_Check.R) (K : AV → List Ob → Option ρ) : Option ρ := K (.int .i64 r) []
def code_Check.rets : List (Ret code_Check.R) := [⟨.int .i64, [], fun t u => t⟩]
def code_Check.stps : List (Stp code_Check.L) := []
def code_Check.ash : List Sh := [.ro 41]
def code_Check.aosh : List OSh := []
def code_Check.cps (k : Nat) : Cps := cpsOf code_Check.ash code_Check.aosh (fun t u => code_Check.f k t.1) code_Check.onR
def code_Check.tab (k : Nat) : List (Nat × Cps × List Bool) := [(44, code_all.cps k, [false, false])]
def code_Check.qtab (k : Nat) : List QEnt := []
def code_Check.cf : Cfg := ⟨fun f => memB f [], fun f => memB f [], fun i => memB i []⟩
theorem code_Check.run (k : Nat) (t : TyL code_Check.ash) (u : TyO code_Check.aosh) : runF [] code_Check.cf (orcL (code_Check.tab k)) (orcN (code_Check.tab k)) (orcQ (code_Check.qtab k)) Try.f28 (liveS code_Check.stps) 0 (stpJ (code_Check.go k) code_Check.stps) (retD code_Check.rets) [.code (bodyOf Try.f28)] (mkS 0 Try.f28.ntmps (upto 1) (encL code_Check.ash t) (encO code_Check.aosh u)) = code_Check.f k t.1 := by kernel_rfl
theorem code_Check.ok (k : Nat) : FOk Try.prog 28 (code_Check.cps k) := fok (md := 0) (ren := []) (cf := code_Check.cf) (fn := Try.f28) (c := bodyOf Try.f28) (by kernel_rfl) (by kernel_rfl) (by kernel_rfl) (rets := code_Check.rets) (onR := code_Check.onR) (ash := code_Check.ash) (aosh := code_Check.aosh) (F := fun t u => code_Check.f k t.1) (stps := code_Check.stps) (go := code_Check.go) (Ok := fun k => orcL (code_Check.tab k)) (Nk := fun k => orcN (code_Check.tab k)) (Qk := fun k => orcQ (code_Check.qtab k))
  (List.forall_mem_cons.2 ⟨fun t u ρ K => rfl, List.forall_mem_nil _⟩) (by kernel_rfl) (by kernel_rfl) k (fun x => by cases x <;> rfl) (List.forall_mem_nil _)
  (List.forall_mem_nil _) (code_Check.run k) (fun C k' hk' r => orcL_ok r C _ (List.forall_mem_cons.2 ⟨code_all.ok k', List.forall_mem_nil _⟩)) (fun C k' hk' r => orcN_ok r C _ (List.forall_mem_cons.2 ⟨code_all.ok k', List.forall_mem_nil _⟩)) (fun k' hk' => orcQ_ok _ (List.forall_mem_nil _))
/-! ### gangway/body.Check$1 -/
def body_Check_1.onR (ρ : Type) (r : body_Check_1.R) (K : AV → List Ob → Option ρ) : Option ρ := K (.bo r) []
def body_Check_1.rets : List (Ret body_Check_1.R) := [⟨.bo, [], fun t u => t⟩]
def body_Check_1.stps : List (Stp body_Check_1.L) := []
def body_Check_1.ash : List Sh := [.agg [.int .i64, .bo, .int .i64, .int .i64, .int .i64, .int .i64, .int .i64, .int .i64, .ro 3, .ro 41, .ro 41]]
def body_Check_1.aosh : List OSh := []
def body_Check_1.cps (k : Nat) : Cps := cpsOf body_Check_1.ash body_Check_1.aosh (fun t u => body_Check_1.f k t.1.1 t.1.2.1 t.1.2.2.1 t.1.2.2.2.1 t.1.2.2.2.2.1 t.1.2.2.2.2.2.1 t.1.2.2.2.2.2.2.1 t.1.2.2.2.2.2.2.2.1 t.1.2.2.2.2.2.2.2.2.1 t.1.2.2.2.2.2.2.2.2.2.1 t.1.2.2.2.2.2.2.2.2.2.2.1) body_Check_1.onR
def body_Check_1.tab (k : Nat) : List (Nat × Cps × List Bool) := [(31, body_typ.cps k, [false])]
def body_Check_1.qtab (k : Nat) : List QEnt := []
def body_Check_1.cf : Cfg := ⟨fun f => memB f [], fun f => memB f [], fun i => memB i []⟩
theorem body_Check_1.run (k : Nat) (t : TyL body_Check_1.ash) (u : TyO body_Check_1.aosh) : runF [] body_Check_1.cf (orcL (body_Check_1.tab k)) (orcN (body_Check_1.tab k)) (orcQ (body_Check_1.qtab k)) Try.f30 (liveS body_Check_1.stps) 0 (stpJ (body_Check_1.go k) body_Check_1.stps) (retD body_Check_1.rets) [.code (bodyOf Try.f30)] (mkS 0 Try.f30.ntmps (upto 1) (encL body_Check_1.ash t) (encO body_Check_1.aosh u)) = body_Check_1.f k t.1.1 t.1.2.1 t.1.2.2.1 t.1.2.2.2.1 t.1.2.2.2.2.1 t.1.2.2.2.2.2.1 t.1.2.2.2.2.2.2.1 t.1.2.2.2.2.2.2.2.1 t.1.2.2.2.2.2.2.2.2.1 t.1.2.2.2.2.2.2.2.2.2.1 t.1.2.2.2.2.2.2.2.2.2.2.1 := by kernel_rfl
theorem body_Check_1.ok (k : Nat) : FOk Try.prog 30 (body_Check_1.cps k) := fok (md := 0) (ren := []) (cf := body_Check_1.cf) (fn := Try.f30) (c := bodyOf Try.f30) (by kernel_rfl) (by kernel_rfl) (by kernel_rfl) (rets := body_Check_1.rets) (onR := body_Check_1.onR) (ash := body_Check_1.ash) (aosh := body_Check_1.aosh) (F := fun t u => body_Check_1.f k t.1.1 t.1.2.1 t.1.2.2.1 t.1.2.2.2.1 t.1.2.2.2.2.1 t.1.2.2.2.2.2.1 t.1.2.2.2.2.2.2.1 t.1.2.2.2.2.2.2.2.1 t.1.2.2.2.2.2.2.2.2.1 t.1.2.2.2.2.2.2.2.2.2.1 t.1.2.2.2.2.2.2.2.2.2.2.1) (stps := body_Check_1.stps) (go := body_Check_1.go) (Ok := fun k => orcL (body_Check_1.tab k)) (Nk := fun k => orcN (body_Check_1.tab k)) (Qk := fun k => orcQ (body_Check_1.qtab k))
  (List.forall_mem_cons.2 ⟨fun t u ρ K => rfl, List.forall_mem_nil _⟩) (by kernel_rfl) (by kernel_rfl) k (fun x => by cases x <;> rfl) (List.forall_mem_nil _)
  (List.forall_mem_nil _) (body_Check_1.run k) (fun C k' hk' r => orcL_ok r C _ (List.forall_mem_cons.2 ⟨body_typ.ok k', List.forall_mem_nil _⟩)) (fun C k' hk' r => orcN_ok r C _ (List.forall_mem_cons.2 ⟨body_typ.ok k', List.forall_mem_nil _⟩)) (fun k' hk' => orcQ_ok _ (List.forall_mem_nil _))
/-! ### slices.IndexFunc[[]gangway/api.Global,gangway/api.Global] -/
def slices_IndexFunc_api_Global_api_Global.onR (ρ : Type) (r : slices_IndexFunc_api_Global_api_Global.R) (K : AV → List Ob → Option ρ) : Option ρ := K (.int .i64 r) []
def slices_IndexFunc_api_Global_api_Global.rets : List (Ret slices_IndexFunc_api_Global_api_Global.R) := [⟨.int .i64, [], fun t u => t⟩]
def slices_IndexFunc_api_Global_api_Global.stps : List (Stp slices_IndexFunc_api_Global_api_Global.L) := [⟨2, [0, 1, 7, 8], [.ro 44, .fn 30 [], .int .i64, .int .i64], [], fun t u => .s2 t.1 t.2.2.1 t.2.2.2.1⟩]
def slices_IndexFunc_api_Global_api_Global.ash : List Sh := [.ro 44, .fn 30 []]
def slices_IndexFunc_api_Global_api_Global.aosh : List OSh := []
def slices_IndexFunc_api_Global_api_Global.cps (k : Nat) : Cps := cpsOf slices_IndexFunc_api_Global_api_Global.ash slices_IndexFunc_api_Global_api_Global.aosh (fun t u => slices_IndexFunc_api_Global_api_Global.f k t.1) slices_IndexFunc_api_Global_api_Global.onR
def slices_IndexFunc_api_Global_api_Global.tab (k : Nat) : List (Nat × Cps × List Bool) := [(30, body_Check_1.cps k, [false])]
def slices_IndexFunc_api_Global_api_Global.qtab (k : Nat) : List QEnt := []
def slices_IndexFunc_api_Global_api_Global.cf : Cfg := ⟨fun f => memB f [], fun f => memB f [], fun i => memB i []⟩
theorem slices_IndexFunc_api_Global_api_Global.run_s2 (k : Nat) (t : TyL [.ro 44, .fn 30 [], .int .i64, .int .i64]) (u : TyO []) : runF [] slices_IndexFunc_api_Global_api_Global.cf (orcL (slices_IndexFunc_api_Global_api_Global.tab k)) (orcN (slices_IndexFunc_api_Global_api_Global.tab k)) (orcQ (slices_IndexFunc_api_Global_api_Global.qtab k)) Try.f45 (liveS slices_IndexFunc_api_Global_api_Global.stps) 0 (stpJ (slices_IndexFunc_api_Global_api_Global.go k) slices_IndexFunc_api_Global_api_Global.stps) (retD slices_IndexFunc_api_Global_api_Global.rets) (stackAt (bodyOf Try.f45) 2) (mkS 0 Try.f45.ntmps [0, 1, 7, 8] (encL _ t) (encO _ u)) = slices_IndexFunc_api_Global_api_Global.go (k + 1) (.s2 t.1 t.2.2.1 t.2.2.2.1) := by kernel_rfl
theorem slices_IndexFunc_api_Global_api_Global.run (k : Nat) (t : TyL slices_IndexFunc_api_Global_api_Global.ash) (u : TyO slices_IndexFunc_api_Global_api_Global.aosh) : runF [] slices_IndexFunc_api_Global_api_Global.cf (orcL (slices_IndexFunc_api_Global_api_Global.tab k)) (orcN (slices_IndexFunc_api_Global_api_Global.tab k)) (orcQ (slices_IndexFunc_api_Global_api_Global.qtab k)) Try.f45 (liveS slices_IndexFunc_api_Global_api_Global.stps) 0 (stpJ (slices_IndexFunc_api_Global_api_Global.go k) slices_IndexFunc_api_Global_api_Global.stps) (retD slices_IndexFunc_api_Global_api_Global.rets) [.code (bodyOf Try.f45)] (mkS 0 Try.f45.ntmps (upto 2) (encL slices_IndexFunc_api_Global_api_Global.ash t) (encO slices_IndexFunc_api_Global_api_Global.aosh u)) = slices_IndexFunc_api_Global_api_Global.f k t.1 := by kernel_rfl
theorem slices_IndexFunc_api_Global_api_Global.ok (k : Nat) : FOk Try.prog 45 (slices_IndexFunc_api_Global_api_Global.cps k) := fok (md := 0) (ren := []) (cf := slices_IndexFunc_api_Global_api_Global.cf) (fn := Try.f45) (c := bodyOf Try.f45) (by kernel_rfl) (by kernel_rfl) (by kernel_rfl) (rets := slices_IndexFunc_api_Global_api_Global.rets) (onR := slices_IndexFunc_api_Global_api_Global.onR) (ash := slices_IndexFunc_api_Global_api_Global.ash) (aosh := slices_IndexFunc_api_Global_api_Global.aosh) (F := fun t u => slices_IndexFunc_api_Global_api_Global.f k t.1) (stps := slices_IndexFunc_api_Global_api_Global.stps) (go := slices_IndexFunc_api_Global_api_Global.go) (Ok := fun k => orcL (slices_IndexFunc_api_Global_api_Global.tab k)) (Nk := fun k => orcN (slices_IndexFunc_api_Global_api_Global.tab k)) (Qk := fun k => orcQ (slices_IndexFunc_api_Global_api_Global.qtab k))
  (List.forall_mem_cons.2 ⟨fun t u ρ K => rfl, List.forall_mem_nil _⟩) (by kernel_rfl) (by kernel_rfl) k (fun x => by cases x <;> rfl) (List.forall_mem_cons.2 ⟨by kernel_rfl, List.forall_mem_nil _⟩)
  (List.forall_mem_cons.2 ⟨slices_IndexFunc_api_Global_api_Global.run_s2, List.forall_mem_nil _⟩) (slices_IndexFunc_api_Global_api_Global.run k) (fun C k' hk' r => orcL_ok r C _ (List.forall_mem_cons.2 ⟨body_Check_1.ok k', List.forall_mem_nil _⟩)) (fun C k' hk' r => orcN_ok r C _ (List.forall_mem_cons.2 ⟨body_Check_1.ok k', List.forall_mem_nil _⟩)) (fun k' hk' => orcQ_ok _ (List.forall_mem_nil _))
/-! ### slices.ContainsFunc[[]gangway/api.Global,gangway/api.Global] -/
def slices_ContainsFunc_api_Global_api_Global.onR (ρ : Type) (r : slices_ContainsFunc_api_Global_api_Global.R) (K : AV → List Ob → Option ρ) : Option ρ := K (.bo r) []
def slices_ContainsFunc_api_Global_api_Global.rets : List (Ret slices_ContainsFunc_api_Global_api_Global.R) := [⟨.bo, [], fun t u => t⟩]
def slices_ContainsFunc_api_Global_api_Global.stps : List (Stp slices_ContainsFunc_api_Global_api_Global.L) := []
def slices_ContainsFunc_api_Global_api_Global.ash : List Sh := [.ro 44, .fn 30 []]
def slices_ContainsFunc_api_Global_api_Global.aosh : List OSh := []
def slices_ContainsFunc_api_Global_api_Global.cps (k : Nat) : Cps := cpsOf slices_ContainsFunc_api_Global_api_Global.ash slices_ContainsFunc_api_Global_api_Global.aosh (fun t u => slices_ContainsFunc_api_Global_api_Global.f k t.1) slices_ContainsFunc_api_Global_api_Global.onR
def slices_ContainsFunc_api_Global_api_Global.tab (k : Nat) : List (Nat × Cps × List Bool) := [(45, slices_IndexFunc_api_Global_api_Global.cps k, [false, false])]
def slices_ContainsFunc_api_Global_api_Global.qtab (k : Nat) : List QEnt := []
def slices_ContainsFunc_api_Global_api_Global.cf : Cfg := ⟨fun f => memB f [], fun f => memB f [], fun i => memB i []⟩
theorem slices_ContainsFunc_api_Global_api_Global.run (k : Nat) (t : TyL slices_ContainsFunc_api_Global_api_Global.ash) (u : TyO slices_ContainsFunc_api_Global_api_Global.aosh) : runF [] slices_ContainsFunc_api_Global_api_Global.cf (orcL (slices_ContainsFunc_api_Global_api_Global.tab k)) (orcN (slices_ContainsFunc_api_Global_api_Global.tab k)) (orcQ (slices_ContainsFunc_api_Global_api_Global.qtab k)) Try.f29 (liveS slices_ContainsFunc_api_Global_api_Global.stps) 0 (stpJ (slices_ContainsFunc_api_Global_api_Global.go k) slices_ContainsFunc_api_Global_api_Global.stps) (retD slices_ContainsFunc_api_Global_api_Global.rets) [.code (bodyOf Try.f29)] (mkS 0 Try.f29.ntmps (upto 2) (encL slices_ContainsFunc_api_Global_api_Global.ash t) (encO slices_ContainsFunc_api_Global_api_Global.aosh u)) = slices_ContainsFunc_api_Global_api_Global.f k t.1 := by kernel_rfl
theorem slices_ContainsFunc_api_Global_api_Global.ok (k : Nat) : FOk Try.prog 29 (slices_ContainsFunc_api_Global_api_Global.cps k) := fok (md := 0) (ren := []) (cf := slices_ContainsFunc_api_Global_api_Global.cf) (fn := Try.f29) (c := bodyOf Try.f29) (by kernel_rfl) (by kernel_rfl) (by kernel_rfl) (rets := slices_ContainsFunc_api_Global_api_Global.rets) (onR := slices_ContainsFunc_api_Global_api_Global.onR) (ash := slices_ContainsFunc_api_Global_api_Global.ash) (aosh := slices_ContainsFunc_api_Global_api_Global.aosh) (F := fun t u => slices_ContainsFunc_api_Global_api_Global.f k t.1) (stps := slices_ContainsFunc_api_Global_api_Global.stps) (go := slices_ContainsFunc_api_Global_api_Global.go) (Ok := fun k => orcL (slices_ContainsFunc_api_Global_api_Global.tab k)) (Nk := fun k => orcN (slices_ContainsFunc_api_Global_api_Global.tab k)) (Qk := fun k => orcQ (slices_ContainsFunc_api_Global_api_Global.qtab k))
  (List.forall_mem_cons.2 ⟨fun t u ρ K => rfl, List.forall_mem_nil _⟩) (by kernel_rfl) (by kernel_rfl) k (fun x => by cases x <;> rfl) (List.forall_mem_nil _)
  (List.forall_mem_nil _) (slices_ContainsFunc_api_Global_api_Global.run k) (fun C k' hk' r => orcL_ok r C _ (List.forall_mem_cons.2 ⟨slices_IndexFunc_api_Global_api_Global.ok k', List.forall_mem_nil _⟩)) (fun C k' hk' r => orcN_ok r C _ (List.forall_mem_cons.2 ⟨slices_IndexFunc_api_Global_api_Global.ok k', List.forall_mem_nil _⟩)) (fun k' hk' => orcQ_ok _ (List.forall_mem_nil _))
/-! ### slices.Grow[[]int,int] -/
def slices_Grow_int_int.onR (ρ : Type) (r : slices_Grow_int_int.R) (K : AV → List Ob → Option ρ) : Option ρ := match r with
  | .r0 a0 => K (.own 0) [.row 3 a0]
  | .r1 => K (.nils) []
def slices_Grow_int_int.rets : List (Ret slices_Grow_int_int.R) := [⟨.own 0, [.row 3], fun t u => .r0 u.1⟩, ⟨.nils, [], fun t u => .r1⟩]
def slices_Grow_int_int.stps : List (Stp slices_Grow_int_int.L) := []
def slices_Grow_int_int.ash : List Sh := [.nils, .int .i64]
def slices_Grow_int_int.aosh : List OSh := []
def slices_Grow_int_int.cps (k : Nat) : Cps := cpsOf slices_Grow_int_int.ash slices_Grow_int_int.aosh (fun t u => slices_Grow_int_int.f k t.2.1) slices_Grow_int_int.onR
def slices_Grow_int_int.tab (k : Nat) : List (Nat × Cps × List Bool) := []
def slices_Grow_int_int.qtab (k : Nat) : List QEnt := []
def slices_Grow_int_int.cf : Cfg := ⟨fun f => memB f [], fun f => memB f [], fun i => memB i []⟩
theorem slices_Grow_int_int.run (k : Nat) (t : TyL slices_Grow_int_int.ash) (u : TyO slices_Grow_int_int.aosh) : runF [] slices_Grow_int_int.cf (orcL (slices_Grow_int_int.tab k)) (orcN (slices_Grow_int_int.tab k)) (orcQ (slices_Grow_int_int.qtab k)) Try.f46 (liveS slices_Grow_int_int.stps) 0 (stpJ (slices_Grow_int_int.go k) slices_Grow_int_int.stps) (retD slices_Grow_int_int.rets) [.code (bodyOf Try.f46)] (mkS 2 Try.f46.ntmps (upto 2) (encL slices_Grow_int_int.ash t) (encO slices_Grow_int_int.aosh u)) = slices_Grow_int_int.f k t.2.1 := by kernel_rfl
theorem slices_Grow_int_int.ok (k : Nat) : FOk Try.prog 46 (slices_Grow_int_int.cps k) := fok (md := 2) (ren := []) (cf := slices_Grow_int_int.cf) (fn := Try.f46) (c := bodyOf Try.f46) (by kernel_rfl) (by kernel_rfl) (by kernel_rfl) (rets := slices_Grow_int_int.rets) (onR := slices_Grow_int_int.onR) (ash := slices_Grow_int_int.ash) (aosh := slices_Grow_int_int.aosh) (F := fun t u => slices_Grow_int_int.f k t.2.1) (stps := slices_Grow_int_int.stps) (go := slices_Grow_int_int.go) (Ok := fun k => orcL (slices_Grow_int_int.tab k)) (Nk := fun k => orcN (slices_Grow_int_int.tab k)) (Qk := fun k => orcQ (slices_Grow_int_int.qtab k))
  (List.forall_mem_cons.2 ⟨fun t u ρ K => rfl, (List.forall_mem_cons.2 ⟨fun t u ρ K => rfl, List.forall_mem_nil _⟩)⟩) (by kernel_rfl) (by kernel_rfl) k (fun x => by cases x <;> rfl) (List.forall_mem_nil _)
  (List.forall_mem_nil _) (slices_Grow_int_int.run k) (fun C k' hk' r => orcL_ok r C _ (List.forall_mem_nil _)) (fun C k' hk' r => orcN_ok r C _ (List.forall_mem_nil _)) (fun k' hk' => orcQ_ok _ (List.forall_mem_nil _))
/-! ### slices.Concat[[]int,int] -/
def slices_Concat_int_int.onR (ρ : Type) (r : slices_Concat_int_int.R) (K : AV → List Ob → Option ρ) : Option ρ := K (.own 0) [.row 3 r]
def slices_Concat_int_int.rets : List (Ret slices_Concat_int_int.R) := [⟨.own 0, [.row 3], fun t u => u.1⟩]
def slices_Concat_int_int.stps : List (Stp slices_Concat_int_int.L) := [⟨3, [0, 3, 9, 10, 11], [.ro 25, .int .i64, .ro 25, .int .i64, .int .i64], [], fun t u => .s3 t.1 t.2.1 t.2.2.1 t.2.2.2.1 t.2.2.2.2.1⟩,
  ⟨11, [6, 25, 26, 27], [.own 0, .ro 25, .int .i64, .int .i64], [.row 3], fun t u => .s11 t.2.1 t.2.2.1 t.2.2.2.1 u.1⟩]
def slices_Concat_int_int.ash : List Sh := [.ro 25]
def slices_Concat_int_int.aosh : List OSh := []
def slices_Concat_int_int.cps (k : Nat) : Cps := cpsOf slices_Concat_int_int.ash slices_Concat_int_int.aosh (fun t u => slices_Concat_int_int.f k t.1) slices_Concat_int_int.onR
def slices_Concat_int_int.tab (k : Nat) : List (Nat × Cps × List Bool) := [(46, slices_Grow_int_int.cps k, [false, false])]
def slices_Concat_int_int.qtab (k : Nat) : List QEnt := []
def slices_Concat_int_int.cf : Cfg := ⟨fun f => memB f [], fun f => memB f [], fun i => memB i []⟩
theorem slices_Concat_int_int.run_s3 (k : Nat) (t : TyL [.ro 25, .int .i64, .ro 25, .int .i64, .int .i64]) (u : TyO []) : runF [] slices_Concat_int_int.cf (orcL (slices_Concat_int_int.tab k)) (orcN (slices_Concat_int_int.tab k)) (orcQ (slices_Concat_int_int.qtab k)) Try.f32 (liveS slices_Concat_int_int.stps) 0 (stpJ (slices_Concat_int_int.go k) slices_Concat_int_int.stps) (retD slices_Concat_int_int.rets) (stackAt (bodyOf Try.f32) 3) (mkS 4 Try.f32.ntmps [0, 3, 9, 10, 11] (encL _ t) (encO _ u)) = slices_Concat_int_int.go (k + 1) (.s3 t.1 t.2.1 t.2.2.1 t.2.2.2.1 t.2.2.2.2.1) := by kernel_rfl
theorem slices_Concat_int_int.run_s11 (k : Nat) (t : TyL [.own 0, .ro 25, .int .i64, .int .i64]) (u : TyO [.row 3]) : runF [] slices_Concat_int_int.cf (orcL (slices_Concat_int_int.tab k)) (orcN (slices_Concat_int_int.tab k)) (orcQ (slices_Concat_int_int.qtab k)) Try.f32 (liveS slices_Concat_int_int.stps) 0 (stpJ (slices_Concat_int_int.go k) slices_Concat_int_int.stps) (retD slices_Concat_int_int.rets) (stackAt (bodyOf Try.f32) 11) (mkS 4 Try.f32.ntmps [6, 25, 26, 27] (encL _ t) (encO _ u)) = slices_Concat_int_int.go (k + 1) (.s11 t.2.1 t.2.2.1 t.2.2.2.1 u.1) := by kernel_rfl
theorem slices_Concat_int_int.run (k : Nat) (t : TyL slices_Concat_int_int.ash) (u : TyO slices_Concat_int_int.aosh) : runF [] slices_Concat_int_int.cf (orcL (slices_Concat_int_int.tab k)) (orcN (slices_Concat_int_int.tab k)) (orcQ (slices_Concat_int_int.qtab k)) Try.f32 (liveS slices_Concat_int_int.stps) 0 (stpJ (slices_Concat_int_int.go k) slices_Concat_int_int.stps) (retD slices_Concat_int_int.rets) [.code (bodyOf Try.f32)] (mkS 4 Try.f32.ntmps (upto 1) (encL slices_Concat_int_int.ash t) (encO slices_Concat_int_int.aosh u)) = slices_Concat_int_int.f k t.1 := by kernel_rfl
theorem slices_Concat_int_int.ok (k : Nat) : FOk Try.prog 32 (slices_Concat_int_int.cps k) := fok (md := 4) (ren := []) (cf := slices_Concat_int_int.cf) (fn := Try.f32) (c := bodyOf Try.f32) (by kernel_rfl) (by kernel_rfl) (by kernel_rfl) (rets := slices_Concat_int_int.rets) (onR := slices_Concat_int_int.onR) (ash := slices_Concat_int_int.ash) (aosh := slices_Concat_int_int.aosh) (F := fun t u => slices_Concat_int_int.f k t.1) (stps := slices_Concat_int_int.stps) (go := slices_Concat_int_int.go) (Ok := fun k => orcL (slices_Concat_int_int.tab k)) (Nk := fun k => orcN (slices_Concat_int_int.tab k)) (Qk := fun k => orcQ (slices_Concat_int_int.qtab k))
  (List.forall_mem_cons.2 ⟨fun t u ρ K => rfl, List.forall_mem_nil _⟩) (by kernel_rfl) (by kernel_rfl) k (fun x => by cases x <;> rfl) (List.forall_mem_cons.2 ⟨by kernel_rfl, (List.forall_mem_cons.2 ⟨by kernel_rfl, List.forall_mem_nil _⟩)⟩)
  (List.forall_mem_cons.2 ⟨slices_Concat_int_int.run_s3, (List.forall_mem_cons.2 ⟨slices_Concat_int_int.run_s11, List.forall_mem_nil _⟩)⟩) (slices_Concat_int_int.run k) (fun C k' hk' r => orcL_ok r C _ (List.forall_mem_cons.2 ⟨slices_Grow_int_int.ok k', List.forall_mem_nil _⟩)) (fun C k' hk' r => orcN_ok r C _ (List.forall_mem_cons.2 ⟨slices_Grow_int_int.ok k', List.forall_mem_nil _⟩)) (fun k' hk' => orcQ_ok _ (List.forall_mem_nil _))
/-! ### gangway/body.kind -/
def body_kind.onR (ρ : Type) (r : body_kind.R) (K : AV → List Ob → Option ρ) : Option ρ := match r with
  | .r0 => K (.fn 76 []) []
  | .r1 => K (.fn 77 []) []
  | .r2 => K (.fn 78 []) []
  | .r3 => K (.fn 79 []) []
  | .r4 => K (.fn 80 []) []
  | .r5 => K (.fn 81 []) []
  | .r6 => K (.fn 82 []) []
  | .r7 => K (.fn 83 []) []
def body_kind.rets : List (Ret body_kind.R) := [⟨.fn 76 [], [], fun t u => .r0⟩, ⟨.fn 77 [], [], fun t u => .r1⟩, ⟨.fn 78 [], [], fun t u => .r2⟩, ⟨.fn 79 [], [], fun t u => .r3⟩, ⟨.fn 80 [], [], fun t u => .r4⟩, ⟨.fn 81 [], [], fun t u => .r5⟩, ⟨.fn 82 [], [], fun t u => .r6⟩, ⟨.fn 83 [], [], fun t u => .r7⟩]
def body_kind.stps : List (Stp body_kind.L) := []
def body_kind.ash : List Sh := [.int .i64]
def body_kind.aosh : List OSh := []
def body_kind.cps (k : Nat) : Cps := cpsOf body_kind.ash body_kind.aosh (fun t u => body_kind.f k t.1) body_kind.onR
def body_kind.tab (k : Nat) : List (Nat × Cps × List Bool) := []
def body_kind.qtab (k : Nat) : List QEnt := []
def body_kind.cf : Cfg := ⟨fun f => memB f [], fun f => memB f [], fun i => memB i []⟩
theorem body_kind.run (k : Nat) (t : TyL body_kind.ash) (u : TyO body_kind.aosh) : runF [] body_kind.cf (orcL (body_kind.tab k)) (orcN (body_kind.tab k)) (orcQ (body_kind.qtab k)) Try.f67 (liveS body_kind.stps) 0 (stpJ (body_kind.go k) body_kind.stps) (retD body_kind.rets) [.code (bodyOf Try.f67)] (mkS 0 Try.f67.ntmps (upto 1) (encL body_kind.ash t) (encO body_kind.aosh u)) = body_kind.f k t.1 := by kernel_rfl
theorem body_kind.ok (k : Nat) : FOk Try.prog 67 (body_kind.cps k) := fok (md := 0) (ren := []) (cf := body_kind.cf) (fn := Try.f67) (c := bodyOf Try.f67) (by kernel_rfl) (by kernel_rfl) (by kernel_rfl) (rets := body_kind.rets) (onR := body_kind.onR) (ash := body_kind.ash) (aosh := body_kind.aosh) (F := fun t u => body_kind.f k t.1) (stps := body_kind.stps) (go := body_kind.go) (Ok := fun k => orcL (body_kind.tab k)) (Nk := fun k => orcN (body_kind.tab k)) (Qk := fun k => orcQ (body_kind.qtab k))
  (List.forall_mem_cons.2 ⟨fun t u ρ K => rfl, (List.forall_mem_cons.2 ⟨fun t u ρ K => rfl, (List.forall_mem_cons.2 ⟨fun t u ρ K => rfl, (List.forall_mem_cons.2 ⟨fun t u ρ K => rfl, (List.forall_mem_cons.2 ⟨fun t u ρ K => rfl, (List.forall_mem_cons.2 ⟨fun t u ρ K => rfl, (List.forall_mem_cons.2 ⟨fun t u ρ K => rfl, (List.forall_mem_cons.2 ⟨fun t u ρ K => rfl, List.forall_mem_nil _⟩)⟩)⟩)⟩)⟩)⟩)⟩)⟩) (by kernel_rfl) (by kernel_rfl) k (fun x => by cases x <;> rfl) (List.forall_mem_nil _)
  (List.forall_mem_nil _) (body_kind.run k) (fun C k' hk' r => orcL_ok r C _ (List.forall_mem_nil _)) (fun C k' hk' r => orcN_ok r C _ (List.forall_mem_nil _)) (fun k' hk' => orcQ_ok _ (List.forall_mem_nil _))
/-! ### gangway/body.kind$1 -/
def body_kind_1.onR (ρ : Type) (r : body_kind_1.R) (K : AV → List Ob → Option ρ) : Option ρ := K (.tup []) [.box 70 [.ro 27 r.a0, .ro 27 r.a1, .ro 44 r.a2, .bo r.a3, .bo r.a4, .own 1, .own 2, .own 3, .bo r.a5], .row 3 r.a6, .row 3 r.a7, .row 86 r.a8]
def body_kind_1.rets : List (Ret body_kind_1.R) := [⟨.tup [], [.box 70 [.ro 27, .ro 27, .ro 44, .bo, .bo, .own 1, .own 2, .own 3, .bo], .row 3, .row 3, .row 86], fun t u => ⟨u.1.1, u.1.2.1, u.1.2.2.1, u.1.2.2.2.1, u.1.2.2.2.2.1, u.1.2.2.2.2.2.2.2.2.1, u.2.1, u.2.2.1, u.2.2.2.1⟩⟩]
def body_kind_1.stps : List (Stp body_kind_1.L) := []
def body_kind_1.ash : List Sh := [.ptr 0 0, .agg [.int .i64, .int .i64, .int .i64, .int .i64, .int .i64, .int .i64, .ro 3, .ro 41, .ro 41]]
def body_kind_1.aosh : List OSh := [.box 70 [.ro 27, .ro 27, .ro 44, .bo, .bo, .own 1, .own 2, .own 3, .bo], .row 3, .row 3, .row 86]
def body_kind_1.cps (k : Nat) : Cps := cpsOf body_kind_1.ash body_kind_1.aosh (fun t u => body_kind_1.f k t.2.1.1 t.2.1.2.1 t.2.1.2.2.1 t.2.1.2.2.2.1 t.2.1.2.2.2.2.1 t.2.1.2.2.2.2.2.1 t.2.1.2.2.2.2.2.2.1 t.2.1.2.2.2.2.2.2.2.1 t.2.1.2.2.2.2.2.2.2.2.1 u.1.1 u.1.2.1 u.1.2.2.1 u.1.2.2.2.1 u.1.2.2.2.2.1 u.1.2.2.2.2.2.2.2.2.1 u.2.1 u.2.2.1 u.2.2.2.1) body_kind_1.onR
def body_kind_1.tab (k : Nat) : List (Nat × Cps × List Bool) := []
def body_kind_1.qtab (k : Nat) : List QEnt := []
def body_kind_1.cf : Cfg := ⟨fun f => memB f [], fun f => memB f [], fun i => memB i []⟩
theorem body_kind_1.run (k : Nat) (t : TyL body_kind_1.ash) (u : TyO body_kind_1.aosh) : runF [] body_kind_1.cf (orcL (body_kind_1.tab k)) (orcN (body_kind_1.tab k)) (orcQ (body_kind_1.qtab k)) Try.f76 (liveS body_kind_1.stps) 4 (stpJ (body_kind_1.go k) body_kind_1.stps) (retD body_kind_1.rets) [.code (bodyOf Try.f76)] (mkS 0 Try.f76.ntmps (upto 2) (encL body_kind_1.ash t) (encO body_kind_1.aosh u)) = body_kind_1.f k t.2.1.1 t.2.1.2.1 t.2.1.2.2.1 t.2.1.2.2.2.1 t.2.1.2.2.2.2.1 t.2.1.2.2.2.2.2.1 t.2.1.2.2.2.2.2.2.1 t.2.1.2.2.2.2.2.2.2.1 t.2.1.2.2.2.2.2.2.2.2.1 u.1.1 u.1.2.1 u.1.2.2.1 u.1.2.2.2.1 u.1.2.2.2.2.1 u.1.2.2.2.2.2.2.2.2.1 u.2.1 u.2.2.1 u.2.2.2.1 := by kernel_rfl
theorem body_kind_1.ok (k : Nat) : FOk Try.prog 76 (body_kind_1.cps k) := fok (md := 0) (ren := []) (cf := body_kind_1.cf) (fn := Try.f76) (c := bodyOf Try.f76) (by kernel_rfl) (by kernel_rfl) (by kernel_rfl) (rets := body_kind_1.rets) (onR := body_kind_1.onR) (ash := body_kind_1.ash) (aosh := body_kind_1.aosh) (F := fun t u => body_kind_1.f k t.2.1.1 t.2.1.2.1 t.2.1.2.2.1 t.2.1.2.2.2.1 t.2.1.2.2.2.2.1 t.2.1.2.2.2.2.2.1 t.2.1.2.2.2.2.2.2.1 t.2.1.2.2.2.2.2.2.2.1 t.2.1.2.2.2.2.2.2.2.2.1 u.1.1 u.1.2.1 u.1.2.2.1 u.1.2.2.2.1 u.1.2.2.2.2.1 u.1.2.2.2.2.2.2.2.2.1 u.2.1 u.2.2.1 u.2.2.2.1) (stps := body_kind_1.stps) (go := body_kind_1.go) (Ok := fun k => orcL (body_kind_1.tab k)) (Nk := fun k => orcN (body_kind_1.tab k)) (Qk := fun k => orcQ (body_kind_1.qtab k))
  (List.forall_mem_cons.2 ⟨fun t u ρ K => rfl, List.forall_mem_nil _⟩) (by kernel_rfl) (by kernel_rfl) k (fun x => by cases x <;> rfl) (List.forall_mem_nil _)
  (List.forall_mem_nil _) (body_kind_1.run k) (fun C k' hk' r => orcL_ok r C _ (List.forall_mem_nil _)) (fun C k' hk' r => orcN_ok r C _ (List.forall_mem_nil _)) (fun k' hk' => orcQ_ok _ (List.forall_mem_nil _))
/-! ### gangway/body.results -/
def body_results.onR (ρ : Type) (r : body_results.R) (K : AV → List Ob → Option ρ) : Option ρ := K (.own 0) [.row 3 r]
def body_results.rets : List (Ret body_results.R) := [⟨.own 0, [.row 3], fun t u => u.1⟩]
def body_results.stps : List (Stp body_results.L) := []
def body_results.ash : List Sh := [.int .i64]
def body_results.aosh : List OSh := []
def body_results.cps (k : Nat) : Cps := cpsOf body_results.ash body_results.aosh (fun t u => body_results.f k t.1) body_results.onR
def body_results.tab (k : Nat) : List (Nat × Cps × List Bool) := []
def body_results.qtab (k : Nat) : List QEnt := []
def body_results.cf : Cfg := ⟨fun f => memB f [], fun f => memB f [], fun i => memB i []⟩
theorem body_results.run (k : Nat) (t : TyL body_results.ash) (u : TyO body_results.aosh) : runF [] body_results.cf (orcL (body_results.tab k)) (orcN (body_results.tab k)) (orcQ (body_results.qtab k)) Try.f85 (liveS body_results.stps) 0 (stpJ (body_results.go k) body_results.stps) (retD body_results.rets) [.code (bodyOf Try.f85)] (mkS 0 Try.f85.ntmps (upto 1) (encL body_results.ash t) (encO body_results.aosh u)) = body_results.f k t.1 := by kernel_rfl
theorem body_results.ok (k : Nat) : FOk Try.prog 85 (body_results.cps k) := fok (md := 0) (ren := []) (cf := body_results.cf) (fn := Try.f85) (c := bodyOf Try.f85) (by kernel_rfl) (by kernel_rfl) (by kernel_rfl) (rets := body_results.rets) (onR := body_results.onR) (ash := body_results.ash) (aosh := body_results.aosh) (F := fun t u => body_results.f k t.1) (stps := body_results.stps) (go := body_results.go) (Ok := fun k => orcL (body_results.tab k)) (Nk := fun k => orcN (body_results.tab k)) (Qk := fun k => orcQ (body_results.qtab k))
  (List.forall_mem_cons.2 ⟨fun t u ρ K => rfl, List.forall_mem_nil _⟩) (by kernel_rfl) (by kernel_rfl) k (fun x => by cases x <;> rfl) (List.forall_mem_nil _)
  (List.forall_mem_nil _) (body_results.run k) (fun C k' hk' r => orcL_ok r C _ (List.forall_mem_nil _)) (fun C k' hk' r => orcN_ok r C _ (List.forall_mem_nil _)) (fun k' hk' => orcQ_ok _ (List.forall_mem_nil _))
/-! ### (*gangway/body.checker).put -/
def body_checker_put.onR (ρ : Type) (r : body_checker_put.R) (K : AV → List Ob → Option ρ) : Option ρ := K (.tup []) [.box 70 [.ro 27 r.a0, .ro 27 r.a1, .ro 44 r.a2, .bo r.a3, .bo r.a4, .own 1, .own 4, .own 3, .bo r.a5], .row 3 r.a6, .dead, .row 86 r.a7, .row 3 r.a8]
def body_checker_put.rets : List (Ret body_checker_put.R) := [⟨.tup [], [.box 70 [.ro 27, .ro 27, .ro 44, .bo, .bo, .own 1, .own 4, .own 3, .bo], .row 3, .dead, .row 86, .row 3], fun t u => ⟨u.1.1, u.1.2.1, u.1.2.2.1, u.1.2.2.2.1, u.1.2.2.2.2.1, u.1.2.2.2.2.2.2.2.2.1, u.2.1, u.2.2.2.1, u.2.2.2.2.1⟩⟩]
def body_checker_put.stps : List (Stp body_checker_put.L) := []
def body_checker_put.ash : List Sh := [.ptr 0 0, .ro 3]
def body_checker_put.aosh : List OSh := [.box 70 [.ro 27, .ro 27, .ro 44, .bo, .bo, .own 1, .own 2, .own 3, .bo], .row 3, .row 3, .row 86]
def body_checker_put.cps (k : Nat) : Cps := cpsOf body_checker_put.ash body_checker_put.aosh (fun t u => body_checker_put.f k t.2.1 u.1.1 u.1.2.1 u.1.2.2.1 u.1.2.2.2.1 u.1.2.2.2.2.1 u.1.2.2.2.2.2.2.2.2.1 u.2.1 u.2.2.1 u.2.2.2.1) body_checker_put.onR
def body_checker_put.tab (k : Nat) : List (Nat × Cps × List Bool) := []
def body_checker_put.qtab (k : Nat) : List QEnt := []
def body_checker_put.cf : Cfg := ⟨fun f => memB f [], fun f => memB f [], fun i => memB i []⟩
theorem body_checker_put.run (k : Nat) (t : TyL body_checker_put.ash) (u : TyO body_checker_put.aosh) : runF [] body_checker_put.cf (orcL (body_checker_put.tab k)) (orcN (body_checker_put.tab k)) (orcQ (body_checker_put.qtab k)) Try.f86 (liveS body_checker_put.stps) 4 (stpJ (body_checker_put.go k) body_checker_put.stps) (retD body_checker_put.rets) [.code (bodyOf Try.f86)] (mkS 0 Try.f86.ntmps (upto 2) (encL body_checker_put.ash t) (encO body_checker_put.aosh u)) = body_checker_put.f k t.2.1 u.1.1 u.1.2.1 u.1.2.2.1 u.1.2.2.2.1 u.1.2.2.2.2.1 u.1.2.2.2.2.2.2.2.2.1 u.2.1 u.2.2.1 u.2.2.2.1 := by kernel_rfl
theorem body_checker_put.ok (k : Nat) : FOk Try.prog 86 (body_checker_put.cps k) := fok (md := 0) (ren := []) (cf := body_checker_put.cf) (fn := Try.f86) (c := bodyOf Try.f86) (by kernel_rfl) (by kernel_rfl) (by kernel_rfl) (rets := body_checker_put.rets) (onR := body_checker_put.onR) (ash := body_checker_put.ash) (aosh := body_checker_put.aosh) (F := fun t u => body_checker_put.f k t.2.1 u.1.1 u.1.2.1 u.1.2.2.1 u.1.2.2.2.1 u.1.2.2.2.2.1 u.1.2.2.2.2.2.2.2.2.1 u.2.1 u.2.2.1 u.2.2.2.1) (stps := body_checker_put.stps) (go := body_checker_put.go) (Ok := fun k => orcL (body_checker_put.tab k)) (Nk := fun k => orcN (body_checker_put.tab k)) (Qk := fun k => orcQ (body_checker_put.qtab k))
  (List.forall_mem_cons.2 ⟨fun t u ρ K => rfl, List.forall_mem_nil _⟩) (by kernel_rfl) (by kernel_rfl) k (fun x => by cases x <;> rfl) (List.forall_mem_nil _)
  (List.forall_mem_nil _) (body_checker_put.run k) (fun C k' hk' r => orcL_ok r C _ (List.forall_mem_nil _)) (fun C k' hk' r => orcN_ok r C _ (List.forall_mem_nil _)) (fun k' hk' => orcQ_ok _ (List.forall_mem_nil _))
/-! ### (*gangway/body.checker).top -/
def body_checker_top.onR (ρ : Type) (r : body_checker_top.R) (K : AV → List Ob → Option ρ) : Option ρ := K (.elp 3 86 r.a0 0) [.box 70 [.ro 27 r.a1, .ro 27 r.a2, .ro 44 r.a3, .bo r.a4, .bo r.a5, .own 1, .own 2, .own 3, .bo r.a6], .row 3 r.a7, .row 3 r.a8, .row 86 r.a9]
def body_checker_top.rets : List (Ret body_checker_top.R) := [⟨.elp 3 86 0, [.box 70 [.ro 27, .ro 27, .ro 44, .bo, .bo, .own 1, .own 2, .own 3, .bo], .row 3, .row 3, .row 86], fun t u => ⟨t, u.1.1, u.1.2.1, u.1.2.2.1, u.1.2.2.2.1, u.1.2.2.2.2.1, u.1.2.2.2.2.2.2.2.2.1, u.2.1, u.2.2.1, u.2.2.2.1⟩⟩]
def body_checker_top.stps : List (Stp body_checker_top.L) := []
def body_checker_top.ash : List Sh := [.ptr 0 0]
def body_checker_top.aosh : List OSh := [.box 70 [.ro 27, .ro 27, .ro 44, .bo, .bo, .own 1, .own 2, .own 3, .bo], .row 3, .row 3, .row 86]
def body_checker_top.cps (k : Nat) : Cps := cpsOf body_checker_top.ash body_checker_top.aosh (fun t u => body_checker_top.f k u.1.1 u.1.2.1 u.1.2.2.1 u.1.2.2.2.1 u.1.2.2.2.2.1 u.1.2.2.2.2.2.2.2.2.1 u.2.1 u.2.2.1 u.2.2.2.1) body_checker_top.onR
def body_checker_top.tab (k : Nat) : List (Nat × Cps × List Bool) := []
def body_checker_top.qtab (k : Nat) : List QEnt := []
def body_checker_top.cf : Cfg := ⟨fun f => memB f [], fun f => memB f [], fun i => memB i []⟩
theorem body_checker_top.run (k : Nat) (t : TyL body_checker_top.ash) (u : TyO body_checker_top.aosh) : runF [] body_checker_top.cf (orcL (body_checker_top.tab k)) (orcN (body_checker_top.tab k)) (orcQ (body_checker_top.qtab k)) Try.f49 (liveS body_checker_top.stps) 4 (stpJ (body_checker_top.go k) body_checker_top.stps) (retD body_checker_top.rets) [.code (bodyOf Try.f49)] (mkS 0 Try.f49.ntmps (upto 1) (encL body_checker_top.ash t) (encO body_checker_top.aosh u)) = body_checker_top.f k u.1.1 u.1.2.1 u.1.2.2.1 u.1.2.2.2.1 u.1.2.2.2.2.1 u.1.2.2.2.2.2.2.2.2.1 u.2.1 u.2.2.1 u.2.2.2.1 := by kernel_rfl
theorem body_checker_top.ok (k : Nat) : FOk Try.prog 49 (body_checker_top.cps k) := fok (md := 0) (ren := []) (cf := body_checker_top.cf) (fn := Try.f49) (c := bodyOf Try.f49) (by kernel_rfl) (by kernel_rfl) (by kernel_rfl) (rets := body_checker_top.rets) (onR := body_checker_top.onR) (ash := body_checker_top.ash) (aosh := body_checker_top.aosh) (F := fun t u => body_checker_top.f k u.1.1 u.1.2.1 u.1.2.2.1 u.1.2.2.2.1 u.1.2.2.2.2.1 u.1.2.2.2.2.2.2.2.2.1 u.2.1 u.2.2.1 u.2.2.2.1) (stps := body_checker_top.stps) (go := body_checker_top.go) (Ok := fun k => orcL (body_checker_top.tab k)) (Nk := fun k => orcN (body_checker_top.tab k)) (Qk := fun k => orcQ (body_checker_top.qtab k))
  (List.forall_mem_cons.2 ⟨fun t u ρ K => rfl, List.forall_mem_nil _⟩) (by kernel_rfl) (by kernel_rfl) k (fun x => by cases x <;> rfl) (List.forall_mem_nil _)
  (List.forall_mem_nil _) (body_checker_top.run k) (fun C k' hk' r => orcL_ok r C _ (List.forall_mem_nil _)) (fun C k' hk' r => orcN_ok r C _ (List.forall_mem_nil _)) (fun k' hk' => orcQ_ok _ (List.forall_mem_nil _))
/-! ### (*gangway/body.checker).must -/
def body_checker_must.onR (ρ : Type) (r : body_checker_must.R) (K : AV → List Ob → Option ρ) : Option ρ := K (.tup []) [.box 70 [.ro 27 r.a0, .ro 27 r.a1, .ro 44 r.a2, .bo r.a3, .bo r.a4, .own 1, .own 2, .own 3, .bo r.a5], .row 3 r.a6, .row 3 r.a7, .row 86 r.a8]
def body_checker_must.rets : List (Ret body_checker_must.R) := [⟨.tup [], [.box 70 [.ro 27, .ro 27, .ro 44, .bo, .bo, .own 1, .own 2, .own 3, .bo], .row 3, .row 3, .row 86], fun t u => ⟨u.1.1, u.1.2.1, u.1.2.2.1, u.1.2.2.2.1, u.1.2.2.2.2.1, u.1.2.2.2.2.2.2.2.2.1, u.2.1, u.2.2.1, u.2.2.2.1⟩⟩]
def body_checker_must.stps : List (Stp body_checker_must.L) := []
def body_checker_must.ash : List Sh := [.ptr 0 0, .bo]
def body_checker_must.aosh : List OSh := [.box 70 [.ro 27, .ro 27, .ro 44, .bo, .bo, .own 1, .own 2, .own 3, .bo], .row 3, .row 3, .row 86]
def body_checker_must.cps (k : Nat) : Cps := cpsOf body_checker_must.ash body_checker_must.aosh (fun t u => body_checker_must.f k t.2.1 u.1.1 u.1.2.1 u.1.2.2.1 u.1.2.2.2.1 u.1.2.2.2.2.1 u.1.2.2.2.2.2.2.2.2.1 u.2.1 u.2.2.1 u.2.2.2.1) body_checker_must.onR
def body_checker_must.tab (k : Nat) : List (Nat × Cps × List Bool) := []
def body_checker_must.qtab (k : Nat) : List QEnt := []
def body_checker_must.cf : Cfg := ⟨fun f => memB f [], fun f => memB f [], fun i => memB i []⟩
theorem body_checker_must.run (k : Nat) (t : TyL body_checker_must.ash) (u : TyO body_checker_must.aosh) : runF [] body_checker_must.cf (orcL (body_checker_must.tab k)) (orcN (body_checker_must.tab k)) (orcQ (body_checker_must.qtab k)) Try.f50 (liveS body_checker_must.stps) 4 (stpJ (body_checker_must.go k) body_checker_must.stps) (retD body_checker_must.rets) [.code (bodyOf Try.f50)] (mkS 0 Try.f50.ntmps (upto 2) (encL body_checker_must.ash t) (encO body_checker_must.aosh u)) = body_checker_must.f k t.2.1 u.1.1 u.1.2.1 u.1.2.2.1 u.1.2.2.2.1 u.1.2.2.2.2.1 u.1.2.2.2.2.2.2.2.2.1 u.2.1 u.2.2.1 u.2.2.2.1 := by kernel_rfl
theorem body_checker_must.ok (k : Nat) : FOk Try.prog 50 (body_checker_must.cps k) := fok (md := 0) (ren := []) (cf := body_checker_must.cf) (fn := Try.f50) (c := bodyOf Try.f50) (by kernel_rfl) (by kernel_rfl) (by kernel_rfl) (rets := body_checker_must.rets) (onR := body_checker_must.onR) (ash := body_checker_must.ash) (aosh := body_checker_must.aosh) (F := fun t u => body_checker_must.f k t.2.1 u.1.1 u.1.2.1 u.1.2.2.1 u.1.2.2.2.1 u.1.2.2.2.2.1 u.1.2.2.2.2.2.2.2.2.1 u.2.1 u.2.2.1 u.2.2.2.1) (stps := body_checker_must.stps) (go := body_checker_must.go) (Ok := fun k => orcL (body_checker_must.tab k)) (Nk := fun k => orcN (body_checker_must.tab k)) (Qk := fun k => orcQ (body_checker_must.qtab k))
  (List.forall_mem_cons.2 ⟨fun t u ρ K => rfl, List.forall_mem_nil _⟩) (by kernel_rfl) (by kernel_rfl) k (fun x => by cases x <;> rfl) (List.forall_mem_nil _)
  (List.forall_mem_nil _) (body_checker_must.run k) (fun C k' hk' r => orcL_ok r C _ (List.forall_mem_nil _)) (fun C k' hk' r => orcN_ok r C _ (List.forall_mem_nil _)) (fun k' hk' => orcQ_ok _ (List.forall_mem_nil _))
/-! ### (*gangway/body.checker).any -/
def body_checker_any.onR (ρ : Type) (r : body_checker_any.R) (K : AV → List Ob → Option ρ) : Option ρ := K (.int .i64 r.a0) [.box 70 [.ro 27 r.a1, .ro 27 r.a2, .ro 44 r.a3, .bo r.a4, .bo r.a5, .own 1, .own 4, .own 3, .bo r.a6], .row 3 r.a7, .dead, .row 86 r.a8, .row 3 r.a9]
def body_checker_any.rets : List (Ret body_checker_any.R) := [⟨.int .i64, [.box 70 [.ro 27, .ro 27, .ro 44, .bo, .bo, .own 1, .own 4, .own 3, .bo], .row 3, .dead, .row 86, .row 3], fun t u => ⟨t, u.1.1, u.1.2.1, u.1.2.2.1, u.1.2.2.2.1, u.1.2.2.2.2.1, u.1.2.2.2.2.2.2.2.2.1, u.2.1, u.2.2.2.1, u.2.2.2.2.1⟩⟩]
def body_checker_any.stps : List (Stp body_checker_any.L) := []
def body_checker_any.ash : List Sh := [.ptr 0 0]
def body_checker_any.aosh : List OSh := [.box 70 [.ro 27, .ro 27, .ro 44, .bo, .bo, .own 1, .own 2, .own 3, .bo], .row 3, .row 3, .row 86]
def body_checker_any.cps (k : Nat) : Cps := cpsOf body_checker_any.ash body_checker_any.aosh (fun t u => body_checker_any.f k u.1.1 u.1.2.1 u.1.2.2.1 u.1.2.2.2.1 u.1.2.2.2.2.1 u.1.2.2.2.2.2.2.2.2.1 u.2.1 u.2.2.1 u.2.2.2.1) body_checker_any.onR
def body_checker_any.tab (k : Nat) : List (Nat × Cps × List Bool) := [(49, body_checker_top.cps k, [false]), (50, body_checker_must.cps k, [false, false])]
def body_checker_any.qtab (k : Nat) : List QEnt := []
def body_checker_any.cf : Cfg := ⟨fun f => memB f [], fun f => memB f [], fun i => memB i []⟩
theorem body_checker_any.run (k : Nat) (t : TyL body_checker_any.ash) (u : TyO body_checker_any.aosh) : runF [2] body_checker_any.cf (orcL (body_checker_any.tab k)) (orcN (body_checker_any.tab k)) (orcQ (body_checker_any.qtab k)) Try.f84 (liveS body_checker_any.stps) 4 (stpJ (body_checker_any.go k) body_checker_any.stps) (retD body_checker_any.rets) [.code (bodyOf Try.f84)] (mkS 0 Try.f84.ntmps (upto 1) (encL body_checker_any.ash t) (encO body_checker_any.aosh u)) = body_checker_any.f k u.1.1 u.1.2.1 u.1.2.2.1 u.1.2.2.2.1 u.1.2.2.2.2.1 u.1.2.2.2.2.2.2.2.2.1 u.2.1 u.2.2.1 u.2.2.2.1 := by kernel_rfl
theorem body_checker_any.ok (k : Nat) : FOk Try.prog 84 (body_checker_any.cps k) := fok (md := 0) (ren := [2]) (cf := body_checker_any.cf) (fn := Try.f84) (c := bodyOf Try.f84) (by kernel_rfl) (by kernel_rfl) (by kernel_rfl) (rets := body_checker_any.rets) (onR := body_checker_any.onR) (ash := body_checker_any.ash) (aosh := body_checker_any.aosh) (F := fun t u => body_checker_any.f k u.1.1 u.1.2.1 u.1.2.2.1 u.1.2.2.2.1 u.1.2.2.2.2.1 u.1.2.2.2.2.2.2.2.2.1 u.2.1 u.2.2.1 u.2.2.2.1) (stps := body_checker_any.stps) (go := body_checker_any.go) (Ok := fun k => orcL (body_checker_any.tab k)) (Nk := fun k => orcN (body_checker_any.tab k)) (Qk := fun k => orcQ (body_checker_any.qtab k))
  (List.forall_mem_cons.2 ⟨fun t u ρ K => rfl, List.forall_mem_nil _⟩) (by kernel_rfl) (by kernel_rfl) k (fun x => by cases x <;> rfl) (List.forall_mem_nil _)
  (List.forall_mem_nil _) (body_checker_any.run k) (fun C k' hk' r => orcL_ok r C _ (List.forall_mem_cons.2 ⟨body_checker_top.ok k', (List.forall_mem_cons.2 ⟨body_checker_must.ok k', List.forall_mem_nil _⟩)⟩)) (fun C k' hk' r => orcN_ok r C _ (List.forall_mem_cons.2 ⟨body_checker_top.ok k', (List.forall_mem_cons.2 ⟨body_checker_must.ok k', List.forall_mem_nil _⟩)⟩)) (fun k' hk' => orcQ_ok _ (List.forall_mem_nil _))
/-! ### (*gangway/body.checker).take -/
def body_checker_take.onR (ρ : Type) (r : body_checker_take.R) (K : AV → List Ob → Option ρ) : Option ρ := K (.tup []) [.box 70 [.ro 27 r.a0, .ro 27 r.a1, .ro 44 r.a2, .bo r.a3, .bo r.a4, .own 1, .own 4, .own 3, .bo r.a5], .row 3 r.a6, .dead, .row 86 r.a7, .row 3 r.a8]
def body_checker_take.rets : List (Ret body_checker_take.R) := [⟨.tup [], [.box 70 [.ro 27, .ro 27, .ro 44, .bo, .bo, .own 1, .own 4, .own 3, .bo], .row 3, .dead, .row 86, .row 3], fun t u => ⟨u.1.1, u.1.2.1, u.1.2.2.1, u.1.2.2.2.1, u.1.2.2.2.2.1, u.1.2.2.2.2.2.2.2.2.1, u.2.1, u.2.2.2.1, u.2.2.2.2.1⟩⟩]
def body_checker_take.stps : List (Stp body_checker_take.L) := []
def body_checker_take.ash : List Sh := [.ptr 0 0, .int .i64]
def body_checker_take.aosh : List OSh := [.box 70 [.ro 27, .ro 27, .ro 44, .bo, .bo, .own 1, .own 2, .own 3, .bo], .row 3, .row 3, .row 86]
def body_checker_take.cps (k : Nat) : Cps := cpsOf body_checker_take.ash body_checker_take.aosh (fun t u => body_checker_take.f k t.2.1 u.1.1 u.1.2.1 u.1.2.2.1 u.1.2.2.2.1 u.1.2.2.2.2.1 u.1.2.2.2.2.2.2.2.2.1 u.2.1 u.2.2.1 u.2.2.2.1) body_checker_take.onR
def body_checker_take.tab (k : Nat) : List (Nat × Cps × List Bool) := [(84, body_checker_any.cps k, [false]), (50, body_checker_must.cps k, [false, false])]
def body_checker_take.qtab (k : Nat) : List QEnt := []
def body_checker_take.cf : Cfg := ⟨fun f => memB f [], fun f => memB f [], fun i => memB i []⟩
theorem body_checker_take.run (k : Nat) (t : TyL body_checker_take.ash) (u : TyO body_checker_take.aosh) : runF [] body_checker_take.cf (orcL (body_checker_take.tab k)) (orcN (body_checker_take.tab k)) (orcQ (body_checker_take.qtab k)) Try.f68 (liveS body_checker_take.stps) 4 (stpJ (body_checker_take.go k) body_checker_take.stps) (retD body_checker_take.rets) [.code (bodyOf Try.f68)] (mkS 0 Try.f68.ntmps (upto 2) (encL body_checker_take.ash t) (encO body_checker_take.aosh u)) = body_checker_take.f k t.2.1 u.1.1 u.1.2.1 u.1.2.2.1 u.1.2.2.2.1 u.1.2.2.2.2.1 u.1.2.2.2.2.2.2.2.2.1 u.2.1 u.2.2.1 u.2.2.2.1 := by kernel_rfl
theorem body_checker_take.ok (k : Nat) : FOk Try.prog 68 (body_checker_take.cps k) := fok (md := 0) (ren := []) (cf := body_checker_take.cf) (fn := Try.f68) (c := bodyOf Try.f68) (by kernel_rfl) (by kernel_rfl) (by kernel_rfl) (rets := body_checker_take.rets) (onR := body_checker_take.onR) (ash := body_checker_take.ash) (aosh := body_checker_take.aosh) (F := fun t u => body_checker_take.f k t.2.1 u.1.1 u.1.2.1 u.1.2.2.1 u.1.2.2.2.1 u.1.2.2.2.2.1 u.1.2.2.2.2.2.2.2.2.1 u.2.1 u.2.2.1 u.2.2.2.1) (stps := body_checker_take.stps) (go := body_checker_take.go) (Ok := fun k => orcL (body_checker_take.tab k)) (Nk := fun k => orcN (body_checker_take.tab k)) (Qk := fun k => orcQ (body_checker_take.qtab k))
  (List.forall_mem_cons.2 ⟨fun t u ρ K => rfl, List.forall_mem_nil _⟩) (by kernel_rfl) (by kernel_rfl) k (fun x => by cases x <;> rfl) (List.forall_mem_nil _)
  (List.forall_mem_nil _) (body_checker_take.run k) (fun C k' hk' r => orcL_ok r C _ (List.forall_mem_cons.2 ⟨body_checker_any.ok k', (List.forall_mem_cons.2 ⟨body_checker_must.ok k', List.forall_mem_nil _⟩)⟩)) (fun C k' hk' r => orcN_ok r C _ (List.forall_mem_cons.2 ⟨body_checker_any.ok k', (List.forall_mem_cons.2 ⟨body_checker_must.ok k', List.forall_mem_nil _⟩)⟩)) (fun k' hk' => orcQ_ok _ (List.forall_mem_nil _))
/-! ### (*gangway/body.checker).kill -/
def body_checker_kill.onR (ρ : Type) (r : body_checker_kill.R) (K : AV → List Ob → Option ρ) : Option ρ := K (.tup []) [.box 70 [.ro 27 r.a0, .ro 27 r.a1, .ro 44 r.a2, .bo r.a3, .bo r.a4, .own 1, .own 4, .own 3, .bo r.a5], .row 3 r.a6, .dead, .row 86 r.a7, .row 3 r.a8]
def body_checker_kill.rets : List (Ret body_checker_kill.R) := [⟨.tup [], [.box 70 [.ro 27, .ro 27, .ro 44, .bo, .bo, .own 1, .own 4, .own 3, .bo], .row 3, .dead, .row 86, .row 3], fun t u => ⟨u.1.1, u.1.2.1, u.1.2.2.1, u.1.2.2.2.1, u.1.2.2.2.2.1, u.1.2.2.2.2.2.2.2.2.1, u.2.1, u.2.2.2.1, u.2.2.2.2.1⟩⟩]
def body_checker_kill.stps : List (Stp body_checker_kill.L) := []
def body_checker_kill.ash : List Sh := [.ptr 0 0]
def body_checker_kill.aosh : List OSh := [.box 70 [.ro 27, .ro 27, .ro 44, .bo, .bo, .own 1, .own 2, .own 3, .bo], .row 3, .row 3, .row 86]
def body_checker_kill.cps (k : Nat) : Cps := cpsOf body_checker_kill.ash body_checker_kill.aosh (fun t u => body_checker_kill.f k u.1.1 u.1.2.1 u.1.2.2.1 u.1.2.2.2.1 u.1.2.2.2.2.1 u.1.2.2.2.2.2.2.2.2.1 u.2.1 u.2.2.1 u.2.2.2.1) body_checker_kill.onR
def body_checker_kill.tab (k : Nat) : List (Nat × Cps × List Bool) := [(49, body_checker_top.cps k, [false])]
def body_checker_kill.qtab (k : Nat) : List QEnt := []
def body_checker_kill.cf : Cfg := ⟨fun f => memB f [], fun f => memB f [], fun i => memB i []⟩
theorem body_checker_kill.run (k : Nat) (t : TyL body_checker_kill.ash) (u : TyO body_checker_kill.aosh) : runF [] body_checker_kill.cf (orcL (body_checker_kill.tab k)) (orcN (body_checker_kill.tab k)) (orcQ (body_checker_kill.qtab k)) Try.f89 (liveS body_checker_kill.stps) 4 (stpJ (body_checker_kill.go k) body_checker_kill.stps) (retD body_checker_kill.rets) [.code (bodyOf Try.f89)] (mkS 0 Try.f89.ntmps (upto 1) (encL body_checker_kill.ash t) (encO body_checker_kill.aosh u)) = body_checker_kill.f k u.1.1 u.1.2.1 u.1.2.2.1 u.1.2.2.2.1 u.1.2.2.2.2.1 u.1.2.2.2.2.2.2.2.2.1 u.2.1 u.2.2.1 u.2.2.2.1 := by kernel_rfl
theorem body_checker_kill.ok (k : Nat) : FOk Try.prog 89 (body_checker_kill.cps k) := fok (md := 0) (ren := []) (cf := body_checker_kill.cf) (fn := Try.f89) (c := bodyOf Try.f89) (by kernel_rfl) (by kernel_rfl) (by kernel_rfl) (rets := body_checker_kill.rets) (onR := body_checker_kill.onR) (ash := body_checker_kill.ash) (aosh := body_checker_kill.aosh) (F := fun t u => body_checker_kill.f k u.1.1 u.1.2.1 u.1.2.2.1 u.1.2.2.2.1 u.1.2.2.2.2.1 u.1.2.2.2.2.2.2.2.2.1 u.2.1 u.2.2.1 u.2.2.2.1) (stps := body_checker_kill.stps) (go := body_checker_kill.go) (Ok := fun k => orcL (body_checker_kill.tab k)) (Nk := fun k => orcN (body_checker_kill.tab k)) (Qk := fun k => orcQ (body_checker_kill.qtab k))
  (List.forall_mem_cons.2 ⟨fun t u ρ K => rfl, List.forall_mem_nil _⟩) (by kernel_rfl) (by kernel_rfl) k (fun x => by cases x <;> rfl) (List.forall_mem_nil _)
  (List.forall_mem_nil _) (body_checker_kill.run k) (fun C k' hk' r => orcL_ok r C _ (List.forall_mem_cons.2 ⟨body_checker_top.ok k', List.forall_mem_nil _⟩)) (fun C k' hk' r => orcN_ok r C _ (List.forall_mem_cons.2 ⟨body_checker_top.ok k', List.forall_mem_nil _⟩)) (fun k' hk' => orcQ_ok _ (List.forall_mem_nil _))
/-! ### (*gangway/body.checker).label -/
def body_checker_label.onR (ρ : Type) (r : body_checker_label.R) (K : AV → List Ob → Option ρ) : Option ρ := match r with
  | .r0 a0 a1 a2 a3 a4 a5 a6 a7 a8 a9 => K (.own 4) [.box 70 [.ro 27 a0, .ro 27 a1, .ro 44 a2, .bo a3, .bo a4, .own 1, .own 2, .own 3, .bo a5], .row 3 a6, .row 3 a7, .row 86 a8, .row 3 a9]
  | .r1 a0 a1 a2 a3 a4 a5 a6 a7 a8 a9 => K (.ro 3 a0) [.box 70 [.ro 27 a1, .ro 27 a2, .ro 44 a3, .bo a4, .bo a5, .own 1, .own 2, .own 3, .bo a6], .row 3 a7, .row 3 a8, .row 86 a9]
def body_checker_label.rets : List (Ret body_checker_label.R) := [⟨.own 4, [.box 70 [.ro 27, .ro 27, .ro 44, .bo, .bo, .own 1, .own 2, .own 3, .bo], .row 3, .row 3, .row 86, .row 3], fun t u => .r0 u.1.1 u.1.2.1 u.1.2.2.1 u.1.2.2.2.1 u.1.2.2.2.2.1 u.1.2.2.2.2.2.2.2.2.1 u.2.1 u.2.2.1 u.2.2.2.1 u.2.2.2.2.1⟩, ⟨.ro 3, [.box 70 [.ro 27, .ro 27, .ro 44, .bo, .bo, .own 1, .own 2, .own 3, .bo], .row 3, .row 3, .row 86], fun t u => .r1 t u.1.1 u.1.2.1 u.1.2.2.1 u.1.2.2.2.1 u.1.2.2.2.2.1 u.1.2.2.2.2.2.2.2.2.1 u.2.1 u.2.2.1 u.2.2.2.1⟩]
def body_checker_label.stps : List (Stp body_checker_label.L) := []
def body_checker_label.ash : List Sh := [.ptr 0 0, .int .i64]
def body_checker_label.aosh : List OSh := [.box 70 [.ro 27, .ro 27, .ro 44, .bo, .bo, .own 1, .own 2, .own 3, .bo], .row 3, .row 3, .row 86]
def body_checker_label.cps (k : Nat) : Cps := cpsOf body_checker_label.ash body_checker_label.aosh (fun t u => body_checker_label.f k t.2.1 u.1.1 u.1.2.1 u.1.2.2.1 u.1.2.2.2.1 u.1.2.2.2.2.1 u.1.2.2.2.2.2.2.2.2.1 u.2.1 u.2.2.1 u.2.2.2.1) body_checker_label.onR
def body_checker_label.tab (k : Nat) : List (Nat × Cps × List Bool) := []
def body_checker_label.qtab (k : Nat) : List QEnt := []
def body_checker_label.cf : Cfg := ⟨fun f => memB f [], fun f => memB f [], fun i => memB i []⟩
theorem body_checker_label.run (k : Nat) (t : TyL body_checker_label.ash) (u : TyO body_checker_label.aosh) : runF [] body_checker_label.cf (orcL (body_checker_label.tab k)) (orcN (body_checker_label.tab k)) (orcQ (body_checker_label.qtab k)) Try.f87 (liveS body_checker_label.stps) 4 (stpJ (body_checker_label.go k) body_checker_label.stps) (retD body_checker_label.rets) [.code (bodyOf Try.f87)] (mkS 0 Try.f87.ntmps (upto 2) (encL body_checker_label.ash t) (encO body_checker_label.aosh u)) = body_checker_label.f k t.2.1 u.1.1 u.1.2.1 u.1.2.2.1 u.1.2.2.2.1 u.1.2.2.2.2.1 u.1.2.2.2.2.2.2.2.2.1 u.2.1 u.2.2.1 u.2.2.2.1 := by kernel_rfl
theorem body_checker_label.ok (k : Nat) : FOk Try.prog 87 (body_checker_label.cps k) := fok (md := 0) (ren := []) (cf := body_checker_label.cf) (fn := Try.f87) (c := bodyOf Try.f87) (by kernel_rfl) (by kernel_rfl) (by kernel_rfl) (rets := body_checker_label.rets) (onR := body_checker_label.onR) (ash := body_checker_label.ash) (aosh := body_checker_label.aosh) (F := fun t u => body_checker_label.f k t.2.1 u.1.1 u.1.2.1 u.1.2.2.1 u.1.2.2.2.1 u.1.2.2.2.2.1 u.1.2.2.2.2.2.2.2.2.1 u.2.1 u.2.2.1 u.2.2.2.1) (stps := body_checker_label.stps) (go := body_checker_label.go) (Ok := fun k => orcL (body_checker_label.tab k)) (Nk := fun k => orcN (body_checker_label.tab k)) (Qk := fun k => orcQ (body_checker_label.qtab k))
  (List.forall_mem_cons.2 ⟨fun t u ρ K => rfl, (List.forall_mem_cons.2 ⟨fun t u ρ K => rfl, List.forall_mem_nil _⟩)⟩) (by kernel_rfl) (by kernel_rfl) k (fun x => by cases x <;> rfl) (List.forall_mem_nil _)
  (List.forall_mem_nil _) (body_checker_label.run k) (fun C k' hk' r => orcL_ok r C _ (List.forall_mem_nil _)) (fun C k' hk' r => orcN_ok r C _ (List.forall_mem_nil _)) (fun k' hk' => orcQ_ok _ (List.forall_mem_nil _))
/-! ### (*gangway/body.checker).takes -/
def body_checker_takes.onR (ρ : Type) (r : body_checker_takes.R) (K : AV → List Ob → Option ρ) : Option ρ := K (.tup []) [.box 70 [.ro 27 r.a0, .ro 27 r.a1, .ro 44 r.a2, .bo r.a3, .bo r.a4, .own 1, .own 4, .own 3, .bo r.a5], .row 3 r.a6, .dead, .row 86 r.a7, .row 3 r.a8]
def body_checker_takes.rets : List (Ret body_checker_takes.R) := [⟨.tup [], [.box 70 [.ro 27, .ro 27, .ro 44, .bo, .bo, .own 1, .own 4, .own 3, .bo], .row 3, .dead, .row 86, .row 3], fun t u => ⟨u.1.1, u.1.2.1, u.1.2.2.1, u.1.2.2.2.1, u.1.2.2.2.2.1, u.1.2.2.2.2.2.2.2.2.1, u.2.1, u.2.2.2.1, u.2.2.2.2.1⟩⟩]
def body_checker_takes.stps : List (Stp body_checker_takes.L) := [⟨1, [0, 1, 4], [.ptr 0 0, .ro 3, .int .i64], [.box 70 [.ro 27, .ro 27, .ro 44, .bo, .bo, .own 1, .own 4, .own 3, .bo], .row 3, .dead, .row 86, .row 3], fun t u => .s1 t.2.1 t.2.2.1 u.1.1 u.1.2.1 u.1.2.2.1 u.1.2.2.2.1 u.1.2.2.2.2.1 u.1.2.2.2.2.2.2.2.2.1 u.2.1 u.2.2.2.1 u.2.2.2.2.1⟩]
def body_checker_takes.ash : List Sh := [.ptr 0 0, .ro 3]
def body_checker_takes.aosh : List OSh := [.box 70 [.ro 27, .ro 27, .ro 44, .bo, .bo, .own 1, .own 2, .own 3, .bo], .row 3, .row 3, .row 86]
def body_checker_takes.cps (k : Nat) : Cps := cpsOf body_checker_takes.ash body_checker_takes.aosh (fun t u => body_checker_takes.f k t.2.1 u.1.1 u.1.2.1 u.1.2.2.1 u.1.2.2.2.1 u.1.2.2.2.2.1 u.1.2.2.2.2.2.2.2.2.1 u.2.1 u.2.2.1 u.2.2.2.1) body_checker_takes.onR
def body_checker_takes.tab (k : Nat) : List (Nat × Cps × List Bool) := [(68, body_checker_take.cps k, [false, false])]
def body_checker_takes.qtab (k : Nat) : List QEnt := []
def body_checker_takes.cf : Cfg := ⟨fun f => memB f [], fun f => memB f [], fun i => memB i []⟩
theorem body_checker_takes.run_s1 (k : Nat) (t : TyL [.ptr 0 0, .ro 3, .int .i64]) (u : TyO [.box 70 [.ro 27, .ro 27, .ro 44, .bo, .bo, .own 1, .own 4, .own 3, .bo], .row 3, .dead, .row 86, .row 3]) : runF [2] body_checker_takes.cf (orcL (body_checker_takes.tab k)) (orcN (body_checker_takes.tab k)) (orcQ (body_checker_takes.qtab k)) Try.f48 (liveS body_checker_takes.stps) 4 (stpJ (body_checker_takes.go k) body_checker_takes.stps) (retD body_checker_takes.rets) (stackAt (bodyOf Try.f48) 1) (mkS 0 Try.f48.ntmps [0, 1, 4] (encL _ t) (encO _ u)) = body_checker_takes.go (k + 1) (.s1 t.2.1 t.2.2.1 u.1.1 u.1.2.1 u.1.2.2.1 u.1.2.2.2.1 u.1.2.2.2.2.1 u.1.2.2.2.2.2.2.2.2.1 u.2.1 u.2.2.2.1 u.2.2.2.2.1) := by kernel_rfl
theorem body_checker_takes.run (k : Nat) (t : TyL body_checker_takes.ash) (u : TyO body_checker_takes.aosh) : runF [2] body_checker_takes.cf (orcL (body_checker_takes.tab k)) (orcN (body_checker_takes.tab k)) (orcQ (body_checker_takes.qtab k)) Try.f48 (liveS body_checker_takes.stps) 4 (stpJ (body_checker_takes.go k) body_checker_takes.stps) (retD body_checker_takes.rets) [.code (bodyOf Try.f48)] (mkS 0 Try.f48.ntmps (upto 2) (encL body_checker_takes.ash t) (encO body_checker_takes.aosh u)) = body_checker_takes.f k t.2.1 u.1.1 u.1.2.1 u.1.2.2.1 u.1.2.2.2.1 u.1.2.2.2.2.1 u.1.2.2.2.2.2.2.2.2.1 u.2.1 u.2.2.1 u.2.2.2.1 := by kernel_rfl
theorem body_checker_takes.ok (k : Nat) : FOk Try.prog 48 (body_checker_takes.cps k) := fok (md := 0) (ren := [2]) (cf := body_checker_takes.cf) (fn := Try.f48) (c := bodyOf Try.f48) (by kernel_rfl) (by kernel_rfl) (by kernel_rfl) (rets := body_checker_takes.rets) (onR := body_checker_takes.onR) (ash := body_checker_takes.ash) (aosh := body_checker_takes.aosh) (F := fun t u => body_checker_takes.f k t.2.1 u.1.1 u.1.2.1 u.1.2.2.1 u.1.2.2.2.1 u.1.2.2.2.2.1 u.1.2.2.2.2.2.2.2.2.1 u.2.1 u.2.2.1 u.2.2.2.1) (stps := body_checker_takes.stps) (go := body_checker_takes.go) (Ok := fun k => orcL (body_checker_takes.tab k)) (Nk := fun k => orcN (body_checker_takes.tab k)) (Qk := fun k => orcQ (body_checker_takes.qtab k))
  (List.forall_mem_cons.2 ⟨fun t u ρ K => rfl, List.forall_mem_nil _⟩) (by kernel_rfl) (by kernel_rfl) k (fun x => by cases x <;> rfl) (List.forall_mem_cons.2 ⟨by kernel_rfl, List.forall_mem_nil _⟩)
  (List.forall_mem_cons.2 ⟨body_checker_takes.run_s1, List.forall_mem_nil _⟩) (body_checker_takes.run k) (fun C k' hk' r => orcL_ok r C _ (List.forall_mem_cons.2 ⟨body_checker_take.ok k', List.forall_mem_nil _⟩)) (fun C k' hk' r => orcN_ok r C _ (List.forall_mem_cons.2 ⟨body_checker_take.ok k', List.forall_mem_nil _⟩)) (fun k' hk' => orcQ_ok _ (List.forall_mem_nil _))
/-! ### slices.Equal[[]int,int] -/
def slices_Equal_int_int.onR (ρ : Type) (r : slices_Equal_int_int.R) (K : AV → List Ob → Option ρ) : Option ρ := K (.bo r) []
def slices_Equal_int_int.rets : List (Ret slices_Equal_int_int.R) := [⟨.bo, [], fun t u => t⟩]
def slices_Equal_int_int.stps : List (Stp slices_Equal_int_int.L) := [⟨4, [0, 1, 12, 13], [.ro 3, .ro 3, .int .i64, .int .i64], [], fun t u => .s4 t.1 t.2.1 t.2.2.1 t.2.2.2.1⟩]
def slices_Equal_int_int.ash : List Sh := [.ro 3, .ro 3]
def slices_Equal_int_int.aosh : List OSh := []
def slices_Equal_int_int.cps (k : Nat) : Cps := cpsOf slices_Equal_int_int.ash slices_Equal_int_int.aosh (fun t u => slices_Equal_int_int.f k t.1 t.2.1) slices_Equal_int_int.onR
def slices_Equal_int_int.tab (k : Nat) : List (Nat × Cps × List Bool) := []
def slices_Equal_int_int.qtab (k : Nat) : List QEnt := []
def slices_Equal_int_int.cf : Cfg := ⟨fun f => memB f [], fun f => memB f [], fun i => memB i []⟩
theorem slices_Equal_int_int.run_s4 (k : Nat) (t : TyL [.ro 3, .ro 3, .int .i64, .int .i64]) (u : TyO []) : runF [] slices_Equal_int_int.cf (orcL (slices_Equal_int_int.tab k)) (orcN (slices_Equal_int_int.tab k)) (orcQ (slices_Equal_int_int.qtab k)) Try.f88 (liveS slices_Equal_int_int.stps) 0 (stpJ (slices_Equal_int_int.go k) slices_Equal_int_int.stps) (retD slices_Equal_int_int.rets) (stackAt (bodyOf Try.f88) 4) (mkS 0 Try.f88.ntmps [0, 1, 12, 13] (encL _ t) (encO _ u)) = slices_Equal_int_int.go (k + 1) (.s4 t.1 t.2.1 t.2.2.1 t.2.2.2.1) := by kernel_rfl
theorem slices_Equal_int_int.run (k : Nat) (t : TyL slices_Equal_int_int.ash) (u : TyO slices_Equal_int_int.aosh) : runF [] slices_Equal_int_int.cf (orcL (slices_Equal_int_int.tab k)) (orcN (slices_Equal_int_int.tab k)) (orcQ (slices_Equal_int_int.qtab k)) Try.f88 (liveS slices_Equal_int_int.stps) 0 (stpJ (slices_Equal_int_int.go k) slices_Equal_int_int.stps) (retD slices_Equal_int_int.rets) [.code (bodyOf Try.f88)] (mkS 0 Try.f88.ntmps (upto 2) (encL slices_Equal_int_int.ash t) (encO slices_Equal_int_int.aosh u)) = slices_Equal_int_int.f k t.1 t.2.1 := by kernel_rfl
theorem slices_Equal_int_int.ok (k : Nat) : FOk Try.prog 88 (slices_Equal_int_int.cps k) := fok (md := 0) (ren := []) (cf := slices_Equal_int_int.cf) (fn := Try.f88) (c := bodyOf Try.f88) (by kernel_rfl) (by kernel_rfl) (by kernel_rfl) (rets := slices_Equal_int_int.rets) (onR := slices_Equal_int_int.onR) (ash := slices_Equal_int_int.ash) (aosh := slices_Equal_int_int.aosh) (F := fun t u => slices_Equal_int_int.f k t.1 t.2.1) (stps := slices_Equal_int_int.stps) (go := slices_Equal_int_int.go) (Ok := fun k => orcL (slices_Equal_int_int.tab k)) (Nk := fun k => orcN (slices_Equal_int_int.tab k)) (Qk := fun k => orcQ (slices_Equal_int_int.qtab k))
  (List.forall_mem_cons.2 ⟨fun t u ρ K => rfl, List.forall_mem_nil _⟩) (by kernel_rfl) (by kernel_rfl) k (fun x => by cases x <;> rfl) (List.forall_mem_cons.2 ⟨by kernel_rfl, List.forall_mem_nil _⟩)
  (List.forall_mem_cons.2 ⟨slices_Equal_int_int.run_s4, List.forall_mem_nil _⟩) (slices_Equal_int_int.run k) (fun C k' hk' r => orcL_ok r C _ (List.forall_mem_nil _)) (fun C k' hk' r => orcN_ok r C _ (List.forall_mem_nil _)) (fun k' hk' => orcQ_ok _ (List.forall_mem_nil _))
/-! ### (*gangway/body.checker).branches -/
def body_checker_branches.onR (ρ : Type) (r : body_checker_branches.R) (K : AV → List Ob → Option ρ) : Option ρ := K (.tup []) [.box 70 [.ro 27 r.a0, .ro 27 r.a1, .ro 44 r.a2, .bo r.a3, .bo r.a4, .own 1, .own 4, .own 3, .bo r.a5], .row 3 r.a6, .dead, .row 86 r.a7, .row 3 r.a8]
def body_checker_branches.rets : List (Ret body_checker_branches.R) := [⟨.tup [], [.box 70 [.ro 27, .ro 27, .ro 44, .bo, .bo, .own 1, .own 4, .own 3, .bo], .row 3, .dead, .row 86, .row 3], fun t u => ⟨u.1.1, u.1.2.1, u.1.2.2.1, u.1.2.2.2.1, u.1.2.2.2.2.1, u.1.2.2.2.2.2.2.2.2.1, u.2.1, u.2.2.2.1, u.2.2.2.2.1⟩⟩]
def body_checker_branches.stps : List (Stp body_checker_branches.L) := [⟨15, [0, 5, 52, 53, 54], [.ptr 0 0, .own 5, .ro 3, .int .i64, .int .i64], [.box 70 [.ro 27, .ro 27, .ro 44, .bo, .bo, .own 1, .own 4, .own 3, .bo], .row 3, .dead, .row 86, .row 3, .row 3], fun t u => .s15 t.2.2.1 t.2.2.2.1 t.2.2.2.2.1 u.1.1 u.1.2.1 u.1.2.2.1 u.1.2.2.2.1 u.1.2.2.2.2.1 u.1.2.2.2.2.2.2.2.2.1 u.2.1 u.2.2.2.1 u.2.2.2.2.1 u.2.2.2.2.2.1⟩,
  ⟨15, [0, 5, 52, 53, 54], [.ptr 0 0, .ro 3, .ro 3, .int .i64, .int .i64], [.box 70 [.ro 27, .ro 27, .ro 44, .bo, .bo, .own 1, .own 4, .own 3, .bo], .row 3, .dead, .row 86, .row 3], fun t u => .s15_1 t.2.1 t.2.2.1 t.2.2.2.1 t.2.2.2.2.1 u.1.1 u.1.2.1 u.1.2.2.1 u.1.2.2.2.1 u.1.2.2.2.2.1 u.1.2.2.2.2.2.2.2.2.1 u.2.1 u.2.2.2.1 u.2.2.2.2.1⟩]
def body_checker_branches.ash : List Sh := [.ptr 0 0, .agg [.int .i64, .int .i64, .int .i64, .int .i64, .int .i64, .int .i64, .ro 3, .ro 41, .ro 41]]
def body_checker_branches.aosh : List OSh := [.box 70 [.ro 27, .ro 27, .ro 44, .bo, .bo, .own 1, .own 2, .own 3, .bo], .row 3, .row 3, .row 86]
def body_checker_branches.cps (k : Nat) : Cps := cpsOf body_checker_branches.ash body_checker_branches.aosh (fun t u => body_checker_branches.f k t.2.1.1 t.2.1.2.1 t.2.1.2.2.1 t.2.1.2.2.2.1 t.2.1.2.2.2.2.1 t.2.1.2.2.2.2.2.1 t.2.1.2.2.2.2.2.2.1 t.2.1.2.2.2.2.2.2.2.1 t.2.1.2.2.2.2.2.2.2.2.1 u.1.1 u.1.2.1 u.1.2.2.1 u.1.2.2.2.1 u.1.2.2.2.2.1 u.1.2.2.2.2.2.2.2.2.1 u.2.1 u.2.2.1 u.2.2.2.1) body_checker_branches.onR
def body_checker_branches.tab (k : Nat) : List (Nat × Cps × List Bool) := [(89, body_checker_kill.cps k, [false]), (87, body_checker_label.cps k, [false, false]), (48, body_checker_takes.cps k, [false, false]), (68, body_checker_take.cps k, [false, false]), (86, body_checker_put.cps k, [false, false]), (88, slices_Equal_int_int.cps k, [false, false]), (50, body_checker_must.cps k, [false, false])]
def body_checker_branches.qtab (k : Nat) : List QEnt := []
def body_checker_branches.cf : Cfg := ⟨fun f => memB f [], fun f => memB f [], fun i => memB i []⟩
theorem body_checker_branches.run_s15 (k : Nat) (t : TyL [.ptr 0 0, .own 5, .ro 3, .int .i64, .int .i64]) (u : TyO [.box 70 [.ro 27, .ro 27, .ro 44, .bo, .bo, .own 1, .own 4, .own 3, .bo], .row 3, .dead, .row 86, .row 3, .row 3]) : runF [] body_checker_branches.cf (orcL (body_checker_branches.tab k)) (orcN (body_checker_branches.tab k)) (orcQ (body_checker_branches.qtab k)) Try.f78 (liveS body_checker_branches.stps) 4 (stpJ (body_checker_branches.go k) body_checker_branches.stps) (retD body_checker_branches.rets) (stackAt (bodyOf Try.f78) 15) (mkS 0 Try.f78.ntmps [0, 5, 52, 53, 54] (encL _ t) (encO _ u)) = body_checker_branches.go (k + 1) (.s15 t.2.2.1 t.2.2.2.1 t.2.2.2.2.1 u.1.1 u.1.2.1 u.1.2.2.1 u.1.2.2.2.1 u.1.2.2.2.2.1 u.1.2.2.2.2.2.2.2.2.1 u.2.1 u.2.2.2.1 u.2.2.2.2.1 u.2.2.2.2.2.1) := by kernel_rfl
theorem body_checker_branches.run_s15_1 (k : Nat) (t : TyL [.ptr 0 0, .ro 3, .ro 3, .int .i64, .int .i64]) (u : TyO [.box 70 [.ro 27, .ro 27, .ro 44, .bo, .bo, .own 1, .own 4, .own 3, .bo], .row 3, .dead, .row 86, .row 3]) : runF [] body_checker_branches.cf (orcL (body_checker_branches.tab k)) (orcN (body_checker_branches.tab k)) (orcQ (body_checker_branches.qtab k)) Try.f78 (liveS body_checker_branches.stps) 4 (stpJ (body_checker_branches.go k) body_checker_branches.stps) (retD body_checker_branches.rets) (stackAt (bodyOf Try.f78) 15) (mkS 0 Try.f78.ntmps [0, 5, 52, 53, 54] (encL _ t) (encO _ u)) = body_checker_branches.go (k + 1) (.s15_1 t.2.1 t.2.2.1 t.2.2.2.1 t.2.2.2.2.1 u.1.1 u.1.2.1 u.1.2.2.1 u.1.2.2.2.1 u.1.2.2.2.2.1 u.1.2.2.2.2.2.2.2.2.1 u.2.1 u.2.2.2.1 u.2.2.2.2.1) := by kernel_rfl
theorem body_checker_branches.run (k : Nat) (t : TyL body_checker_branches.ash) (u : TyO body_checker_branches.aosh) : runF [] body_checker_branches.cf (orcL (body_checker_branches.tab k)) (orcN (body_checker_branches.tab k)) (orcQ (body_checker_branches.qtab k)) Try.f78 (liveS body_checker_branches.stps) 4 (stpJ (body_checker_branches.go k) body_checker_branches.stps) (retD body_checker_branches.rets) [.code (bodyOf Try.f78)] (mkS 0 Try.f78.ntmps (upto 2) (encL body_checker_branches.ash t) (encO body_checker_branches.aosh u)) = body_checker_branches.f k t.2.1.1 t.2.1.2.1 t.2.1.2.2.1 t.2.1.2.2.2.1 t.2.1.2.2.2.2.1 t.2.1.2.2.2.2.2.1 t.2.1.2.2.2.2.2.2.1 t.2.1.2.2.2.2.2.2.2.1 t.2.1.2.2.2.2.2.2.2.2.1 u.1.1 u.1.2.1 u.1.2.2.1 u.1.2.2.2.1 u.1.2.2.2.2.1 u.1.2.2.2.2.2.2.2.2.1 u.2.1 u.2.2.1 u.2.2.2.1 := by kernel_rfl
theorem body_checker_branches.ok (k : Nat) : FOk Try.prog 78 (body_checker_branches.cps k) := fok (md := 0) (ren := []) (cf := body_checker_branches.cf) (fn := Try.f78) (c := bodyOf Try.f78) (by kernel_rfl) (by kernel_rfl) (by kernel_rfl) (rets := body_checker_branches.rets) (onR := body_checker_branches.onR) (ash := body_checker_branches.ash) (aosh := body_checker_branches.aosh) (F := fun t u => body_checker_branches.f k t.2.1.1 t.2.1.2.1 t.2.1.2.2.1 t.2.1.2.2.2.1 t.2.1.2.2.2.2.1 t.2.1.2.2.2.2.2.1 t.2.1.2.2.2.2.2.2.1 t.2.1.2.2.2.2.2.2.2.1 t.2.1.2.2.2.2.2.2.2.2.1 u.1.1 u.1.2.1 u.1.2.2.1 u.1.2.2.2.1 u.1.2.2.2.2.1 u.1.2.2.2.2.2.2.2.2.1 u.2.1 u.2.2.1 u.2.2.2.1) (stps := body_checker_branches.stps) (go := body_checker_branches.go) (Ok := fun k => orcL (body_checker_branches.tab k)) (Nk := fun k => orcN (body_checker_branches.tab k)) (Qk := fun k => orcQ (body_checker_branches.qtab k))
  (List.forall_mem_cons.2 ⟨fun t u ρ K => rfl, List.forall_mem_nil _⟩) (by kernel_rfl) (by kernel_rfl) k (fun x => by cases x <;> rfl) (List.forall_mem_cons.2 ⟨by kernel_rfl, (List.forall_mem_cons.2 ⟨by kernel_rfl, List.forall_mem_nil _⟩)⟩)
  (List.forall_mem_cons.2 ⟨body_checker_branches.run_s15, (List.forall_mem_cons.2 ⟨body_checker_branches.run_s15_1, List.forall_mem_nil _⟩)⟩) (body_checker_branches.run k) (fun C k' hk' r => orcL_ok r C _ (List.forall_mem_cons.2 ⟨body_checker_kill.ok k', (List.forall_mem_cons.2 ⟨body_checker_label.ok k', (List.forall_mem_cons.2 ⟨body_checker_takes.ok k', (List.forall_mem_cons.2 ⟨body_checker_take.ok k', (List.forall_mem_cons.2 ⟨body_checker_put.ok k', (List.forall_mem_cons.2 ⟨slices_Equal_int_int.ok k', (List.forall_mem_cons.2 ⟨body_checker_must.ok k', List.forall_mem_nil _⟩)⟩)⟩)⟩)⟩)⟩)⟩)) (fun C k' hk' r => orcN_ok r C _ (List.forall_mem_cons.2 ⟨body_checker_kill.ok k', (List.forall_mem_cons.2 ⟨body_checker_label.ok k', (List.forall_mem_cons.2 ⟨body_checker_takes.ok k', (List.forall_mem_cons.2 ⟨body_checker_take.ok k', (List.forall_mem_cons.2 ⟨body_checker_put.ok k', (List.forall_mem_cons.2 ⟨slices_Equal_int_int.ok k', (List.forall_mem_cons.2 ⟨body_checker_must.ok k', List.forall_mem_nil _⟩)⟩)⟩)⟩)⟩)⟩)⟩)) (fun k' hk' => orcQ_ok _ (List.forall_mem_nil _))
/-! ### (*gangway/body.checker).calls -/
def body_checker_calls.onR (ρ : Type) (r : body_checker_calls.R) (K : AV → List Ob → Option ρ) : Option ρ := K (.tup []) [.box 70 [.ro 27 r.a0, .ro 27 r.a1, .ro 44 r.a2, .bo r.a3, .bo r.a4, .own 1, .own 4, .own 3, .bo r.a5], .row 3 r.a6, .dead, .row 86 r.a7, .row 3 r.a8]
def body_checker_calls.rets : List (Ret body_checker_calls.R) := [⟨.tup [], [.box 70 [.ro 27, .ro 27, .ro 44, .bo, .bo, .own 1, .own 4, .own 3, .bo], .row 3, .dead, .row 86, .row 3], fun t u => ⟨u.1.1, u.1.2.1, u.1.2.2.1, u.1.2.2.2.1, u.1.2.2.2.2.1, u.1.2.2.2.2.2.2.2.2.1, u.2.1, u.2.2.2.1, u.2.2.2.2.1⟩⟩]
def body_checker_calls.stps : List (Stp body_checker_calls.L) := []
def body_checker_calls.ash : List Sh := [.ptr 0 0, .agg [.int .i64, .int .i64, .int .i64, .int .i64, .int .i64, .int .i64, .ro 3, .ro 41, .ro 41]]
def body_checker_calls.aosh : List OSh := [.box 70 [.ro 27, .ro 27, .ro 44, .bo, .bo, .own 1, .own 2, .own 3, .bo], .row 3, .row 3, .row 86]
def body_checker_calls.cps (k : Nat) : Cps := cpsOf body_checker_calls.ash body_checker_calls.aosh (fun t u => body_checker_calls.f k t.2.1.1 t.2.1.2.1 t.2.1.2.2.1 t.2.1.2.2.2.1 t.2.1.2.2.2.2.1 t.2.1.2.2.2.2.2.1 t.2.1.2.2.2.2.2.2.1 t.2.1.2.2.2.2.2.2.2.1 t.2.1.2.2.2.2.2.2.2.2.1 u.1.1 u.1.2.1 u.1.2.2.1 u.1.2.2.2.1 u.1.2.2.2.2.1 u.1.2.2.2.2.2.2.2.2.1 u.2.1 u.2.2.1 u.2.2.2.1) body_checker_calls.onR
def body_checker_calls.tab (k : Nat) : List (Nat × Cps × List Bool) := [(50, body_checker_must.cps k, [false, false]), (68, body_checker_take.cps k, [false, false]), (48, body_checker_takes.cps k, [false, false]), (86, body_checker_put.cps k, [false, false])]
def body_checker_calls.qtab (k : Nat) : List QEnt := []
def body_checker_calls.cf : Cfg := ⟨fun f => memB f [], fun f => memB f [], fun i => memB i []⟩
theorem body_checker_calls.run (k : Nat) (t : TyL body_checker_calls.ash) (u : TyO body_checker_calls.aosh) : runF [2] body_checker_calls.cf (orcL (body_checker_calls.tab k)) (orcN (body_checker_calls.tab k)) (orcQ (body_checker_calls.qtab k)) Try.f79 (liveS body_checker_calls.stps) 4 (stpJ (body_checker_calls.go k) body_checker_calls.stps) (retD body_checker_calls.rets) [.code (bodyOf Try.f79)] (mkS 0 Try.f79.ntmps (upto 2) (encL body_checker_calls.ash t) (encO body_checker_calls.aosh u)) = body_checker_calls.f k t.2.1.1 t.2.1.2.1 t.2.1.2.2.1 t.2.1.2.2.2.1 t.2.1.2.2.2.2.1 t.2.1.2.2.2.2.2.1 t.2.1.2.2.2.2.2.2.1 t.2.1.2.2.2.2.2.2.2.1 t.2.1.2.2.2.2.2.2.2.2.1 u.1.1 u.1.2.1 u.1.2.2.1 u.1.2.2.2.1 u.1.2.2.2.2.1 u.1.2.2.2.2.2.2.2.2.1 u.2.1 u.2.2.1 u.2.2.2.1 := by kernel_rfl
theorem body_checker_calls.ok (k : Nat) : FOk Try.prog 79 (body_checker_calls.cps k) := fok (md := 0) (ren := [2]) (cf := body_checker_calls.cf) (fn := Try.f79) (c := bodyOf Try.f79) (by kernel_rfl) (by kernel_rfl) (by kernel_rfl) (rets := body_checker_calls.rets) (onR := body_checker_calls.onR) (ash := body_checker_calls.ash) (aosh := body_checker_calls.aosh) (F := fun t u => body_checker_calls.f k t.2.1.1 t.2.1.2.1 t.2.1.2.2.1 t.2.1.2.2.2.1 t.2.1.2.2.2.2.1 t.2.1.2.2.2.2.2.1 t.2.1.2.2.2.2.2.2.1 t.2.1.2.2.2.2.2.2.2.1 t.2.1.2.2.2.2.2.2.2.2.1 u.1.1 u.1.2.1 u.1.2.2.1 u.1.2.2.2.1 u.1.2.2.2.2.1 u.1.2.2.2.2.2.2.2.2.1 u.2.1 u.2.2.1 u.2.2.2.1) (stps := body_checker_calls.stps) (go := body_checker_calls.go) (Ok := fun k => orcL (body_checker_calls.tab k)) (Nk := fun k => orcN (body_checker_calls.tab k)) (Qk := fun k => orcQ (body_checker_calls.qtab k))
  (List.forall_mem_cons.2 ⟨fun t u ρ K => rfl, List.forall_mem_nil _⟩) (by kernel_rfl) (by kernel_rfl) k (fun x => by cases x <;> rfl) (List.forall_mem_nil _)
  (List.forall_mem_nil _) (body_checker_calls.run k) (fun C k' hk' r => orcL_ok r C _ (List.forall_mem_cons.2 ⟨body_checker_must.ok k', (List.forall_mem_cons.2 ⟨body_checker_take.ok k', (List.forall_mem_cons.2 ⟨body_checker_takes.ok k', (List.forall_mem_cons.2 ⟨body_checker_put.ok k', List.forall_mem_nil _⟩)⟩)⟩)⟩)) (fun C k' hk' r => orcN_ok r C _ (List.forall_mem_cons.2 ⟨body_checker_must.ok k', (List.forall_mem_cons.2 ⟨body_checker_take.ok k', (List.forall_mem_cons.2 ⟨body_checker_takes.ok k', (List.forall_mem_cons.2 ⟨body_checker_put.ok k', List.forall_mem_nil _⟩)⟩)⟩)⟩)) (fun k' hk' => orcQ_ok _ (List.forall_mem_nil _))
/-! ### (*gangway/body.checker).picks -/
def body_checker_picks.onR (ρ : Type) (r : body_checker_picks.R) (K : AV → List Ob → Option ρ) : Option ρ := K (.tup []) [.box 70 [.ro 27 r.a0, .ro 27 r.a1, .ro 44 r.a2, .bo r.a3, .bo r.a4, .own 1, .own 4, .own 3, .bo r.a5], .row 3 r.a6, .dead, .row 86 r.a7, .row 3 r.a8]
def body_checker_picks.rets : List (Ret body_checker_picks.R) := [⟨.tup [], [.box 70 [.ro 27, .ro 27, .ro 44, .bo, .bo, .own 1, .own 4, .own 3, .bo], .row 3, .dead, .row 86, .row 3], fun t u => ⟨u.1.1, u.1.2.1, u.1.2.2.1, u.1.2.2.2.1, u.1.2.2.2.2.1, u.1.2.2.2.2.2.2.2.2.1, u.2.1, u.2.2.2.1, u.2.2.2.2.1⟩⟩]
def body_checker_picks.stps : List (Stp body_checker_picks.L) := []
def body_checker_picks.ash : List Sh := [.ptr 0 0, .agg [.int .i64, .int .i64, .int .i64, .int .i64, .int .i64, .int .i64, .ro 3, .ro 41, .ro 41]]
def body_checker_picks.aosh : List OSh := [.box 70 [.ro 27, .ro 27, .ro 44, .bo, .bo, .own 1, .own 2, .own 3, .bo], .row 3, .row 3, .row 86]
def body_checker_picks.cps (k : Nat) : Cps := cpsOf body_checker_picks.ash body_checker_picks.aosh (fun t u => body_checker_picks.f k t.2.1.1 t.2.1.2.1 t.2.1.2.2.1 t.2.1.2.2.2.1 t.2.1.2.2.2.2.1 t.2.1.2.2.2.2.2.1 t.2.1.2.2.2.2.2.2.1 t.2.1.2.2.2.2.2.2.2.1 t.2.1.2.2.2.2.2.2.2.2.1 u.1.1 u.1.2.1 u.1.2.2.1 u.1.2.2.2.1 u.1.2.2.2.2.1 u.1.2.2.2.2.2.2.2.2.1 u.2.1 u.2.2.1 u.2.2.2.1) body_checker_picks.onR
def body_checker_picks.tab (k : Nat) : List (Nat × Cps × List Bool) := [(84, body_checker_any.cps k, [false]), (68, body_checker_take.cps k, [false, false]), (50, body_checker_must.cps k, [false, false]), (86, body_checker_put.cps k, [false, false])]
def body_checker_picks.qtab (k : Nat) : List QEnt := []
def body_checker_picks.cf : Cfg := ⟨fun f => memB f [], fun f => memB f [], fun i => memB i []⟩
theorem body_checker_picks.run (k : Nat) (t : TyL body_checker_picks.ash) (u : TyO body_checker_picks.aosh) : runF [] body_checker_picks.cf (orcL (body_checker_picks.tab k)) (orcN (body_checker_picks.tab k)) (orcQ (body_checker_picks.qtab k)) Try.f80 (liveS body_checker_picks.stps) 4 (stpJ (body_checker_picks.go k) body_checker_picks.stps) (retD body_checker_picks.rets) [.code (bodyOf Try.f80)] (mkS 0 Try.f80.ntmps (upto 2) (encL body_checker_picks.ash t) (encO body_checker_picks.aosh u)) = body_checker_picks.f k t.2.1.1 t.2.1.2.1 t.2.1.2.2.1 t.2.1.2.2.2.1 t.2.1.2.2.2.2.1 t.2.1.2.2.2.2.2.1 t.2.1.2.2.2.2.2.2.1 t.2.1.2.2.2.2.2.2.2.1 t.2.1.2.2.2.2.2.2.2.2.1 u.1.1 u.1.2.1 u.1.2.2.1 u.1.2.2.2.1 u.1.2.2.2.2.1 u.1.2.2.2.2.2.2.2.2.1 u.2.1 u.2.2.1 u.2.2.2.1 := by kernel_rfl
theorem body_checker_picks.ok (k : Nat) : FOk Try.prog 80 (body_checker_picks.cps k) := fok (md := 0) (ren := []) (cf := body_checker_picks.cf) (fn := Try.f80) (c := bodyOf Try.f80) (by kernel_rfl) (by kernel_rfl) (by kernel_rfl) (rets := body_checker_picks.rets) (onR := body_checker_picks.onR) (ash := body_checker_picks.ash) (aosh := body_checker_picks.aosh) (F := fun t u => body_checker_picks.f k t.2.1.1 t.2.1.2.1 t.2.1.2.2.1 t.2.1.2.2.2.1 t.2.1.2.2.2.2.1 t.2.1.2.2.2.2.2.1 t.2.1.2.2.2.2.2.2.1 t.2.1.2.2.2.2.2.2.2.1 t.2.1.2.2.2.2.2.2.2.2.1 u.1.1 u.1.2.1 u.1.2.2.1 u.1.2.2.2.1 u.1.2.2.2.2.1 u.1.2.2.2.2.2.2.2.2.1 u.2.1 u.2.2.1 u.2.2.2.1) (stps := body_checker_picks.stps) (go := body_checker_picks.go) (Ok := fun k => orcL (body_checker_picks.tab k)) (Nk := fun k => orcN (body_checker_picks.tab k)) (Qk := fun k => orcQ (body_checker_picks.qtab k))
  (List.forall_mem_cons.2 ⟨fun t u ρ K => rfl, List.forall_mem_nil _⟩) (by kernel_rfl) (by kernel_rfl) k (fun x => by cases x <;> rfl) (List.forall_mem_nil _)
  (List.forall_mem_nil _) (body_checker_picks.run k) (fun C k' hk' r => orcL_ok r C _ (List.forall_mem_cons.2 ⟨body_checker_any.ok k', (List.forall_mem_cons.2 ⟨body_checker_take.ok k', (List.forall_mem_cons.2 ⟨body_checker_must.ok k', (List.forall_mem_cons.2 ⟨body_checker_put.ok k', List.forall_mem_nil _⟩)⟩)⟩)⟩)) (fun C k' hk' r => orcN_ok r C _ (List.forall_mem_cons.2 ⟨body_checker_any.ok k', (List.forall_mem_cons.2 ⟨body_checker_take.ok k', (List.forall_mem_cons.2 ⟨body_checker_must.ok k', (List.forall_mem_cons.2 ⟨body_checker_put.ok k', List.forall_mem_nil _⟩)⟩)⟩)⟩)) (fun k' hk' => orcQ_ok _ (List.forall_mem_nil _))
/-! ### (*gangway/body.checker).places -/
def body_checker_places.onR (ρ : Type) (r : body_checker_places.R) (K : AV → List Ob → Option ρ) : Option ρ := K (.tup []) [.box 70 [.ro 27 r.a0, .ro 27 r.a1, .ro 44 r.a2, .bo r.a3, .bo r.a4, .own 1, .own 4, .own 3, .bo r.a5], .row 3 r.a6, .dead, .row 86 r.a7, .row 3 r.a8]
def body_checker_places.rets : List (Ret body_checker_places.R) := [⟨.tup [], [.box 70 [.ro 27, .ro 27, .ro 44, .bo, .bo, .own 1, .own 4, .own 3, .bo], .row 3, .dead, .row 86, .row 3], fun t u => ⟨u.1.1, u.1.2.1, u.1.2.2.1, u.1.2.2.2.1, u.1.2.2.2.2.1, u.1.2.2.2.2.2.2.2.2.1, u.2.1, u.2.2.2.1, u.2.2.2.2.1⟩⟩]
def body_checker_places.stps : List (Stp body_checker_places.L) := [⟨8, [0, 3, 4], [.ptr 0 0, .ptr 5 0, .int .i64], [.box 70 [.ro 27, .ro 27, .ro 44, .bo, .bo, .own 1, .own 4, .own 3, .bo], .row 3, .dead, .row 86, .row 3, .box 41 [.int .i64, .int .i64, .int .i64, .int .i64, .int .i64, .int .i64, .ro 3, .ro 41, .ro 41]], fun t u => .s8 t.2.2.1 u.1.1 u.1.2.1 u.1.2.2.1 u.1.2.2.2.1 u.1.2.2.2.2.1 u.1.2.2.2.2.2.2.2.2.1 u.2.1 u.2.2.2.1 u.2.2.2.2.1 u.2.2.2.2.2.1.1 u.2.2.2.2.2.1.2.1 u.2.2.2.2.2.1.2.2.1 u.2.2.2.2.2.1.2.2.2.1 u.2.2.2.2.2.1.2.2.2.2.1 u.2.2.2.2.2.1.2.2.2.2.2.1 u.2.2.2.2.2.1.2.2.2.2.2.2.1 u.2.2.2.2.2.1.2.2.2.2.2.2.2.1 u.2.2.2.2.2.1.2.2.2.2.2.2.2.2.1⟩]
def body_checker_places.ash : List Sh := [.ptr 0 0, .agg [.int .i64, .int .i64, .int .i64, .int .i64, .int .i64, .int .i64, .ro 3, .ro 41, .ro 41]]
def body_checker_places.aosh : List OSh := [.box 70 [.ro 27, .ro 27, .ro 44, .bo, .bo, .own 1, .own 2, .own 3, .bo], .row 3, .row 3, .row 86]
def body_checker_places.cps (k : Nat) : Cps := cpsOf body_checker_places.ash body_checker_places.aosh (fun t u => body_checker_places.f k t.2.1.1 t.2.1.2.1 t.2.1.2.2.1 t.2.1.2.2.2.1 t.2.1.2.2.2.2.1 t.2.1.2.2.2.2.2.1 t.2.1.2.2.2.2.2.2.1 t.2.1.2.2.2.2.2.2.2.1 t.2.1.2.2.2.2.2.2.2.2.1 u.1.1 u.1.2.1 u.1.2.2.1 u.1.2.2.2.1 u.1.2.2.2.2.1 u.1.2.2.2.2.2.2.2.2.1 u.2.1 u.2.2.1 u.2.2.2.1) body_checker_places.onR
def body_checker_places.tab (k : Nat) : List (Nat × Cps × List Bool) := [(50, body_checker_must.cps k, [false, false]), (86, body_checker_put.cps k, [false, false]), (68, body_checker_take.cps k, [false, false])]
def body_checker_places.qtab (k : Nat) : List QEnt := []
def body_checker_places.cf : Cfg := ⟨fun f => memB f [], fun f => memB f [], fun i => memB i []⟩
theorem body_checker_places.run_s8 (k : Nat) (t : TyL [.ptr 0 0, .ptr 5 0, .int .i64]) (u : TyO [.box 70 [.ro 27, .ro 27, .ro 44, .bo, .bo, .own 1, .own 4, .own 3, .bo], .row 3, .dead, .row 86, .row 3, .box 41 [.int .i64, .int .i64, .int .i64, .int .i64, .int .i64, .int .i64, .ro 3, .ro 41, .ro 41]]) : runF [2] body_checker_places.cf (orcL (body_checker_places.tab k)) (orcN (body_checker_places.tab k)) (orcQ (body_checker_places.qtab k)) Try.f81 (liveS body_checker_places.stps) 4 (stpJ (body_checker_places.go k) body_checker_places.stps) (retD body_checker_places.rets) (stackAt (bodyOf Try.f81) 8) (mkS 0 Try.f81.ntmps [0, 3, 4] (encL _ t) (encO _ u)) = body_checker_places.go (k + 1) (.s8 t.2.2.1 u.1.1 u.1.2.1 u.1.2.2.1 u.1.2.2.2.1 u.1.2.2.2.2.1 u.1.2.2.2.2.2.2.2.2.1 u.2.1 u.2.2.2.1 u.2.2.2.2.1 u.2.2.2.2.2.1.1 u.2.2.2.2.2.1.2.1 u.2.2.2.2.2.1.2.2.1 u.2.2.2.2.2.1.2.2.2.1 u.2.2.2.2.2.1.2.2.2.2.1 u.2.2.2.2.2.1.2.2.2.2.2.1 u.2.2.2.2.2.1.2.2.2.2.2.2.1 u.2.2.2.2.2.1.2.2.2.2.2.2.2.1 u.2.2.2.2.2.1.2.2.2.2.2.2.2.2.1) := by kernel_rfl
theorem body_checker_places.run (k : Nat) (t : TyL body_checker_places.ash) (u : TyO body_checker_places.aosh) : runF [2] body_checker_places.cf (orcL (body_checker_places.tab k)) (orcN (body_checker_places.tab k)) (orcQ (body_checker_places.qtab k)) Try.f81 (liveS body_checker_places.stps) 4 (stpJ (body_checker_places.go k) body_checker_places.stps) (retD body_checker_places.rets) [.code (bodyOf Try.f81)] (mkS 0 Try.f81.ntmps (upto 2) (encL body_checker_places.ash t) (encO body_checker_places.aosh u)) = body_checker_places.f k t.2.1.1 t.2.1.2.1 t.2.1.2.2.1 t.2.1.2.2.2.1 t.2.1.2.2.2.2.1 t.2.1.2.2.2.2.2.1 t.2.1.2.2.2.2.2.2.1 t.2.1.2.2.2.2.2.2.2.1 t.2.1.2.2.2.2.2.2.2.2.1 u.1.1 u.1.2.1 u.1.2.2.1 u.1.2.2.2.1 u.1.2.2.2.2.1 u.1.2.2.2.2.2.2.2.2.1 u.2.1 u.2.2.1 u.2.2.2.1 := by kernel_rfl
theorem body_checker_places.ok (k : Nat) : FOk Try.prog 81 (body_checker_places.cps k) := fok (md := 0) (ren := [2]) (cf := body_checker_places.cf) (fn := Try.f81) (c := bodyOf Try.f81) (by kernel_rfl) (by kernel_rfl) (by kernel_rfl) (rets := body_checker_places.rets) (onR := body_checker_places.onR) (ash := body_checker_places.ash) (aosh := body_checker_places.aosh) (F := fun t u => body_checker_places.f k t.2.1.1 t.2.1.2.1 t.2.1.2.2.1 t.2.1.2.2.2.1 t.2.1.2.2.2.2.1 t.2.1.2.2.2.2.2.1 t.2.1.2.2.2.2.2.2.1 t.2.1.2.2.2.2.2.2.2.1 t.2.1.2.2.2.2.2.2.2.2.1 u.1.1 u.1.2.1 u.1.2.2.1 u.1.2.2.2.1 u.1.2.2.2.2.1 u.1.2.2.2.2.2.2.2.2.1 u.2.1 u.2.2.1 u.2.2.2.1) (stps := body_checker_places.stps) (go := body_checker_places.go) (Ok := fun k => orcL (body_checker_places.tab k)) (Nk := fun k => orcN (body_checker_places.tab k)) (Qk := fun k => orcQ (body_checker_places.qtab k))
  (List.forall_mem_cons.2 ⟨fun t u ρ K => rfl, List.forall_mem_nil _⟩) (by kernel_rfl) (by kernel_rfl) k (fun x => by cases x <;> rfl) (List.forall_mem_cons.2 ⟨by kernel_rfl, List.forall_mem_nil _⟩)
  (List.forall_mem_cons.2 ⟨body_checker_places.run_s8, List.forall_mem_nil _⟩) (body_checker_places.run k) (fun C k' hk' r => orcL_ok r C _ (List.forall_mem_cons.2 ⟨body_checker_must.ok k', (List.forall_mem_cons.2 ⟨body_checker_put.ok k', (List.forall_mem_cons.2 ⟨body_checker_take.ok k', List.forall_mem_nil _⟩)⟩)⟩)) (fun C k' hk' r => orcN_ok r C _ (List.forall_mem_cons.2 ⟨body_checker_must.ok k', (List.forall_mem_cons.2 ⟨body_checker_put.ok k', (List.forall_mem_cons.2 ⟨body_checker_take.ok k', List.forall_mem_nil _⟩)⟩)⟩)) (fun k' hk' => orcQ_ok _ (List.forall_mem_nil _))
/-! ### gangway/body.accesses -/
def body_accesses.onR (ρ : Type) (r : body_accesses.R) (K : AV → List Ob → Option ρ) : Option ρ := K (.mp 0) [.map 110 3 109 r]
def body_accesses.rets : List (Ret body_accesses.R) := [⟨.mp 0, [.map 110 3 109], fun t u => u.1⟩]
def body_accesses.stps : List (Stp body_accesses.L) := []
def body_accesses.ash : List Sh := []
def body_accesses.aosh : List OSh := []
def body_accesses.cps (k : Nat) : Cps := cpsOf body_accesses.ash body_accesses.aosh (fun t u => body_accesses.f k) body_accesses.onR
def body_accesses.tab (k : Nat) : List (Nat × Cps × List Bool) := []
def body_accesses.qtab (k : Nat) : List QEnt := []
def body_accesses.cf : Cfg := ⟨fun f => memB f [], fun f => memB f [], fun i => memB i []⟩
theorem body_accesses.run (k : Nat) (t : TyL body_accesses.ash) (u : TyO body_accesses.aosh) : runF [] body_accesses.cf (orcL (body_accesses.tab k)) (orcN (body_accesses.tab k)) (orcQ (body_accesses.qtab k)) Try.f90 (liveS body_accesses.stps) 0 (stpJ (body_accesses.go k) body_accesses.stps) (retD body_accesses.rets) [.code (bodyOf Try.f90)] (mkS 0 Try.f90.ntmps (upto 0) (encL body_accesses.ash t) (encO body_accesses.aosh u)) = body_accesses.f k := by kernel_rfl
theorem body_accesses.ok (k : Nat) : FOk Try.prog 90 (body_accesses.cps k) := fok (md := 0) (ren := []) (cf := body_accesses.cf) (fn := Try.f90) (c := bodyOf Try.f90) (by kernel_rfl) (by kernel_rfl) (by kernel_rfl) (rets := body_accesses.rets) (onR := body_accesses.onR) (ash := body_accesses.ash) (aosh := body_accesses.aosh) (F := fun t u => body_accesses.f k) (stps := body_accesses.stps) (go := body_accesses.go) (Ok := fun k => orcL (body_accesses.tab k)) (Nk := fun k => orcN (body_accesses.tab k)) (Qk := fun k => orcQ (body_accesses.qtab k))
  (List.forall_mem_cons.2 ⟨fun t u ρ K => rfl, List.forall_mem_nil _⟩) (by kernel_rfl) (by kernel_rfl) k (fun x => by cases x <;> rfl) (List.forall_mem_nil _)
  (List.forall_mem_nil _) (body_accesses.run k) (fun C k' hk' r => orcL_ok r C _ (List.forall_mem_nil _)) (fun C k' hk' r => orcN_ok r C _ (List.forall_mem_nil _)) (fun k' hk' => orcQ_ok _ (List.forall_mem_nil _))
end
end Go.Proofs.Ytnlnjcgoodgmbaa.Den
