import Derived.Test.YtnlnjcgoodgmbaaF2
import Derived.KernelRfl
set_option maxRecDepth 1000000
namespace Go.Proofs.Ytnlnjcgoodgmbaa.Den
open Go Go.Proofs.YtnlnjcgoodgmbaaM
abbrev funcs_ : List api_FuncType := [⟨[127, 126], [126]⟩]
abbrev types_ : List api_FuncType := [⟨[126], []⟩]
abbrev globals_ : List api_Global := [⟨126, true, ⟨0, 0, 0, 0, 0, 0, [], [], []⟩⟩, ⟨127, false, ⟨0, 0, 0, 0, 0, 0, [], [], []⟩⟩]
abbrev c_ (n : Int) : api_Instr := ⟨n, 0, 0, 0, 0, 0, [], [], []⟩
abbrev d_ (n t : Int) : api_Instr := ⟨n, t, 0, 0, 0, 0, [], [], []⟩
def stacks_ : List (List api_Instr) := [[], [c_ 65], [c_ 66], [c_ 65, c_ 65], [c_ 66, c_ 65], [c_ 65, c_ 66], [c_ 66, c_ 66], [c_ 65, c_ 65, c_ 65], [c_ 66, c_ 65, c_ 65], [c_ 65, c_ 66, c_ 65], [c_ 66, c_ 66, c_ 65], [c_ 65, c_ 65, c_ 66], [c_ 66, c_ 65, c_ 66], [c_ 65, c_ 66, c_ 66], [c_ 66, c_ 66, c_ 66]]
def res_ : List (List Int) := [[], [127], [126]]
def chk_ (k : Nat) (r : List Int) (s : List api_Instr) : Bool := match body_Check.f (k + 60) funcs_ types_ globals_ true true [] r [127, 126] s, gangwayref7_Body.f (k + 60) funcs_ types_ globals_ true true [] r [127, 126] s with
  | some e, some b => decide (e = 0) == b
  | _, _ => false
def op_ (k : Nat) (x : api_Instr) : Bool := stacks_.all fun s => res_.all fun r => chk_ k r (s ++ [x])
theorem chk_some {k : Nat} {r : List Int} {s : List api_Instr} (h : chk_ k r s = true) : ∃ e b, body_Check.f (k + 60) funcs_ types_ globals_ true true [] r [127, 126] s = some e ∧ gangwayref7_Body.f (k + 60) funcs_ types_ globals_ true true [] r [127, 126] s = some b ∧ (decide (e = 0) == b) = true := by
  unfold chk_ at h
  split at h
  · rename_i e b h1 h2
    exact ⟨e, b, h1, h2, h⟩
  · cases h
abbrev g_ := gangwaylaw8_BodyOps.go
abbrev s4_ (x0 : List gangwaylaw8_Ask) (op : Int) : gangwaylaw8_BodyOps.L := .s4 x0 [127, 126] op true true funcs_ types_ globals_
abbrev s11_ (x0 : List gangwaylaw8_Ask) (op j t : Int) : gangwaylaw8_BodyOps.L := .s11 x0 [127, 126] op j true true funcs_ types_ globals_ op t 0 0 0 0 [] [] []
abbrev s15_ (x0 : List gangwaylaw8_Ask) (op j t n : Int) (s : List api_Instr) : gangwaylaw8_BodyOps.L := .s15 x0 [127, 126] op j n true true funcs_ types_ globals_ op t 0 0 0 0 [] [] [] s
abbrev s20_ (x0 : List gangwaylaw8_Ask) (op j t n : Int) (s : List api_Instr) : gangwaylaw8_BodyOps.L := .s20 x0 [127, 126] op j n true true funcs_ types_ globals_ op t 0 0 0 0 [] [] [] s
def R_ (f : Nat) (a b : gangwaylaw8_BodyOps.L) : Prop := ∀ k, g_ (k + 60 + f) a = g_ (k + 60) b
theorem R_.trans {f h : Nat} {a b c : gangwaylaw8_BodyOps.L} (h1 : R_ f a b) (h2 : R_ h b c) : R_ (h + f) a c := fun k => by
  have e1 := h1 (k + h)
  have e2 := h2 k
  rw [show k + 60 + (h + f) = k + h + 60 + f by omega, e1, show k + h + 60 = k + 60 + h by omega, e2]
theorem step20 (x0 : List gangwaylaw8_Ask) (op j t i : Int) (s : List api_Instr) (r : List Int) (hs : ∀ n, g_ (n + 1) (s20_ x0 op j t i s) = ((body_Check.f n funcs_ types_ globals_ true true [] r [127, 126] s).bind fun r7 => (gangwaylaw8_num.f n r7).bind fun r8 => (gangwayref7_Body.f n funcs_ types_ globals_ true true [] r [127, 126] s).bind fun r9 => if (!((decide (r8 = (0 : Int))) == r9)) = true then some false else g_ n (s20_ x0 op j t (IntKind.i64.wrap (i + 1)) s))) (h : ∀ k, chk_ k r s = true) : R_ 1 (s20_ x0 op j t i s) (s20_ x0 op j t (IntKind.i64.wrap (i + 1)) s) := fun k => by
  obtain ⟨e, b, h1, h2, h3⟩ := chk_some (h k)
  rw [hs, h1, h2]
  show (if (!((decide (e = (0 : Int))) == b)) = true then some false else _) = _
  rw [if_neg (by rw [h3]; decide)]
theorem s20_a (x0 : List gangwaylaw8_Ask) (op j t : Int) (s : List api_Instr) (h : ∀ k, chk_ k [] s = true) : R_ 1 (s20_ x0 op j t 0 s) (s20_ x0 op j t 1 s) := step20 x0 op j t 0 s [] (fun n => by kernel_rfl) h
theorem s20_b (x0 : List gangwaylaw8_Ask) (op j t : Int) (s : List api_Instr) (h : ∀ k, chk_ k [127] s = true) : R_ 1 (s20_ x0 op j t 1 s) (s20_ x0 op j t 2 s) := step20 x0 op j t 1 s [127] (fun n => by kernel_rfl) h
theorem s20_c (x0 : List gangwaylaw8_Ask) (op j t : Int) (s : List api_Instr) (h : ∀ k, chk_ k [126] s = true) : R_ 1 (s20_ x0 op j t 2 s) (s20_ x0 op j t 3 s) := step20 x0 op j t 2 s [126] (fun n => by kernel_rfl) h
theorem g20_d (n : Nat) (x0 : List gangwaylaw8_Ask) (op j t : Int) (s : List api_Instr) : g_ (n + 1) (s20_ x0 op j t 3 s) = g_ n (s11_ x0 op (IntKind.i64.wrap (j + 1)) t) := by kernel_rfl
theorem s20_all (x0 : List gangwaylaw8_Ask) (op j t : Int) (s : List api_Instr) (h : ∀ k, res_.all (fun r => chk_ k r s) = true) : R_ 4 (s20_ x0 op j t 0 s) (s11_ x0 op (IntKind.i64.wrap (j + 1)) t) := by
  have hh : ∀ r ∈ res_, ∀ k, chk_ k r s = true := fun r hr k => List.all_eq_true.1 (h k) r hr
  exact ((s20_a x0 op j t s (hh _ (by simp [res_]))).trans (s20_b x0 op j t s (hh _ (by simp [res_])))).trans ((s20_c x0 op j t s (hh _ (by simp [res_]))).trans (fun k => g20_d (k + 60) x0 op j t s))
theorem g15_0 (n : Nat) (x0 : List gangwaylaw8_Ask) (op t : Int) : g_ (n + 2) (s11_ x0 op 0 t) = g_ n (s20_ x0 op 0 t 0 ([] ++ [d_ op t])) := by kernel_rfl
theorem s11_0 (x0 : List gangwaylaw8_Ask) (op t : Int) (h : ∀ k, op_ k (d_ op t) = true) : R_ (4 + 2) (s11_ x0 op 0 t) (s11_ x0 op 1 t) := R_.trans (b := s20_ x0 op 0 t 0 ([] ++ [d_ op t])) (fun k => g15_0 (k + 60) x0 op t) (s20_all x0 op 0 t _ (fun k => List.all_eq_true.1 (h k) _ (by simp [stacks_])))
theorem g15_1 (n : Nat) (x0 : List gangwaylaw8_Ask) (op t : Int) : g_ (n + 3) (s11_ x0 op 1 t) = g_ n (s20_ x0 op 1 t 0 ([c_ 65] ++ [d_ op t])) := by kernel_rfl
theorem s11_1 (x0 : List gangwaylaw8_Ask) (op t : Int) (h : ∀ k, op_ k (d_ op t) = true) : R_ (4 + 3) (s11_ x0 op 1 t) (s11_ x0 op 2 t) := R_.trans (b := s20_ x0 op 1 t 0 ([c_ 65] ++ [d_ op t])) (fun k => g15_1 (k + 60) x0 op t) (s20_all x0 op 1 t _ (fun k => List.all_eq_true.1 (h k) _ (by simp [stacks_])))
theorem g15_2 (n : Nat) (x0 : List gangwaylaw8_Ask) (op t : Int) : g_ (n + 3) (s11_ x0 op 2 t) = g_ n (s20_ x0 op 2 t 0 ([c_ 66] ++ [d_ op t])) := by kernel_rfl
theorem s11_2 (x0 : List gangwaylaw8_Ask) (op t : Int) (h : ∀ k, op_ k (d_ op t) = true) : R_ (4 + 3) (s11_ x0 op 2 t) (s11_ x0 op 3 t) := R_.trans (b := s20_ x0 op 2 t 0 ([c_ 66] ++ [d_ op t])) (fun k => g15_2 (k + 60) x0 op t) (s20_all x0 op 2 t _ (fun k => List.all_eq_true.1 (h k) _ (by simp [stacks_])))
theorem g15_3 (n : Nat) (x0 : List gangwaylaw8_Ask) (op t : Int) : g_ (n + 4) (s11_ x0 op 3 t) = g_ n (s20_ x0 op 3 t 0 ([c_ 65, c_ 65] ++ [d_ op t])) := by kernel_rfl
theorem s11_3 (x0 : List gangwaylaw8_Ask) (op t : Int) (h : ∀ k, op_ k (d_ op t) = true) : R_ (4 + 4) (s11_ x0 op 3 t) (s11_ x0 op 4 t) := R_.trans (b := s20_ x0 op 3 t 0 ([c_ 65, c_ 65] ++ [d_ op t])) (fun k => g15_3 (k + 60) x0 op t) (s20_all x0 op 3 t _ (fun k => List.all_eq_true.1 (h k) _ (by simp [stacks_])))
theorem g15_4 (n : Nat) (x0 : List gangwaylaw8_Ask) (op t : Int) : g_ (n + 4) (s11_ x0 op 4 t) = g_ n (s20_ x0 op 4 t 0 ([c_ 66, c_ 65] ++ [d_ op t])) := by kernel_rfl
theorem s11_4 (x0 : List gangwaylaw8_Ask) (op t : Int) (h : ∀ k, op_ k (d_ op t) = true) : R_ (4 + 4) (s11_ x0 op 4 t) (s11_ x0 op 5 t) := R_.trans (b := s20_ x0 op 4 t 0 ([c_ 66, c_ 65] ++ [d_ op t])) (fun k => g15_4 (k + 60) x0 op t) (s20_all x0 op 4 t _ (fun k => List.all_eq_true.1 (h k) _ (by simp [stacks_])))
theorem g15_5 (n : Nat) (x0 : List gangwaylaw8_Ask) (op t : Int) : g_ (n + 4) (s11_ x0 op 5 t) = g_ n (s20_ x0 op 5 t 0 ([c_ 65, c_ 66] ++ [d_ op t])) := by kernel_rfl
theorem s11_5 (x0 : List gangwaylaw8_Ask) (op t : Int) (h : ∀ k, op_ k (d_ op t) = true) : R_ (4 + 4) (s11_ x0 op 5 t) (s11_ x0 op 6 t) := R_.trans (b := s20_ x0 op 5 t 0 ([c_ 65, c_ 66] ++ [d_ op t])) (fun k => g15_5 (k + 60) x0 op t) (s20_all x0 op 5 t _ (fun k => List.all_eq_true.1 (h k) _ (by simp [stacks_])))
theorem g15_6 (n : Nat) (x0 : List gangwaylaw8_Ask) (op t : Int) : g_ (n + 4) (s11_ x0 op 6 t) = g_ n (s20_ x0 op 6 t 0 ([c_ 66, c_ 66] ++ [d_ op t])) := by kernel_rfl
theorem s11_6 (x0 : List gangwaylaw8_Ask) (op t : Int) (h : ∀ k, op_ k (d_ op t) = true) : R_ (4 + 4) (s11_ x0 op 6 t) (s11_ x0 op 7 t) := R_.trans (b := s20_ x0 op 6 t 0 ([c_ 66, c_ 66] ++ [d_ op t])) (fun k => g15_6 (k + 60) x0 op t) (s20_all x0 op 6 t _ (fun k => List.all_eq_true.1 (h k) _ (by simp [stacks_])))
theorem g15_7 (n : Nat) (x0 : List gangwaylaw8_Ask) (op t : Int) : g_ (n + 5) (s11_ x0 op 7 t) = g_ n (s20_ x0 op 7 t 0 ([c_ 65, c_ 65, c_ 65] ++ [d_ op t])) := by kernel_rfl
theorem s11_7 (x0 : List gangwaylaw8_Ask) (op t : Int) (h : ∀ k, op_ k (d_ op t) = true) : R_ (4 + 5) (s11_ x0 op 7 t) (s11_ x0 op 8 t) := R_.trans (b := s20_ x0 op 7 t 0 ([c_ 65, c_ 65, c_ 65] ++ [d_ op t])) (fun k => g15_7 (k + 60) x0 op t) (s20_all x0 op 7 t _ (fun k => List.all_eq_true.1 (h k) _ (by simp [stacks_])))
theorem g15_8 (n : Nat) (x0 : List gangwaylaw8_Ask) (op t : Int) : g_ (n + 5) (s11_ x0 op 8 t) = g_ n (s20_ x0 op 8 t 0 ([c_ 66, c_ 65, c_ 65] ++ [d_ op t])) := by kernel_rfl
theorem s11_8 (x0 : List gangwaylaw8_Ask) (op t : Int) (h : ∀ k, op_ k (d_ op t) = true) : R_ (4 + 5) (s11_ x0 op 8 t) (s11_ x0 op 9 t) := R_.trans (b := s20_ x0 op 8 t 0 ([c_ 66, c_ 65, c_ 65] ++ [d_ op t])) (fun k => g15_8 (k + 60) x0 op t) (s20_all x0 op 8 t _ (fun k => List.all_eq_true.1 (h k) _ (by simp [stacks_])))
theorem g15_9 (n : Nat) (x0 : List gangwaylaw8_Ask) (op t : Int) : g_ (n + 5) (s11_ x0 op 9 t) = g_ n (s20_ x0 op 9 t 0 ([c_ 65, c_ 66, c_ 65] ++ [d_ op t])) := by kernel_rfl
theorem s11_9 (x0 : List gangwaylaw8_Ask) (op t : Int) (h : ∀ k, op_ k (d_ op t) = true) : R_ (4 + 5) (s11_ x0 op 9 t) (s11_ x0 op 10 t) := R_.trans (b := s20_ x0 op 9 t 0 ([c_ 65, c_ 66, c_ 65] ++ [d_ op t])) (fun k => g15_9 (k + 60) x0 op t) (s20_all x0 op 9 t _ (fun k => List.all_eq_true.1 (h k) _ (by simp [stacks_])))
theorem g15_10 (n : Nat) (x0 : List gangwaylaw8_Ask) (op t : Int) : g_ (n + 5) (s11_ x0 op 10 t) = g_ n (s20_ x0 op 10 t 0 ([c_ 66, c_ 66, c_ 65] ++ [d_ op t])) := by kernel_rfl
theorem s11_10 (x0 : List gangwaylaw8_Ask) (op t : Int) (h : ∀ k, op_ k (d_ op t) = true) : R_ (4 + 5) (s11_ x0 op 10 t) (s11_ x0 op 11 t) := R_.trans (b := s20_ x0 op 10 t 0 ([c_ 66, c_ 66, c_ 65] ++ [d_ op t])) (fun k => g15_10 (k + 60) x0 op t) (s20_all x0 op 10 t _ (fun k => List.all_eq_true.1 (h k) _ (by simp [stacks_])))
theorem g15_11 (n : Nat) (x0 : List gangwaylaw8_Ask) (op t : Int) : g_ (n + 5) (s11_ x0 op 11 t) = g_ n (s20_ x0 op 11 t 0 ([c_ 65, c_ 65, c_ 66] ++ [d_ op t])) := by kernel_rfl
theorem s11_11 (x0 : List gangwaylaw8_Ask) (op t : Int) (h : ∀ k, op_ k (d_ op t) = true) : R_ (4 + 5) (s11_ x0 op 11 t) (s11_ x0 op 12 t) := R_.trans (b := s20_ x0 op 11 t 0 ([c_ 65, c_ 65, c_ 66] ++ [d_ op t])) (fun k => g15_11 (k + 60) x0 op t) (s20_all x0 op 11 t _ (fun k => List.all_eq_true.1 (h k) _ (by simp [stacks_])))
theorem g15_12 (n : Nat) (x0 : List gangwaylaw8_Ask) (op t : Int) : g_ (n + 5) (s11_ x0 op 12 t) = g_ n (s20_ x0 op 12 t 0 ([c_ 66, c_ 65, c_ 66] ++ [d_ op t])) := by kernel_rfl
theorem s11_12 (x0 : List gangwaylaw8_Ask) (op t : Int) (h : ∀ k, op_ k (d_ op t) = true) : R_ (4 + 5) (s11_ x0 op 12 t) (s11_ x0 op 13 t) := R_.trans (b := s20_ x0 op 12 t 0 ([c_ 66, c_ 65, c_ 66] ++ [d_ op t])) (fun k => g15_12 (k + 60) x0 op t) (s20_all x0 op 12 t _ (fun k => List.all_eq_true.1 (h k) _ (by simp [stacks_])))
theorem g15_13 (n : Nat) (x0 : List gangwaylaw8_Ask) (op t : Int) : g_ (n + 5) (s11_ x0 op 13 t) = g_ n (s20_ x0 op 13 t 0 ([c_ 65, c_ 66, c_ 66] ++ [d_ op t])) := by kernel_rfl
theorem s11_13 (x0 : List gangwaylaw8_Ask) (op t : Int) (h : ∀ k, op_ k (d_ op t) = true) : R_ (4 + 5) (s11_ x0 op 13 t) (s11_ x0 op 14 t) := R_.trans (b := s20_ x0 op 13 t 0 ([c_ 65, c_ 66, c_ 66] ++ [d_ op t])) (fun k => g15_13 (k + 60) x0 op t) (s20_all x0 op 13 t _ (fun k => List.all_eq_true.1 (h k) _ (by simp [stacks_])))
theorem g15_14 (n : Nat) (x0 : List gangwaylaw8_Ask) (op t : Int) : g_ (n + 5) (s11_ x0 op 14 t) = g_ n (s20_ x0 op 14 t 0 ([c_ 66, c_ 66, c_ 66] ++ [d_ op t])) := by kernel_rfl
theorem s11_14 (x0 : List gangwaylaw8_Ask) (op t : Int) (h : ∀ k, op_ k (d_ op t) = true) : R_ (4 + 5) (s11_ x0 op 14 t) (s11_ x0 op 15 t) := R_.trans (b := s20_ x0 op 14 t 0 ([c_ 66, c_ 66, c_ 66] ++ [d_ op t])) (fun k => g15_14 (k + 60) x0 op t) (s20_all x0 op 14 t _ (fun k => List.all_eq_true.1 (h k) _ (by simp [stacks_])))
theorem g11_15 (n : Nat) (x0 : List gangwaylaw8_Ask) (op t : Int) : g_ (n + 1) (s11_ x0 op 15 t) = g_ n (s4_ x0 (IntKind.i64.wrap (op + 1))) := by kernel_rfl
theorem s11_all (x0 : List gangwaylaw8_Ask) (op t : Int) (h : ∀ k, op_ k (d_ op t) = true) : ∃ f, R_ f (s11_ x0 op 0 t) (s4_ x0 (IntKind.i64.wrap (op + 1))) := ⟨_, (((((((((((((((s11_0 x0 op t h).trans (s11_1 x0 op t h)).trans (s11_2 x0 op t h)).trans (s11_3 x0 op t h)).trans (s11_4 x0 op t h)).trans (s11_5 x0 op t h)).trans (s11_6 x0 op t h)).trans (s11_7 x0 op t h)).trans (s11_8 x0 op t h)).trans (s11_9 x0 op t h)).trans (s11_10 x0 op t h)).trans (s11_11 x0 op t h)).trans (s11_12 x0 op t h)).trans (s11_13 x0 op t h)).trans (s11_14 x0 op t h)).trans (fun k => g11_15 (k + 60) x0 op t)⟩
/-- An instruction's turn. -/
def T_ (op : Int) : Prop := ∀ x0, ∃ f, R_ f (s4_ x0 op) (s4_ x0 (IntKind.i64.wrap (op + 1)))
abbrev m_ (k : Nat) (op t : Int) := gangwayref5_May.f (k + 60) [(⟨op, t, 0, 0, 0, 0, [], [], []⟩ : api_Instr)] (1 : Int)
theorem T_no {op : Int} (ho : op < 256) (h1 : ∀ k, m_ k op 0 = some false) (h2 : ∀ k, m_ k op 64 = some false) : T_ op := fun x0 => ⟨1, fun k => by
  show (if op < (256 : Int) then _ else _) = _
  rw [if_pos ho, show gangwayref5_May.f (k + 60) [(⟨op, 0, 0, 0, 0, 0, [], [], []⟩ : api_Instr)] (1 : Int) = some false from h1 k, Option.bind_some, if_pos (by decide), show gangwayref5_May.f (k + 60) [(⟨op, 64, 0, 0, 0, 0, [], [], []⟩ : api_Instr)] (1 : Int) = some false from h2 k, Option.bind_some, if_pos (by decide)]⟩
theorem T_yes {op : Int} (ho : op < 256) (h1 : ∀ k, m_ k op 0 = some true) (h : ∀ k, op_ k (d_ op 0) = true) : T_ op := fun x0 => by
  obtain ⟨f, hf⟩ := s11_all x0 op 0 h
  refine ⟨f + 1, R_.trans (b := s11_ x0 op 0 0) (fun k => ?_) hf⟩
  show (if op < (256 : Int) then _ else _) = _
  rw [if_pos ho, show gangwayref5_May.f (k + 60) [(⟨op, 0, 0, 0, 0, 0, [], [], []⟩ : api_Instr)] (1 : Int) = some true from h1 k]
  rfl
theorem Tx64 {op : Int} (ho : op < 256) (h1 : ∀ k, m_ k op 0 = some false) (h2 : ∀ k, m_ k op 64 = some true) (h : ∀ k, op_ k (d_ op 64) = true) : T_ op := fun x0 => by
  obtain ⟨f, hf⟩ := s11_all x0 op 64 h
  refine ⟨f + 1, R_.trans (b := s11_ x0 op 0 64) (fun k => ?_) hf⟩
  show (if op < (256 : Int) then _ else _) = _
  rw [if_pos ho, show gangwayref5_May.f (k + 60) [(⟨op, 0, 0, 0, 0, 0, [], [], []⟩ : api_Instr)] (1 : Int) = some false from h1 k, Option.bind_some, if_pos (by decide), show gangwayref5_May.f (k + 60) [(⟨op, 64, 0, 0, 0, 0, [], [], []⟩ : api_Instr)] (1 : Int) = some true from h2 k, Option.bind_some, if_neg (by decide)]
theorem T_0 : T_ 0 := T_yes (by decide) (fun k => by kernel_rfl) (fun k => by kernel_rfl)
theorem T_1 : T_ 1 := T_yes (by decide) (fun k => by kernel_rfl) (fun k => by kernel_rfl)
theorem T_2 : T_ 2 := Tx64 (by decide) (fun k => by kernel_rfl) (fun k => by kernel_rfl) (fun k => by kernel_rfl)
theorem T_3 : T_ 3 := Tx64 (by decide) (fun k => by kernel_rfl) (fun k => by kernel_rfl) (fun k => by kernel_rfl)
theorem T_4 : T_ 4 := Tx64 (by decide) (fun k => by kernel_rfl) (fun k => by kernel_rfl) (fun k => by kernel_rfl)
theorem T_5 : T_ 5 := T_no (by decide) (fun k => by kernel_rfl) (fun k => by kernel_rfl)
theorem T_6 : T_ 6 := T_no (by decide) (fun k => by kernel_rfl) (fun k => by kernel_rfl)
theorem T_7 : T_ 7 := T_no (by decide) (fun k => by kernel_rfl) (fun k => by kernel_rfl)
theorem T_8 : T_ 8 := T_no (by decide) (fun k => by kernel_rfl) (fun k => by kernel_rfl)
theorem T_9 : T_ 9 := T_no (by decide) (fun k => by kernel_rfl) (fun k => by kernel_rfl)
theorem T_10 : T_ 10 := T_no (by decide) (fun k => by kernel_rfl) (fun k => by kernel_rfl)
theorem T_11 : T_ 11 := T_no (by decide) (fun k => by kernel_rfl) (fun k => by kernel_rfl)
theorem T_12 : T_ 12 := T_yes (by decide) (fun k => by kernel_rfl) (fun k => by kernel_rfl)
theorem T_13 : T_ 13 := T_yes (by decide) (fun k => by kernel_rfl) (fun k => by kernel_rfl)
theorem T_14 : T_ 14 := T_yes (by decide) (fun k => by kernel_rfl) (fun k => by kernel_rfl)
theorem T_15 : T_ 15 := T_yes (by decide) (fun k => by kernel_rfl) (fun k => by kernel_rfl)
theorem T_16 : T_ 16 := T_yes (by decide) (fun k => by kernel_rfl) (fun k => by kernel_rfl)
theorem T_17 : T_ 17 := T_yes (by decide) (fun k => by kernel_rfl) (fun k => by kernel_rfl)
theorem T_18 : T_ 18 := T_no (by decide) (fun k => by kernel_rfl) (fun k => by kernel_rfl)
theorem T_19 : T_ 19 := T_no (by decide) (fun k => by kernel_rfl) (fun k => by kernel_rfl)
theorem T_20 : T_ 20 := T_no (by decide) (fun k => by kernel_rfl) (fun k => by kernel_rfl)
theorem T_21 : T_ 21 := T_no (by decide) (fun k => by kernel_rfl) (fun k => by kernel_rfl)
theorem T_22 : T_ 22 := T_no (by decide) (fun k => by kernel_rfl) (fun k => by kernel_rfl)
theorem T_23 : T_ 23 := T_no (by decide) (fun k => by kernel_rfl) (fun k => by kernel_rfl)
theorem T_24 : T_ 24 := T_no (by decide) (fun k => by kernel_rfl) (fun k => by kernel_rfl)
theorem T_25 : T_ 25 := T_no (by decide) (fun k => by kernel_rfl) (fun k => by kernel_rfl)
theorem T_26 : T_ 26 := T_yes (by decide) (fun k => by kernel_rfl) (fun k => by kernel_rfl)
theorem T_27 : T_ 27 := T_yes (by decide) (fun k => by kernel_rfl) (fun k => by kernel_rfl)
theorem T_28 : T_ 28 := T_no (by decide) (fun k => by kernel_rfl) (fun k => by kernel_rfl)
theorem T_29 : T_ 29 := T_no (by decide) (fun k => by kernel_rfl) (fun k => by kernel_rfl)
theorem T_30 : T_ 30 := T_no (by decide) (fun k => by kernel_rfl) (fun k => by kernel_rfl)
theorem T_31 : T_ 31 := T_no (by decide) (fun k => by kernel_rfl) (fun k => by kernel_rfl)
theorem T_32 : T_ 32 := T_yes (by decide) (fun k => by kernel_rfl) (fun k => by kernel_rfl)
theorem T_33 : T_ 33 := T_yes (by decide) (fun k => by kernel_rfl) (fun k => by kernel_rfl)
theorem T_34 : T_ 34 := T_yes (by decide) (fun k => by kernel_rfl) (fun k => by kernel_rfl)
theorem T_35 : T_ 35 := T_yes (by decide) (fun k => by kernel_rfl) (fun k => by kernel_rfl)
theorem T_36 : T_ 36 := T_yes (by decide) (fun k => by kernel_rfl) (fun k => by kernel_rfl)
theorem T_37 : T_ 37 := T_no (by decide) (fun k => by kernel_rfl) (fun k => by kernel_rfl)
theorem T_38 : T_ 38 := T_no (by decide) (fun k => by kernel_rfl) (fun k => by kernel_rfl)
theorem T_39 : T_ 39 := T_no (by decide) (fun k => by kernel_rfl) (fun k => by kernel_rfl)
theorem T_40 : T_ 40 := T_yes (by decide) (fun k => by kernel_rfl) (fun k => by kernel_rfl)
theorem T_41 : T_ 41 := T_yes (by decide) (fun k => by kernel_rfl) (fun k => by kernel_rfl)
theorem T_42 : T_ 42 := T_no (by decide) (fun k => by kernel_rfl) (fun k => by kernel_rfl)
theorem T_43 : T_ 43 := T_no (by decide) (fun k => by kernel_rfl) (fun k => by kernel_rfl)
theorem T_44 : T_ 44 := T_yes (by decide) (fun k => by kernel_rfl) (fun k => by kernel_rfl)
theorem T_45 : T_ 45 := T_yes (by decide) (fun k => by kernel_rfl) (fun k => by kernel_rfl)
theorem T_46 : T_ 46 := T_yes (by decide) (fun k => by kernel_rfl) (fun k => by kernel_rfl)
theorem T_47 : T_ 47 := T_yes (by decide) (fun k => by kernel_rfl) (fun k => by kernel_rfl)
theorem T_48 : T_ 48 := T_yes (by decide) (fun k => by kernel_rfl) (fun k => by kernel_rfl)
theorem T_49 : T_ 49 := T_yes (by decide) (fun k => by kernel_rfl) (fun k => by kernel_rfl)
theorem T_50 : T_ 50 := T_yes (by decide) (fun k => by kernel_rfl) (fun k => by kernel_rfl)
theorem T_51 : T_ 51 := T_yes (by decide) (fun k => by kernel_rfl) (fun k => by kernel_rfl)
theorem T_52 : T_ 52 := T_yes (by decide) (fun k => by kernel_rfl) (fun k => by kernel_rfl)
theorem T_53 : T_ 53 := T_yes (by decide) (fun k => by kernel_rfl) (fun k => by kernel_rfl)
theorem T_54 : T_ 54 := T_yes (by decide) (fun k => by kernel_rfl) (fun k => by kernel_rfl)
theorem T_55 : T_ 55 := T_yes (by decide) (fun k => by kernel_rfl) (fun k => by kernel_rfl)
theorem T_56 : T_ 56 := T_no (by decide) (fun k => by kernel_rfl) (fun k => by kernel_rfl)
theorem T_57 : T_ 57 := T_no (by decide) (fun k => by kernel_rfl) (fun k => by kernel_rfl)
theorem T_58 : T_ 58 := T_yes (by decide) (fun k => by kernel_rfl) (fun k => by kernel_rfl)
theorem T_59 : T_ 59 := T_yes (by decide) (fun k => by kernel_rfl) (fun k => by kernel_rfl)
theorem T_60 : T_ 60 := T_yes (by decide) (fun k => by kernel_rfl) (fun k => by kernel_rfl)
theorem T_61 : T_ 61 := T_yes (by decide) (fun k => by kernel_rfl) (fun k => by kernel_rfl)
theorem T_62 : T_ 62 := T_yes (by decide) (fun k => by kernel_rfl) (fun k => by kernel_rfl)
theorem T_63 : T_ 63 := T_yes (by decide) (fun k => by kernel_rfl) (fun k => by kernel_rfl)
theorem T_64 : T_ 64 := T_yes (by decide) (fun k => by kernel_rfl) (fun k => by kernel_rfl)
theorem T_65 : T_ 65 := T_yes (by decide) (fun k => by kernel_rfl) (fun k => by kernel_rfl)
theorem T_66 : T_ 66 := T_yes (by decide) (fun k => by kernel_rfl) (fun k => by kernel_rfl)
theorem T_67 : T_ 67 := T_no (by decide) (fun k => by kernel_rfl) (fun k => by kernel_rfl)
theorem T_68 : T_ 68 := T_no (by decide) (fun k => by kernel_rfl) (fun k => by kernel_rfl)
theorem T_69 : T_ 69 := T_yes (by decide) (fun k => by kernel_rfl) (fun k => by kernel_rfl)
theorem T_70 : T_ 70 := T_yes (by decide) (fun k => by kernel_rfl) (fun k => by kernel_rfl)
theorem T_71 : T_ 71 := T_yes (by decide) (fun k => by kernel_rfl) (fun k => by kernel_rfl)
theorem T_72 : T_ 72 := T_yes (by decide) (fun k => by kernel_rfl) (fun k => by kernel_rfl)
theorem T_73 : T_ 73 := T_yes (by decide) (fun k => by kernel_rfl) (fun k => by kernel_rfl)
theorem T_74 : T_ 74 := T_yes (by decide) (fun k => by kernel_rfl) (fun k => by kernel_rfl)
theorem T_75 : T_ 75 := T_yes (by decide) (fun k => by kernel_rfl) (fun k => by kernel_rfl)
theorem T_76 : T_ 76 := T_yes (by decide) (fun k => by kernel_rfl) (fun k => by kernel_rfl)
theorem T_77 : T_ 77 := T_yes (by decide) (fun k => by kernel_rfl) (fun k => by kernel_rfl)
theorem T_78 : T_ 78 := T_yes (by decide) (fun k => by kernel_rfl) (fun k => by kernel_rfl)
theorem T_79 : T_ 79 := T_yes (by decide) (fun k => by kernel_rfl) (fun k => by kernel_rfl)
theorem T_80 : T_ 80 := T_yes (by decide) (fun k => by kernel_rfl) (fun k => by kernel_rfl)
theorem T_81 : T_ 81 := T_yes (by decide) (fun k => by kernel_rfl) (fun k => by kernel_rfl)
theorem T_82 : T_ 82 := T_yes (by decide) (fun k => by kernel_rfl) (fun k => by kernel_rfl)
theorem T_83 : T_ 83 := T_yes (by decide) (fun k => by kernel_rfl) (fun k => by kernel_rfl)
theorem T_84 : T_ 84 := T_yes (by decide) (fun k => by kernel_rfl) (fun k => by kernel_rfl)
theorem T_85 : T_ 85 := T_yes (by decide) (fun k => by kernel_rfl) (fun k => by kernel_rfl)
theorem T_86 : T_ 86 := T_yes (by decide) (fun k => by kernel_rfl) (fun k => by kernel_rfl)
theorem T_87 : T_ 87 := T_yes (by decide) (fun k => by kernel_rfl) (fun k => by kernel_rfl)
theorem T_88 : T_ 88 := T_yes (by decide) (fun k => by kernel_rfl) (fun k => by kernel_rfl)
theorem T_89 : T_ 89 := T_yes (by decide) (fun k => by kernel_rfl) (fun k => by kernel_rfl)
theorem T_90 : T_ 90 := T_yes (by decide) (fun k => by kernel_rfl) (fun k => by kernel_rfl)
theorem T_91 : T_ 91 := T_no (by decide) (fun k => by kernel_rfl) (fun k => by kernel_rfl)
theorem T_92 : T_ 92 := T_no (by decide) (fun k => by kernel_rfl) (fun k => by kernel_rfl)
theorem T_93 : T_ 93 := T_no (by decide) (fun k => by kernel_rfl) (fun k => by kernel_rfl)
theorem T_94 : T_ 94 := T_no (by decide) (fun k => by kernel_rfl) (fun k => by kernel_rfl)
theorem T_95 : T_ 95 := T_no (by decide) (fun k => by kernel_rfl) (fun k => by kernel_rfl)
theorem T_96 : T_ 96 := T_no (by decide) (fun k => by kernel_rfl) (fun k => by kernel_rfl)
theorem T_97 : T_ 97 := T_no (by decide) (fun k => by kernel_rfl) (fun k => by kernel_rfl)
theorem T_98 : T_ 98 := T_no (by decide) (fun k => by kernel_rfl) (fun k => by kernel_rfl)
theorem T_99 : T_ 99 := T_no (by decide) (fun k => by kernel_rfl) (fun k => by kernel_rfl)
theorem T_100 : T_ 100 := T_no (by decide) (fun k => by kernel_rfl) (fun k => by kernel_rfl)
theorem T_101 : T_ 101 := T_no (by decide) (fun k => by kernel_rfl) (fun k => by kernel_rfl)
theorem T_102 : T_ 102 := T_no (by decide) (fun k => by kernel_rfl) (fun k => by kernel_rfl)
theorem T_103 : T_ 103 := T_yes (by decide) (fun k => by kernel_rfl) (fun k => by kernel_rfl)
theorem T_104 : T_ 104 := T_yes (by decide) (fun k => by kernel_rfl) (fun k => by kernel_rfl)
theorem T_105 : T_ 105 := T_yes (by decide) (fun k => by kernel_rfl) (fun k => by kernel_rfl)
theorem T_106 : T_ 106 := T_yes (by decide) (fun k => by kernel_rfl) (fun k => by kernel_rfl)
theorem T_107 : T_ 107 := T_yes (by decide) (fun k => by kernel_rfl) (fun k => by kernel_rfl)
theorem T_108 : T_ 108 := T_yes (by decide) (fun k => by kernel_rfl) (fun k => by kernel_rfl)
theorem T_109 : T_ 109 := T_yes (by decide) (fun k => by kernel_rfl) (fun k => by kernel_rfl)
theorem T_110 : T_ 110 := T_yes (by decide) (fun k => by kernel_rfl) (fun k => by kernel_rfl)
theorem T_111 : T_ 111 := T_yes (by decide) (fun k => by kernel_rfl) (fun k => by kernel_rfl)
theorem T_112 : T_ 112 := T_yes (by decide) (fun k => by kernel_rfl) (fun k => by kernel_rfl)
theorem T_113 : T_ 113 := T_yes (by decide) (fun k => by kernel_rfl) (fun k => by kernel_rfl)
theorem T_114 : T_ 114 := T_yes (by decide) (fun k => by kernel_rfl) (fun k => by kernel_rfl)
theorem T_115 : T_ 115 := T_yes (by decide) (fun k => by kernel_rfl) (fun k => by kernel_rfl)
theorem T_116 : T_ 116 := T_yes (by decide) (fun k => by kernel_rfl) (fun k => by kernel_rfl)
theorem T_117 : T_ 117 := T_yes (by decide) (fun k => by kernel_rfl) (fun k => by kernel_rfl)
theorem T_118 : T_ 118 := T_yes (by decide) (fun k => by kernel_rfl) (fun k => by kernel_rfl)
theorem T_119 : T_ 119 := T_yes (by decide) (fun k => by kernel_rfl) (fun k => by kernel_rfl)
theorem T_120 : T_ 120 := T_yes (by decide) (fun k => by kernel_rfl) (fun k => by kernel_rfl)
theorem T_121 : T_ 121 := T_yes (by decide) (fun k => by kernel_rfl) (fun k => by kernel_rfl)
theorem T_122 : T_ 122 := T_yes (by decide) (fun k => by kernel_rfl) (fun k => by kernel_rfl)
theorem T_123 : T_ 123 := T_yes (by decide) (fun k => by kernel_rfl) (fun k => by kernel_rfl)
theorem T_124 : T_ 124 := T_yes (by decide) (fun k => by kernel_rfl) (fun k => by kernel_rfl)
theorem T_125 : T_ 125 := T_yes (by decide) (fun k => by kernel_rfl) (fun k => by kernel_rfl)
theorem T_126 : T_ 126 := T_yes (by decide) (fun k => by kernel_rfl) (fun k => by kernel_rfl)
theorem T_127 : T_ 127 := T_yes (by decide) (fun k => by kernel_rfl) (fun k => by kernel_rfl)
theorem T_128 : T_ 128 := T_yes (by decide) (fun k => by kernel_rfl) (fun k => by kernel_rfl)
theorem T_129 : T_ 129 := T_yes (by decide) (fun k => by kernel_rfl) (fun k => by kernel_rfl)
theorem T_130 : T_ 130 := T_yes (by decide) (fun k => by kernel_rfl) (fun k => by kernel_rfl)
theorem T_131 : T_ 131 := T_yes (by decide) (fun k => by kernel_rfl) (fun k => by kernel_rfl)
theorem T_132 : T_ 132 := T_yes (by decide) (fun k => by kernel_rfl) (fun k => by kernel_rfl)
theorem T_133 : T_ 133 := T_yes (by decide) (fun k => by kernel_rfl) (fun k => by kernel_rfl)
theorem T_134 : T_ 134 := T_yes (by decide) (fun k => by kernel_rfl) (fun k => by kernel_rfl)
theorem T_135 : T_ 135 := T_yes (by decide) (fun k => by kernel_rfl) (fun k => by kernel_rfl)
theorem T_136 : T_ 136 := T_yes (by decide) (fun k => by kernel_rfl) (fun k => by kernel_rfl)
theorem T_137 : T_ 137 := T_yes (by decide) (fun k => by kernel_rfl) (fun k => by kernel_rfl)
theorem T_138 : T_ 138 := T_yes (by decide) (fun k => by kernel_rfl) (fun k => by kernel_rfl)
theorem T_139 : T_ 139 := T_no (by decide) (fun k => by kernel_rfl) (fun k => by kernel_rfl)
theorem T_140 : T_ 140 := T_no (by decide) (fun k => by kernel_rfl) (fun k => by kernel_rfl)
theorem T_141 : T_ 141 := T_no (by decide) (fun k => by kernel_rfl) (fun k => by kernel_rfl)
theorem T_142 : T_ 142 := T_no (by decide) (fun k => by kernel_rfl) (fun k => by kernel_rfl)
theorem T_143 : T_ 143 := T_no (by decide) (fun k => by kernel_rfl) (fun k => by kernel_rfl)
theorem T_144 : T_ 144 := T_no (by decide) (fun k => by kernel_rfl) (fun k => by kernel_rfl)
theorem T_145 : T_ 145 := T_no (by decide) (fun k => by kernel_rfl) (fun k => by kernel_rfl)
theorem T_146 : T_ 146 := T_no (by decide) (fun k => by kernel_rfl) (fun k => by kernel_rfl)
theorem T_147 : T_ 147 := T_no (by decide) (fun k => by kernel_rfl) (fun k => by kernel_rfl)
theorem T_148 : T_ 148 := T_no (by decide) (fun k => by kernel_rfl) (fun k => by kernel_rfl)
theorem T_149 : T_ 149 := T_no (by decide) (fun k => by kernel_rfl) (fun k => by kernel_rfl)
theorem T_150 : T_ 150 := T_no (by decide) (fun k => by kernel_rfl) (fun k => by kernel_rfl)
theorem T_151 : T_ 151 := T_no (by decide) (fun k => by kernel_rfl) (fun k => by kernel_rfl)
theorem T_152 : T_ 152 := T_no (by decide) (fun k => by kernel_rfl) (fun k => by kernel_rfl)
theorem T_153 : T_ 153 := T_no (by decide) (fun k => by kernel_rfl) (fun k => by kernel_rfl)
theorem T_154 : T_ 154 := T_no (by decide) (fun k => by kernel_rfl) (fun k => by kernel_rfl)
theorem T_155 : T_ 155 := T_no (by decide) (fun k => by kernel_rfl) (fun k => by kernel_rfl)
theorem T_156 : T_ 156 := T_no (by decide) (fun k => by kernel_rfl) (fun k => by kernel_rfl)
theorem T_157 : T_ 157 := T_no (by decide) (fun k => by kernel_rfl) (fun k => by kernel_rfl)
theorem T_158 : T_ 158 := T_no (by decide) (fun k => by kernel_rfl) (fun k => by kernel_rfl)
theorem T_159 : T_ 159 := T_no (by decide) (fun k => by kernel_rfl) (fun k => by kernel_rfl)
theorem T_160 : T_ 160 := T_no (by decide) (fun k => by kernel_rfl) (fun k => by kernel_rfl)
theorem T_161 : T_ 161 := T_no (by decide) (fun k => by kernel_rfl) (fun k => by kernel_rfl)
theorem T_162 : T_ 162 := T_no (by decide) (fun k => by kernel_rfl) (fun k => by kernel_rfl)
theorem T_163 : T_ 163 := T_no (by decide) (fun k => by kernel_rfl) (fun k => by kernel_rfl)
theorem T_164 : T_ 164 := T_no (by decide) (fun k => by kernel_rfl) (fun k => by kernel_rfl)
theorem T_165 : T_ 165 := T_no (by decide) (fun k => by kernel_rfl) (fun k => by kernel_rfl)
theorem T_166 : T_ 166 := T_no (by decide) (fun k => by kernel_rfl) (fun k => by kernel_rfl)
theorem T_167 : T_ 167 := T_yes (by decide) (fun k => by kernel_rfl) (fun k => by kernel_rfl)
theorem T_168 : T_ 168 := T_no (by decide) (fun k => by kernel_rfl) (fun k => by kernel_rfl)
theorem T_169 : T_ 169 := T_no (by decide) (fun k => by kernel_rfl) (fun k => by kernel_rfl)
theorem T_170 : T_ 170 := T_no (by decide) (fun k => by kernel_rfl) (fun k => by kernel_rfl)
theorem T_171 : T_ 171 := T_no (by decide) (fun k => by kernel_rfl) (fun k => by kernel_rfl)
theorem T_172 : T_ 172 := T_yes (by decide) (fun k => by kernel_rfl) (fun k => by kernel_rfl)
theorem T_173 : T_ 173 := T_yes (by decide) (fun k => by kernel_rfl) (fun k => by kernel_rfl)
theorem T_174 : T_ 174 := T_no (by decide) (fun k => by kernel_rfl) (fun k => by kernel_rfl)
theorem T_175 : T_ 175 := T_no (by decide) (fun k => by kernel_rfl) (fun k => by kernel_rfl)
theorem T_176 : T_ 176 := T_no (by decide) (fun k => by kernel_rfl) (fun k => by kernel_rfl)
theorem T_177 : T_ 177 := T_no (by decide) (fun k => by kernel_rfl) (fun k => by kernel_rfl)
theorem T_178 : T_ 178 := T_no (by decide) (fun k => by kernel_rfl) (fun k => by kernel_rfl)
theorem T_179 : T_ 179 := T_no (by decide) (fun k => by kernel_rfl) (fun k => by kernel_rfl)
theorem T_180 : T_ 180 := T_no (by decide) (fun k => by kernel_rfl) (fun k => by kernel_rfl)
theorem T_181 : T_ 181 := T_no (by decide) (fun k => by kernel_rfl) (fun k => by kernel_rfl)
theorem T_182 : T_ 182 := T_no (by decide) (fun k => by kernel_rfl) (fun k => by kernel_rfl)
theorem T_183 : T_ 183 := T_no (by decide) (fun k => by kernel_rfl) (fun k => by kernel_rfl)
theorem T_184 : T_ 184 := T_no (by decide) (fun k => by kernel_rfl) (fun k => by kernel_rfl)
theorem T_185 : T_ 185 := T_no (by decide) (fun k => by kernel_rfl) (fun k => by kernel_rfl)
theorem T_186 : T_ 186 := T_no (by decide) (fun k => by kernel_rfl) (fun k => by kernel_rfl)
theorem T_187 : T_ 187 := T_no (by decide) (fun k => by kernel_rfl) (fun k => by kernel_rfl)
theorem T_188 : T_ 188 := T_no (by decide) (fun k => by kernel_rfl) (fun k => by kernel_rfl)
theorem T_189 : T_ 189 := T_no (by decide) (fun k => by kernel_rfl) (fun k => by kernel_rfl)
theorem T_190 : T_ 190 := T_no (by decide) (fun k => by kernel_rfl) (fun k => by kernel_rfl)
theorem T_191 : T_ 191 := T_no (by decide) (fun k => by kernel_rfl) (fun k => by kernel_rfl)
theorem T_192 : T_ 192 := T_no (by decide) (fun k => by kernel_rfl) (fun k => by kernel_rfl)
theorem T_193 : T_ 193 := T_no (by decide) (fun k => by kernel_rfl) (fun k => by kernel_rfl)
theorem T_194 : T_ 194 := T_no (by decide) (fun k => by kernel_rfl) (fun k => by kernel_rfl)
theorem T_195 : T_ 195 := T_no (by decide) (fun k => by kernel_rfl) (fun k => by kernel_rfl)
theorem T_196 : T_ 196 := T_no (by decide) (fun k => by kernel_rfl) (fun k => by kernel_rfl)
theorem T_197 : T_ 197 := T_no (by decide) (fun k => by kernel_rfl) (fun k => by kernel_rfl)
theorem T_198 : T_ 198 := T_no (by decide) (fun k => by kernel_rfl) (fun k => by kernel_rfl)
theorem T_199 : T_ 199 := T_no (by decide) (fun k => by kernel_rfl) (fun k => by kernel_rfl)
theorem T_200 : T_ 200 := T_no (by decide) (fun k => by kernel_rfl) (fun k => by kernel_rfl)
theorem T_201 : T_ 201 := T_no (by decide) (fun k => by kernel_rfl) (fun k => by kernel_rfl)
theorem T_202 : T_ 202 := T_no (by decide) (fun k => by kernel_rfl) (fun k => by kernel_rfl)
theorem T_203 : T_ 203 := T_no (by decide) (fun k => by kernel_rfl) (fun k => by kernel_rfl)
theorem T_204 : T_ 204 := T_no (by decide) (fun k => by kernel_rfl) (fun k => by kernel_rfl)
theorem T_205 : T_ 205 := T_no (by decide) (fun k => by kernel_rfl) (fun k => by kernel_rfl)
theorem T_206 : T_ 206 := T_no (by decide) (fun k => by kernel_rfl) (fun k => by kernel_rfl)
theorem T_207 : T_ 207 := T_no (by decide) (fun k => by kernel_rfl) (fun k => by kernel_rfl)
theorem T_208 : T_ 208 := T_no (by decide) (fun k => by kernel_rfl) (fun k => by kernel_rfl)
theorem T_209 : T_ 209 := T_no (by decide) (fun k => by kernel_rfl) (fun k => by kernel_rfl)
theorem T_210 : T_ 210 := T_no (by decide) (fun k => by kernel_rfl) (fun k => by kernel_rfl)
theorem T_211 : T_ 211 := T_no (by decide) (fun k => by kernel_rfl) (fun k => by kernel_rfl)
theorem T_212 : T_ 212 := T_no (by decide) (fun k => by kernel_rfl) (fun k => by kernel_rfl)
theorem T_213 : T_ 213 := T_no (by decide) (fun k => by kernel_rfl) (fun k => by kernel_rfl)
theorem T_214 : T_ 214 := T_no (by decide) (fun k => by kernel_rfl) (fun k => by kernel_rfl)
theorem T_215 : T_ 215 := T_no (by decide) (fun k => by kernel_rfl) (fun k => by kernel_rfl)
theorem T_216 : T_ 216 := T_no (by decide) (fun k => by kernel_rfl) (fun k => by kernel_rfl)
theorem T_217 : T_ 217 := T_no (by decide) (fun k => by kernel_rfl) (fun k => by kernel_rfl)
theorem T_218 : T_ 218 := T_no (by decide) (fun k => by kernel_rfl) (fun k => by kernel_rfl)
theorem T_219 : T_ 219 := T_no (by decide) (fun k => by kernel_rfl) (fun k => by kernel_rfl)
theorem T_220 : T_ 220 := T_no (by decide) (fun k => by kernel_rfl) (fun k => by kernel_rfl)
theorem T_221 : T_ 221 := T_no (by decide) (fun k => by kernel_rfl) (fun k => by kernel_rfl)
theorem T_222 : T_ 222 := T_no (by decide) (fun k => by kernel_rfl) (fun k => by kernel_rfl)
theorem T_223 : T_ 223 := T_no (by decide) (fun k => by kernel_rfl) (fun k => by kernel_rfl)
theorem T_224 : T_ 224 := T_no (by decide) (fun k => by kernel_rfl) (fun k => by kernel_rfl)
theorem T_225 : T_ 225 := T_no (by decide) (fun k => by kernel_rfl) (fun k => by kernel_rfl)
theorem T_226 : T_ 226 := T_no (by decide) (fun k => by kernel_rfl) (fun k => by kernel_rfl)
theorem T_227 : T_ 227 := T_no (by decide) (fun k => by kernel_rfl) (fun k => by kernel_rfl)
theorem T_228 : T_ 228 := T_no (by decide) (fun k => by kernel_rfl) (fun k => by kernel_rfl)
theorem T_229 : T_ 229 := T_no (by decide) (fun k => by kernel_rfl) (fun k => by kernel_rfl)
theorem T_230 : T_ 230 := T_no (by decide) (fun k => by kernel_rfl) (fun k => by kernel_rfl)
theorem T_231 : T_ 231 := T_no (by decide) (fun k => by kernel_rfl) (fun k => by kernel_rfl)
theorem T_232 : T_ 232 := T_no (by decide) (fun k => by kernel_rfl) (fun k => by kernel_rfl)
theorem T_233 : T_ 233 := T_no (by decide) (fun k => by kernel_rfl) (fun k => by kernel_rfl)
theorem T_234 : T_ 234 := T_no (by decide) (fun k => by kernel_rfl) (fun k => by kernel_rfl)
theorem T_235 : T_ 235 := T_no (by decide) (fun k => by kernel_rfl) (fun k => by kernel_rfl)
theorem T_236 : T_ 236 := T_no (by decide) (fun k => by kernel_rfl) (fun k => by kernel_rfl)
theorem T_237 : T_ 237 := T_no (by decide) (fun k => by kernel_rfl) (fun k => by kernel_rfl)
theorem T_238 : T_ 238 := T_no (by decide) (fun k => by kernel_rfl) (fun k => by kernel_rfl)
theorem T_239 : T_ 239 := T_no (by decide) (fun k => by kernel_rfl) (fun k => by kernel_rfl)
theorem T_240 : T_ 240 := T_no (by decide) (fun k => by kernel_rfl) (fun k => by kernel_rfl)
theorem T_241 : T_ 241 := T_no (by decide) (fun k => by kernel_rfl) (fun k => by kernel_rfl)
theorem T_242 : T_ 242 := T_no (by decide) (fun k => by kernel_rfl) (fun k => by kernel_rfl)
theorem T_243 : T_ 243 := T_no (by decide) (fun k => by kernel_rfl) (fun k => by kernel_rfl)
theorem T_244 : T_ 244 := T_no (by decide) (fun k => by kernel_rfl) (fun k => by kernel_rfl)
theorem T_245 : T_ 245 := T_no (by decide) (fun k => by kernel_rfl) (fun k => by kernel_rfl)
theorem T_246 : T_ 246 := T_no (by decide) (fun k => by kernel_rfl) (fun k => by kernel_rfl)
theorem T_247 : T_ 247 := T_no (by decide) (fun k => by kernel_rfl) (fun k => by kernel_rfl)
theorem T_248 : T_ 248 := T_no (by decide) (fun k => by kernel_rfl) (fun k => by kernel_rfl)
theorem T_249 : T_ 249 := T_no (by decide) (fun k => by kernel_rfl) (fun k => by kernel_rfl)
theorem T_250 : T_ 250 := T_no (by decide) (fun k => by kernel_rfl) (fun k => by kernel_rfl)
theorem T_251 : T_ 251 := T_no (by decide) (fun k => by kernel_rfl) (fun k => by kernel_rfl)
theorem T_252 : T_ 252 := T_no (by decide) (fun k => by kernel_rfl) (fun k => by kernel_rfl)
theorem T_253 : T_ 253 := T_no (by decide) (fun k => by kernel_rfl) (fun k => by kernel_rfl)
theorem T_254 : T_ 254 := T_no (by decide) (fun k => by kernel_rfl) (fun k => by kernel_rfl)
theorem T_255 : T_ 255 := T_no (by decide) (fun k => by kernel_rfl) (fun k => by kernel_rfl)
def E_ (op : Int) : Prop := ∀ x0, ∃ k, g_ (k + 60) (s4_ x0 op) = some true
theorem E_.back {op : Int} (h : E_ (IntKind.i64.wrap (op + 1))) (t : T_ op) : E_ op := fun x0 => by
  obtain ⟨k, hk⟩ := h x0
  obtain ⟨f, hf⟩ := t x0
  exact ⟨k + f, by rw [show k + f + 60 = k + 60 + f by omega, hf k]; exact hk⟩
theorem E_256 : E_ 256 := fun x0 => ⟨140, by kernel_rfl⟩
theorem E_255 : E_ 255 := E_.back (show E_ (IntKind.i64.wrap (255 + 1)) from E_256) T_255
theorem E_254 : E_ 254 := E_.back (show E_ (IntKind.i64.wrap (254 + 1)) from E_255) T_254
theorem E_253 : E_ 253 := E_.back (show E_ (IntKind.i64.wrap (253 + 1)) from E_254) T_253
theorem E_252 : E_ 252 := E_.back (show E_ (IntKind.i64.wrap (252 + 1)) from E_253) T_252
theorem E_251 : E_ 251 := E_.back (show E_ (IntKind.i64.wrap (251 + 1)) from E_252) T_251
theorem E_250 : E_ 250 := E_.back (show E_ (IntKind.i64.wrap (250 + 1)) from E_251) T_250
theorem E_249 : E_ 249 := E_.back (show E_ (IntKind.i64.wrap (249 + 1)) from E_250) T_249
theorem E_248 : E_ 248 := E_.back (show E_ (IntKind.i64.wrap (248 + 1)) from E_249) T_248
theorem E_247 : E_ 247 := E_.back (show E_ (IntKind.i64.wrap (247 + 1)) from E_248) T_247
theorem E_246 : E_ 246 := E_.back (show E_ (IntKind.i64.wrap (246 + 1)) from E_247) T_246
theorem E_245 : E_ 245 := E_.back (show E_ (IntKind.i64.wrap (245 + 1)) from E_246) T_245
theorem E_244 : E_ 244 := E_.back (show E_ (IntKind.i64.wrap (244 + 1)) from E_245) T_244
theorem E_243 : E_ 243 := E_.back (show E_ (IntKind.i64.wrap (243 + 1)) from E_244) T_243
theorem E_242 : E_ 242 := E_.back (show E_ (IntKind.i64.wrap (242 + 1)) from E_243) T_242
theorem E_241 : E_ 241 := E_.back (show E_ (IntKind.i64.wrap (241 + 1)) from E_242) T_241
theorem E_240 : E_ 240 := E_.back (show E_ (IntKind.i64.wrap (240 + 1)) from E_241) T_240
theorem E_239 : E_ 239 := E_.back (show E_ (IntKind.i64.wrap (239 + 1)) from E_240) T_239
theorem E_238 : E_ 238 := E_.back (show E_ (IntKind.i64.wrap (238 + 1)) from E_239) T_238
theorem E_237 : E_ 237 := E_.back (show E_ (IntKind.i64.wrap (237 + 1)) from E_238) T_237
theorem E_236 : E_ 236 := E_.back (show E_ (IntKind.i64.wrap (236 + 1)) from E_237) T_236
theorem E_235 : E_ 235 := E_.back (show E_ (IntKind.i64.wrap (235 + 1)) from E_236) T_235
theorem E_234 : E_ 234 := E_.back (show E_ (IntKind.i64.wrap (234 + 1)) from E_235) T_234
theorem E_233 : E_ 233 := E_.back (show E_ (IntKind.i64.wrap (233 + 1)) from E_234) T_233
theorem E_232 : E_ 232 := E_.back (show E_ (IntKind.i64.wrap (232 + 1)) from E_233) T_232
theorem E_231 : E_ 231 := E_.back (show E_ (IntKind.i64.wrap (231 + 1)) from E_232) T_231
theorem E_230 : E_ 230 := E_.back (show E_ (IntKind.i64.wrap (230 + 1)) from E_231) T_230
theorem E_229 : E_ 229 := E_.back (show E_ (IntKind.i64.wrap (229 + 1)) from E_230) T_229
theorem E_228 : E_ 228 := E_.back (show E_ (IntKind.i64.wrap (228 + 1)) from E_229) T_228
theorem E_227 : E_ 227 := E_.back (show E_ (IntKind.i64.wrap (227 + 1)) from E_228) T_227
theorem E_226 : E_ 226 := E_.back (show E_ (IntKind.i64.wrap (226 + 1)) from E_227) T_226
theorem E_225 : E_ 225 := E_.back (show E_ (IntKind.i64.wrap (225 + 1)) from E_226) T_225
theorem E_224 : E_ 224 := E_.back (show E_ (IntKind.i64.wrap (224 + 1)) from E_225) T_224
theorem E_223 : E_ 223 := E_.back (show E_ (IntKind.i64.wrap (223 + 1)) from E_224) T_223
theorem E_222 : E_ 222 := E_.back (show E_ (IntKind.i64.wrap (222 + 1)) from E_223) T_222
theorem E_221 : E_ 221 := E_.back (show E_ (IntKind.i64.wrap (221 + 1)) from E_222) T_221
theorem E_220 : E_ 220 := E_.back (show E_ (IntKind.i64.wrap (220 + 1)) from E_221) T_220
theorem E_219 : E_ 219 := E_.back (show E_ (IntKind.i64.wrap (219 + 1)) from E_220) T_219
theorem E_218 : E_ 218 := E_.back (show E_ (IntKind.i64.wrap (218 + 1)) from E_219) T_218
theorem E_217 : E_ 217 := E_.back (show E_ (IntKind.i64.wrap (217 + 1)) from E_218) T_217
theorem E_216 : E_ 216 := E_.back (show E_ (IntKind.i64.wrap (216 + 1)) from E_217) T_216
theorem E_215 : E_ 215 := E_.back (show E_ (IntKind.i64.wrap (215 + 1)) from E_216) T_215
theorem E_214 : E_ 214 := E_.back (show E_ (IntKind.i64.wrap (214 + 1)) from E_215) T_214
theorem E_213 : E_ 213 := E_.back (show E_ (IntKind.i64.wrap (213 + 1)) from E_214) T_213
theorem E_212 : E_ 212 := E_.back (show E_ (IntKind.i64.wrap (212 + 1)) from E_213) T_212
theorem E_211 : E_ 211 := E_.back (show E_ (IntKind.i64.wrap (211 + 1)) from E_212) T_211
theorem E_210 : E_ 210 := E_.back (show E_ (IntKind.i64.wrap (210 + 1)) from E_211) T_210
theorem E_209 : E_ 209 := E_.back (show E_ (IntKind.i64.wrap (209 + 1)) from E_210) T_209
theorem E_208 : E_ 208 := E_.back (show E_ (IntKind.i64.wrap (208 + 1)) from E_209) T_208
theorem E_207 : E_ 207 := E_.back (show E_ (IntKind.i64.wrap (207 + 1)) from E_208) T_207
theorem E_206 : E_ 206 := E_.back (show E_ (IntKind.i64.wrap (206 + 1)) from E_207) T_206
theorem E_205 : E_ 205 := E_.back (show E_ (IntKind.i64.wrap (205 + 1)) from E_206) T_205
theorem E_204 : E_ 204 := E_.back (show E_ (IntKind.i64.wrap (204 + 1)) from E_205) T_204
theorem E_203 : E_ 203 := E_.back (show E_ (IntKind.i64.wrap (203 + 1)) from E_204) T_203
theorem E_202 : E_ 202 := E_.back (show E_ (IntKind.i64.wrap (202 + 1)) from E_203) T_202
theorem E_201 : E_ 201 := E_.back (show E_ (IntKind.i64.wrap (201 + 1)) from E_202) T_201
theorem E_200 : E_ 200 := E_.back (show E_ (IntKind.i64.wrap (200 + 1)) from E_201) T_200
theorem E_199 : E_ 199 := E_.back (show E_ (IntKind.i64.wrap (199 + 1)) from E_200) T_199
theorem E_198 : E_ 198 := E_.back (show E_ (IntKind.i64.wrap (198 + 1)) from E_199) T_198
theorem E_197 : E_ 197 := E_.back (show E_ (IntKind.i64.wrap (197 + 1)) from E_198) T_197
theorem E_196 : E_ 196 := E_.back (show E_ (IntKind.i64.wrap (196 + 1)) from E_197) T_196
theorem E_195 : E_ 195 := E_.back (show E_ (IntKind.i64.wrap (195 + 1)) from E_196) T_195
theorem E_194 : E_ 194 := E_.back (show E_ (IntKind.i64.wrap (194 + 1)) from E_195) T_194
theorem E_193 : E_ 193 := E_.back (show E_ (IntKind.i64.wrap (193 + 1)) from E_194) T_193
theorem E_192 : E_ 192 := E_.back (show E_ (IntKind.i64.wrap (192 + 1)) from E_193) T_192
theorem E_191 : E_ 191 := E_.back (show E_ (IntKind.i64.wrap (191 + 1)) from E_192) T_191
theorem E_190 : E_ 190 := E_.back (show E_ (IntKind.i64.wrap (190 + 1)) from E_191) T_190
theorem E_189 : E_ 189 := E_.back (show E_ (IntKind.i64.wrap (189 + 1)) from E_190) T_189
theorem E_188 : E_ 188 := E_.back (show E_ (IntKind.i64.wrap (188 + 1)) from E_189) T_188
theorem E_187 : E_ 187 := E_.back (show E_ (IntKind.i64.wrap (187 + 1)) from E_188) T_187
theorem E_186 : E_ 186 := E_.back (show E_ (IntKind.i64.wrap (186 + 1)) from E_187) T_186
theorem E_185 : E_ 185 := E_.back (show E_ (IntKind.i64.wrap (185 + 1)) from E_186) T_185
theorem E_184 : E_ 184 := E_.back (show E_ (IntKind.i64.wrap (184 + 1)) from E_185) T_184
theorem E_183 : E_ 183 := E_.back (show E_ (IntKind.i64.wrap (183 + 1)) from E_184) T_183
theorem E_182 : E_ 182 := E_.back (show E_ (IntKind.i64.wrap (182 + 1)) from E_183) T_182
theorem E_181 : E_ 181 := E_.back (show E_ (IntKind.i64.wrap (181 + 1)) from E_182) T_181
theorem E_180 : E_ 180 := E_.back (show E_ (IntKind.i64.wrap (180 + 1)) from E_181) T_180
theorem E_179 : E_ 179 := E_.back (show E_ (IntKind.i64.wrap (179 + 1)) from E_180) T_179
theorem E_178 : E_ 178 := E_.back (show E_ (IntKind.i64.wrap (178 + 1)) from E_179) T_178
theorem E_177 : E_ 177 := E_.back (show E_ (IntKind.i64.wrap (177 + 1)) from E_178) T_177
theorem E_176 : E_ 176 := E_.back (show E_ (IntKind.i64.wrap (176 + 1)) from E_177) T_176
theorem E_175 : E_ 175 := E_.back (show E_ (IntKind.i64.wrap (175 + 1)) from E_176) T_175
theorem E_174 : E_ 174 := E_.back (show E_ (IntKind.i64.wrap (174 + 1)) from E_175) T_174
theorem E_173 : E_ 173 := E_.back (show E_ (IntKind.i64.wrap (173 + 1)) from E_174) T_173
theorem E_172 : E_ 172 := E_.back (show E_ (IntKind.i64.wrap (172 + 1)) from E_173) T_172
theorem E_171 : E_ 171 := E_.back (show E_ (IntKind.i64.wrap (171 + 1)) from E_172) T_171
theorem E_170 : E_ 170 := E_.back (show E_ (IntKind.i64.wrap (170 + 1)) from E_171) T_170
theorem E_169 : E_ 169 := E_.back (show E_ (IntKind.i64.wrap (169 + 1)) from E_170) T_169
theorem E_168 : E_ 168 := E_.back (show E_ (IntKind.i64.wrap (168 + 1)) from E_169) T_168
theorem E_167 : E_ 167 := E_.back (show E_ (IntKind.i64.wrap (167 + 1)) from E_168) T_167
theorem E_166 : E_ 166 := E_.back (show E_ (IntKind.i64.wrap (166 + 1)) from E_167) T_166
theorem E_165 : E_ 165 := E_.back (show E_ (IntKind.i64.wrap (165 + 1)) from E_166) T_165
theorem E_164 : E_ 164 := E_.back (show E_ (IntKind.i64.wrap (164 + 1)) from E_165) T_164
theorem E_163 : E_ 163 := E_.back (show E_ (IntKind.i64.wrap (163 + 1)) from E_164) T_163
theorem E_162 : E_ 162 := E_.back (show E_ (IntKind.i64.wrap (162 + 1)) from E_163) T_162
theorem E_161 : E_ 161 := E_.back (show E_ (IntKind.i64.wrap (161 + 1)) from E_162) T_161
theorem E_160 : E_ 160 := E_.back (show E_ (IntKind.i64.wrap (160 + 1)) from E_161) T_160
theorem E_159 : E_ 159 := E_.back (show E_ (IntKind.i64.wrap (159 + 1)) from E_160) T_159
theorem E_158 : E_ 158 := E_.back (show E_ (IntKind.i64.wrap (158 + 1)) from E_159) T_158
theorem E_157 : E_ 157 := E_.back (show E_ (IntKind.i64.wrap (157 + 1)) from E_158) T_157
theorem E_156 : E_ 156 := E_.back (show E_ (IntKind.i64.wrap (156 + 1)) from E_157) T_156
theorem E_155 : E_ 155 := E_.back (show E_ (IntKind.i64.wrap (155 + 1)) from E_156) T_155
theorem E_154 : E_ 154 := E_.back (show E_ (IntKind.i64.wrap (154 + 1)) from E_155) T_154
theorem E_153 : E_ 153 := E_.back (show E_ (IntKind.i64.wrap (153 + 1)) from E_154) T_153
theorem E_152 : E_ 152 := E_.back (show E_ (IntKind.i64.wrap (152 + 1)) from E_153) T_152
theorem E_151 : E_ 151 := E_.back (show E_ (IntKind.i64.wrap (151 + 1)) from E_152) T_151
theorem E_150 : E_ 150 := E_.back (show E_ (IntKind.i64.wrap (150 + 1)) from E_151) T_150
theorem E_149 : E_ 149 := E_.back (show E_ (IntKind.i64.wrap (149 + 1)) from E_150) T_149
theorem E_148 : E_ 148 := E_.back (show E_ (IntKind.i64.wrap (148 + 1)) from E_149) T_148
theorem E_147 : E_ 147 := E_.back (show E_ (IntKind.i64.wrap (147 + 1)) from E_148) T_147
theorem E_146 : E_ 146 := E_.back (show E_ (IntKind.i64.wrap (146 + 1)) from E_147) T_146
theorem E_145 : E_ 145 := E_.back (show E_ (IntKind.i64.wrap (145 + 1)) from E_146) T_145
theorem E_144 : E_ 144 := E_.back (show E_ (IntKind.i64.wrap (144 + 1)) from E_145) T_144
theorem E_143 : E_ 143 := E_.back (show E_ (IntKind.i64.wrap (143 + 1)) from E_144) T_143
theorem E_142 : E_ 142 := E_.back (show E_ (IntKind.i64.wrap (142 + 1)) from E_143) T_142
theorem E_141 : E_ 141 := E_.back (show E_ (IntKind.i64.wrap (141 + 1)) from E_142) T_141
theorem E_140 : E_ 140 := E_.back (show E_ (IntKind.i64.wrap (140 + 1)) from E_141) T_140
theorem E_139 : E_ 139 := E_.back (show E_ (IntKind.i64.wrap (139 + 1)) from E_140) T_139
theorem E_138 : E_ 138 := E_.back (show E_ (IntKind.i64.wrap (138 + 1)) from E_139) T_138
theorem E_137 : E_ 137 := E_.back (show E_ (IntKind.i64.wrap (137 + 1)) from E_138) T_137
theorem E_136 : E_ 136 := E_.back (show E_ (IntKind.i64.wrap (136 + 1)) from E_137) T_136
theorem E_135 : E_ 135 := E_.back (show E_ (IntKind.i64.wrap (135 + 1)) from E_136) T_135
theorem E_134 : E_ 134 := E_.back (show E_ (IntKind.i64.wrap (134 + 1)) from E_135) T_134
theorem E_133 : E_ 133 := E_.back (show E_ (IntKind.i64.wrap (133 + 1)) from E_134) T_133
theorem E_132 : E_ 132 := E_.back (show E_ (IntKind.i64.wrap (132 + 1)) from E_133) T_132
theorem E_131 : E_ 131 := E_.back (show E_ (IntKind.i64.wrap (131 + 1)) from E_132) T_131
theorem E_130 : E_ 130 := E_.back (show E_ (IntKind.i64.wrap (130 + 1)) from E_131) T_130
theorem E_129 : E_ 129 := E_.back (show E_ (IntKind.i64.wrap (129 + 1)) from E_130) T_129
theorem E_128 : E_ 128 := E_.back (show E_ (IntKind.i64.wrap (128 + 1)) from E_129) T_128
theorem E_127 : E_ 127 := E_.back (show E_ (IntKind.i64.wrap (127 + 1)) from E_128) T_127
theorem E_126 : E_ 126 := E_.back (show E_ (IntKind.i64.wrap (126 + 1)) from E_127) T_126
theorem E_125 : E_ 125 := E_.back (show E_ (IntKind.i64.wrap (125 + 1)) from E_126) T_125
theorem E_124 : E_ 124 := E_.back (show E_ (IntKind.i64.wrap (124 + 1)) from E_125) T_124
theorem E_123 : E_ 123 := E_.back (show E_ (IntKind.i64.wrap (123 + 1)) from E_124) T_123
theorem E_122 : E_ 122 := E_.back (show E_ (IntKind.i64.wrap (122 + 1)) from E_123) T_122
theorem E_121 : E_ 121 := E_.back (show E_ (IntKind.i64.wrap (121 + 1)) from E_122) T_121
theorem E_120 : E_ 120 := E_.back (show E_ (IntKind.i64.wrap (120 + 1)) from E_121) T_120
theorem E_119 : E_ 119 := E_.back (show E_ (IntKind.i64.wrap (119 + 1)) from E_120) T_119
theorem E_118 : E_ 118 := E_.back (show E_ (IntKind.i64.wrap (118 + 1)) from E_119) T_118
theorem E_117 : E_ 117 := E_.back (show E_ (IntKind.i64.wrap (117 + 1)) from E_118) T_117
theorem E_116 : E_ 116 := E_.back (show E_ (IntKind.i64.wrap (116 + 1)) from E_117) T_116
theorem E_115 : E_ 115 := E_.back (show E_ (IntKind.i64.wrap (115 + 1)) from E_116) T_115
theorem E_114 : E_ 114 := E_.back (show E_ (IntKind.i64.wrap (114 + 1)) from E_115) T_114
theorem E_113 : E_ 113 := E_.back (show E_ (IntKind.i64.wrap (113 + 1)) from E_114) T_113
theorem E_112 : E_ 112 := E_.back (show E_ (IntKind.i64.wrap (112 + 1)) from E_113) T_112
theorem E_111 : E_ 111 := E_.back (show E_ (IntKind.i64.wrap (111 + 1)) from E_112) T_111
theorem E_110 : E_ 110 := E_.back (show E_ (IntKind.i64.wrap (110 + 1)) from E_111) T_110
theorem E_109 : E_ 109 := E_.back (show E_ (IntKind.i64.wrap (109 + 1)) from E_110) T_109
theorem E_108 : E_ 108 := E_.back (show E_ (IntKind.i64.wrap (108 + 1)) from E_109) T_108
theorem E_107 : E_ 107 := E_.back (show E_ (IntKind.i64.wrap (107 + 1)) from E_108) T_107
theorem E_106 : E_ 106 := E_.back (show E_ (IntKind.i64.wrap (106 + 1)) from E_107) T_106
theorem E_105 : E_ 105 := E_.back (show E_ (IntKind.i64.wrap (105 + 1)) from E_106) T_105
theorem E_104 : E_ 104 := E_.back (show E_ (IntKind.i64.wrap (104 + 1)) from E_105) T_104
theorem E_103 : E_ 103 := E_.back (show E_ (IntKind.i64.wrap (103 + 1)) from E_104) T_103
theorem E_102 : E_ 102 := E_.back (show E_ (IntKind.i64.wrap (102 + 1)) from E_103) T_102
theorem E_101 : E_ 101 := E_.back (show E_ (IntKind.i64.wrap (101 + 1)) from E_102) T_101
theorem E_100 : E_ 100 := E_.back (show E_ (IntKind.i64.wrap (100 + 1)) from E_101) T_100
theorem E_99 : E_ 99 := E_.back (show E_ (IntKind.i64.wrap (99 + 1)) from E_100) T_99
theorem E_98 : E_ 98 := E_.back (show E_ (IntKind.i64.wrap (98 + 1)) from E_99) T_98
theorem E_97 : E_ 97 := E_.back (show E_ (IntKind.i64.wrap (97 + 1)) from E_98) T_97
theorem E_96 : E_ 96 := E_.back (show E_ (IntKind.i64.wrap (96 + 1)) from E_97) T_96
theorem E_95 : E_ 95 := E_.back (show E_ (IntKind.i64.wrap (95 + 1)) from E_96) T_95
theorem E_94 : E_ 94 := E_.back (show E_ (IntKind.i64.wrap (94 + 1)) from E_95) T_94
theorem E_93 : E_ 93 := E_.back (show E_ (IntKind.i64.wrap (93 + 1)) from E_94) T_93
theorem E_92 : E_ 92 := E_.back (show E_ (IntKind.i64.wrap (92 + 1)) from E_93) T_92
theorem E_91 : E_ 91 := E_.back (show E_ (IntKind.i64.wrap (91 + 1)) from E_92) T_91
theorem E_90 : E_ 90 := E_.back (show E_ (IntKind.i64.wrap (90 + 1)) from E_91) T_90
theorem E_89 : E_ 89 := E_.back (show E_ (IntKind.i64.wrap (89 + 1)) from E_90) T_89
theorem E_88 : E_ 88 := E_.back (show E_ (IntKind.i64.wrap (88 + 1)) from E_89) T_88
theorem E_87 : E_ 87 := E_.back (show E_ (IntKind.i64.wrap (87 + 1)) from E_88) T_87
theorem E_86 : E_ 86 := E_.back (show E_ (IntKind.i64.wrap (86 + 1)) from E_87) T_86
theorem E_85 : E_ 85 := E_.back (show E_ (IntKind.i64.wrap (85 + 1)) from E_86) T_85
theorem E_84 : E_ 84 := E_.back (show E_ (IntKind.i64.wrap (84 + 1)) from E_85) T_84
theorem E_83 : E_ 83 := E_.back (show E_ (IntKind.i64.wrap (83 + 1)) from E_84) T_83
theorem E_82 : E_ 82 := E_.back (show E_ (IntKind.i64.wrap (82 + 1)) from E_83) T_82
theorem E_81 : E_ 81 := E_.back (show E_ (IntKind.i64.wrap (81 + 1)) from E_82) T_81
theorem E_80 : E_ 80 := E_.back (show E_ (IntKind.i64.wrap (80 + 1)) from E_81) T_80
theorem E_79 : E_ 79 := E_.back (show E_ (IntKind.i64.wrap (79 + 1)) from E_80) T_79
theorem E_78 : E_ 78 := E_.back (show E_ (IntKind.i64.wrap (78 + 1)) from E_79) T_78
theorem E_77 : E_ 77 := E_.back (show E_ (IntKind.i64.wrap (77 + 1)) from E_78) T_77
theorem E_76 : E_ 76 := E_.back (show E_ (IntKind.i64.wrap (76 + 1)) from E_77) T_76
theorem E_75 : E_ 75 := E_.back (show E_ (IntKind.i64.wrap (75 + 1)) from E_76) T_75
theorem E_74 : E_ 74 := E_.back (show E_ (IntKind.i64.wrap (74 + 1)) from E_75) T_74
theorem E_73 : E_ 73 := E_.back (show E_ (IntKind.i64.wrap (73 + 1)) from E_74) T_73
theorem E_72 : E_ 72 := E_.back (show E_ (IntKind.i64.wrap (72 + 1)) from E_73) T_72
theorem E_71 : E_ 71 := E_.back (show E_ (IntKind.i64.wrap (71 + 1)) from E_72) T_71
theorem E_70 : E_ 70 := E_.back (show E_ (IntKind.i64.wrap (70 + 1)) from E_71) T_70
theorem E_69 : E_ 69 := E_.back (show E_ (IntKind.i64.wrap (69 + 1)) from E_70) T_69
theorem E_68 : E_ 68 := E_.back (show E_ (IntKind.i64.wrap (68 + 1)) from E_69) T_68
theorem E_67 : E_ 67 := E_.back (show E_ (IntKind.i64.wrap (67 + 1)) from E_68) T_67
theorem E_66 : E_ 66 := E_.back (show E_ (IntKind.i64.wrap (66 + 1)) from E_67) T_66
theorem E_65 : E_ 65 := E_.back (show E_ (IntKind.i64.wrap (65 + 1)) from E_66) T_65
theorem E_64 : E_ 64 := E_.back (show E_ (IntKind.i64.wrap (64 + 1)) from E_65) T_64
theorem E_63 : E_ 63 := E_.back (show E_ (IntKind.i64.wrap (63 + 1)) from E_64) T_63
theorem E_62 : E_ 62 := E_.back (show E_ (IntKind.i64.wrap (62 + 1)) from E_63) T_62
theorem E_61 : E_ 61 := E_.back (show E_ (IntKind.i64.wrap (61 + 1)) from E_62) T_61
theorem E_60 : E_ 60 := E_.back (show E_ (IntKind.i64.wrap (60 + 1)) from E_61) T_60
theorem E_59 : E_ 59 := E_.back (show E_ (IntKind.i64.wrap (59 + 1)) from E_60) T_59
theorem E_58 : E_ 58 := E_.back (show E_ (IntKind.i64.wrap (58 + 1)) from E_59) T_58
theorem E_57 : E_ 57 := E_.back (show E_ (IntKind.i64.wrap (57 + 1)) from E_58) T_57
theorem E_56 : E_ 56 := E_.back (show E_ (IntKind.i64.wrap (56 + 1)) from E_57) T_56
theorem E_55 : E_ 55 := E_.back (show E_ (IntKind.i64.wrap (55 + 1)) from E_56) T_55
theorem E_54 : E_ 54 := E_.back (show E_ (IntKind.i64.wrap (54 + 1)) from E_55) T_54
theorem E_53 : E_ 53 := E_.back (show E_ (IntKind.i64.wrap (53 + 1)) from E_54) T_53
theorem E_52 : E_ 52 := E_.back (show E_ (IntKind.i64.wrap (52 + 1)) from E_53) T_52
theorem E_51 : E_ 51 := E_.back (show E_ (IntKind.i64.wrap (51 + 1)) from E_52) T_51
theorem E_50 : E_ 50 := E_.back (show E_ (IntKind.i64.wrap (50 + 1)) from E_51) T_50
theorem E_49 : E_ 49 := E_.back (show E_ (IntKind.i64.wrap (49 + 1)) from E_50) T_49
theorem E_48 : E_ 48 := E_.back (show E_ (IntKind.i64.wrap (48 + 1)) from E_49) T_48
theorem E_47 : E_ 47 := E_.back (show E_ (IntKind.i64.wrap (47 + 1)) from E_48) T_47
theorem E_46 : E_ 46 := E_.back (show E_ (IntKind.i64.wrap (46 + 1)) from E_47) T_46
theorem E_45 : E_ 45 := E_.back (show E_ (IntKind.i64.wrap (45 + 1)) from E_46) T_45
theorem E_44 : E_ 44 := E_.back (show E_ (IntKind.i64.wrap (44 + 1)) from E_45) T_44
theorem E_43 : E_ 43 := E_.back (show E_ (IntKind.i64.wrap (43 + 1)) from E_44) T_43
theorem E_42 : E_ 42 := E_.back (show E_ (IntKind.i64.wrap (42 + 1)) from E_43) T_42
theorem E_41 : E_ 41 := E_.back (show E_ (IntKind.i64.wrap (41 + 1)) from E_42) T_41
theorem E_40 : E_ 40 := E_.back (show E_ (IntKind.i64.wrap (40 + 1)) from E_41) T_40
theorem E_39 : E_ 39 := E_.back (show E_ (IntKind.i64.wrap (39 + 1)) from E_40) T_39
theorem E_38 : E_ 38 := E_.back (show E_ (IntKind.i64.wrap (38 + 1)) from E_39) T_38
theorem E_37 : E_ 37 := E_.back (show E_ (IntKind.i64.wrap (37 + 1)) from E_38) T_37
theorem E_36 : E_ 36 := E_.back (show E_ (IntKind.i64.wrap (36 + 1)) from E_37) T_36
theorem E_35 : E_ 35 := E_.back (show E_ (IntKind.i64.wrap (35 + 1)) from E_36) T_35
theorem E_34 : E_ 34 := E_.back (show E_ (IntKind.i64.wrap (34 + 1)) from E_35) T_34
theorem E_33 : E_ 33 := E_.back (show E_ (IntKind.i64.wrap (33 + 1)) from E_34) T_33
theorem E_32 : E_ 32 := E_.back (show E_ (IntKind.i64.wrap (32 + 1)) from E_33) T_32
theorem E_31 : E_ 31 := E_.back (show E_ (IntKind.i64.wrap (31 + 1)) from E_32) T_31
theorem E_30 : E_ 30 := E_.back (show E_ (IntKind.i64.wrap (30 + 1)) from E_31) T_30
theorem E_29 : E_ 29 := E_.back (show E_ (IntKind.i64.wrap (29 + 1)) from E_30) T_29
theorem E_28 : E_ 28 := E_.back (show E_ (IntKind.i64.wrap (28 + 1)) from E_29) T_28
theorem E_27 : E_ 27 := E_.back (show E_ (IntKind.i64.wrap (27 + 1)) from E_28) T_27
theorem E_26 : E_ 26 := E_.back (show E_ (IntKind.i64.wrap (26 + 1)) from E_27) T_26
theorem E_25 : E_ 25 := E_.back (show E_ (IntKind.i64.wrap (25 + 1)) from E_26) T_25
theorem E_24 : E_ 24 := E_.back (show E_ (IntKind.i64.wrap (24 + 1)) from E_25) T_24
theorem E_23 : E_ 23 := E_.back (show E_ (IntKind.i64.wrap (23 + 1)) from E_24) T_23
theorem E_22 : E_ 22 := E_.back (show E_ (IntKind.i64.wrap (22 + 1)) from E_23) T_22
theorem E_21 : E_ 21 := E_.back (show E_ (IntKind.i64.wrap (21 + 1)) from E_22) T_21
theorem E_20 : E_ 20 := E_.back (show E_ (IntKind.i64.wrap (20 + 1)) from E_21) T_20
theorem E_19 : E_ 19 := E_.back (show E_ (IntKind.i64.wrap (19 + 1)) from E_20) T_19
theorem E_18 : E_ 18 := E_.back (show E_ (IntKind.i64.wrap (18 + 1)) from E_19) T_18
theorem E_17 : E_ 17 := E_.back (show E_ (IntKind.i64.wrap (17 + 1)) from E_18) T_17
theorem E_16 : E_ 16 := E_.back (show E_ (IntKind.i64.wrap (16 + 1)) from E_17) T_16
theorem E_15 : E_ 15 := E_.back (show E_ (IntKind.i64.wrap (15 + 1)) from E_16) T_15
theorem E_14 : E_ 14 := E_.back (show E_ (IntKind.i64.wrap (14 + 1)) from E_15) T_14
theorem E_13 : E_ 13 := E_.back (show E_ (IntKind.i64.wrap (13 + 1)) from E_14) T_13
theorem E_12 : E_ 12 := E_.back (show E_ (IntKind.i64.wrap (12 + 1)) from E_13) T_12
theorem E_11 : E_ 11 := E_.back (show E_ (IntKind.i64.wrap (11 + 1)) from E_12) T_11
theorem E_10 : E_ 10 := E_.back (show E_ (IntKind.i64.wrap (10 + 1)) from E_11) T_10
theorem E_9 : E_ 9 := E_.back (show E_ (IntKind.i64.wrap (9 + 1)) from E_10) T_9
theorem E_8 : E_ 8 := E_.back (show E_ (IntKind.i64.wrap (8 + 1)) from E_9) T_8
theorem E_7 : E_ 7 := E_.back (show E_ (IntKind.i64.wrap (7 + 1)) from E_8) T_7
theorem E_6 : E_ 6 := E_.back (show E_ (IntKind.i64.wrap (6 + 1)) from E_7) T_6
theorem E_5 : E_ 5 := E_.back (show E_ (IntKind.i64.wrap (5 + 1)) from E_6) T_5
theorem E_4 : E_ 4 := E_.back (show E_ (IntKind.i64.wrap (4 + 1)) from E_5) T_4
theorem E_3 : E_ 3 := E_.back (show E_ (IntKind.i64.wrap (3 + 1)) from E_4) T_3
theorem E_2 : E_ 2 := E_.back (show E_ (IntKind.i64.wrap (2 + 1)) from E_3) T_2
theorem E_1 : E_ 1 := E_.back (show E_ (IntKind.i64.wrap (1 + 1)) from E_2) T_1
theorem E_0 : E_ 0 := E_.back (show E_ (IntKind.i64.wrap (0 + 1)) from E_1) T_0
theorem pure_BodyOps (x0 : List gangwaylaw8_Ask) (_ : x0.length * 176 ≤ 140737488351232 ∧ ∀ y ∈ x0, ok_gangwaylaw8_Ask y) : ∃ k, gangwaylaw8_BodyOps.f k x0 = some true := by
  obtain ⟨k, hk⟩ := E_0 x0
  exact ⟨k + 60, hk⟩
end Go.Proofs.Ytnlnjcgoodgmbaa.Den
