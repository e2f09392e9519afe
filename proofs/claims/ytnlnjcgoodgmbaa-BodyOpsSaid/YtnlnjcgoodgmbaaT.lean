import Derived.Test.YtnlnjcgoodgmbaaD13
set_option linter.unusedVariables false
set_option maxRecDepth 10000
namespace Go.Proofs.Ytnlnjcgoodgmbaa.Den
open Go Go.Proofs.YtnlnjcgoodgmbaaM Go.Proofs.YtnlnjcgoodgmbaaM.Tys Go.Proofs.YtnlnjcgoodgmbaaM.Tab
structure api_FuncType where
  Params : (List Int)
  Results : (List Int)
def z_api_FuncType : api_FuncType := ⟨([] : List Int), ([] : List Int)⟩
structure api_Instr where
  Op : Int
  Type_ : Int
  Index : Int
  Align : Int
  Offset : Int
  Val : Int
  Labels : (List Int)
  Body : (List api_Instr)
  Else : (List api_Instr)
def z_api_Instr : api_Instr := ⟨(0 : Int), (0 : Int), (0 : Int), (0 : Int), (0 : Int), (0 : Int), ([] : List Int), ([] : List api_Instr), ([] : List api_Instr)⟩
structure api_Global where
  Type_ : Int
  Mut : Bool
  Init : api_Instr
def z_api_Global : api_Global := ⟨(0 : Int), false, z_api_Instr⟩
structure gangwaylaw8_Ask where
  Funcs : (List api_FuncType)
  Types : (List api_FuncType)
  Globals : (List api_Global)
  Table : Bool
  Memory : Bool
  F : api_FuncType
  Locals : (List Int)
  L : (List api_Instr)
def z_gangwaylaw8_Ask : gangwaylaw8_Ask := ⟨([] : List api_FuncType), ([] : List api_FuncType), ([] : List api_Global), false, false, z_api_FuncType, ([] : List Int), ([] : List api_Instr)⟩
structure body_frame where
  label_ : (List Int)
  result_ : (List Int)
  high_ : Int
  dead_ : Bool
def z_body_frame : body_frame := ⟨([] : List Int), ([] : List Int), (0 : Int), false⟩
structure body_access where
  bytes_ : Int
  typ_ : Int
def z_body_access : body_access := ⟨(0 : Int), (0 : Int)⟩
structure gangwayref7_frame where
  label_ : (List Int)
  result_ : (List Int)
  height_ : Int
  dead_ : Bool
def z_gangwayref7_frame : gangwayref7_frame := ⟨([] : List Int), ([] : List Int), (0 : Int), false⟩
def elB (t : Nat) : (α : Type) × α := match t with
  | 3 => ⟨Int, (0 : Int)⟩
  | 25 => ⟨(List Int), ([] : List Int)⟩
  | 27 => ⟨api_FuncType, z_api_FuncType⟩
  | 30 => ⟨gangwaylaw8_Ask, z_gangwaylaw8_Ask⟩
  | 41 => ⟨api_Instr, z_api_Instr⟩
  | 44 => ⟨api_Global, z_api_Global⟩
  | 73 => ⟨gangwayref7_frame, z_gangwayref7_frame⟩
  | 86 => ⟨body_frame, z_body_frame⟩
  | 109 => ⟨body_access, z_body_access⟩
  | _ => ⟨Unit, ()⟩
instance tys : Tys := ⟨fun t => (elB t).1, fun t => (elB t).2⟩
end Go.Proofs.Ytnlnjcgoodgmbaa.Den
namespace Go.Proofs.Ytnlnjcgoodgmbaa.Den
open Go
def ok_api_FuncType (x : api_FuncType) : Prop := (x.Params.length * 8 ≤ 140737488351232 ∧ ∀ y1 ∈ x.Params, (Lit.int .i64 y1).wf = true) ∧ (x.Results.length * 8 ≤ 140737488351232 ∧ ∀ y2 ∈ x.Results, (Lit.int .i64 y2).wf = true)
def ok41n : Nat → api_Instr → Prop
  | 0, _ => False
  | n + 1, x => (Lit.int .i64 x.Op).wf = true ∧ (Lit.int .i64 x.Type_).wf = true ∧ (Lit.int .i64 x.Index).wf = true ∧ (Lit.int .i64 x.Align).wf = true ∧ (Lit.int .i64 x.Offset).wf = true ∧ (Lit.int .i64 x.Val).wf = true ∧ (x.Labels.length * 8 ≤ 140737488351232 ∧ ∀ y3 ∈ x.Labels, (Lit.int .i64 y3).wf = true) ∧ (x.Body.length * 120 ≤ 140737488351232 ∧ ∀ y ∈ x.Body, ok41n n y) ∧ (x.Else.length * 120 ≤ 140737488351232 ∧ ∀ y ∈ x.Else, ok41n n y)
def ok_api_Instr (x : api_Instr) : Prop := ∃ n, ok41n n x
def ok_api_Global (x : api_Global) : Prop := (Lit.int .i64 x.Type_).wf = true ∧ True ∧ ok_api_Instr x.Init
def ok_gangwaylaw8_Ask (x : gangwaylaw8_Ask) : Prop := (x.Funcs.length * 48 ≤ 140737488351232 ∧ ∀ y4 ∈ x.Funcs, ok_api_FuncType y4) ∧ (x.Types.length * 48 ≤ 140737488351232 ∧ ∀ y5 ∈ x.Types, ok_api_FuncType y5) ∧ (x.Globals.length * 136 ≤ 140737488351232 ∧ ∀ y6 ∈ x.Globals, ok_api_Global y6) ∧ True ∧ True ∧ ok_api_FuncType x.F ∧ (x.Locals.length * 8 ≤ 140737488351232 ∧ ∀ y7 ∈ x.Locals, (Lit.int .i64 y7).wf = true) ∧ (x.L.length * 120 ≤ 140737488351232 ∧ ∀ y8 ∈ x.L, ok_api_Instr y8)
end Go.Proofs.Ytnlnjcgoodgmbaa.Den
