import Derived.Test.YtiikmhomlhgobaaD13
set_option linter.unusedVariables false
namespace Go.Proofs.Ytiikmhomlhgobaa.Den
open Go Go.Proofs.YtiikmhomlhgobaaM Go.Proofs.YtiikmhomlhgobaaM.Tys Go.Proofs.YtiikmhomlhgobaaM.Tab
structure api_Sub where
  User : Int
  Kind : Int
  Fd : Int
  Timeout : Int
  Abs : Bool
def z_api_Sub : api_Sub := ⟨(0 : Int), (0 : Int), (0 : Int), (0 : Int), false⟩
structure api_Event where
  User : Int
  Err : Int
  Kind : Int
  Bytes : Int
def z_api_Event : api_Event := ⟨(0 : Int), (0 : Int), (0 : Int), (0 : Int)⟩
structure gangwaylaw24_Ask where
  L : (List api_Sub)
  Now : Int
  Ready : (List api_Event)
def z_gangwaylaw24_Ask : gangwaylaw24_Ask := ⟨([] : List api_Sub), (0 : Int), ([] : List api_Event)⟩
structure poll_alarm where
  when_ : Int
  at_ : Int
def z_poll_alarm : poll_alarm := ⟨(0 : Int), (0 : Int)⟩
def elB (t : Nat) : (α : Type) × α := match t with
  | 4 => ⟨Bool, false⟩
  | 26 => ⟨gangwaylaw24_Ask, z_gangwaylaw24_Ask⟩
  | 40 => ⟨api_Sub, z_api_Sub⟩
  | 42 => ⟨api_Event, z_api_Event⟩
  | 52 => ⟨poll_alarm, z_poll_alarm⟩
  | _ => ⟨Unit, ()⟩
instance tys : Tys := ⟨fun t => (elB t).1, fun t => (elB t).2⟩
end Go.Proofs.Ytiikmhomlhgobaa.Den
namespace Go.Proofs.Ytiikmhomlhgobaa.Den
open Go
def ok_api_Sub (x : api_Sub) : Prop := (Lit.int .i64 x.User).wf = true ∧ (Lit.int .i64 x.Kind).wf = true ∧ (Lit.int .i64 x.Fd).wf = true ∧ (Lit.int .i64 x.Timeout).wf = true ∧ True
def ok_api_Event (x : api_Event) : Prop := (Lit.int .i64 x.User).wf = true ∧ (Lit.int .i64 x.Err).wf = true ∧ (Lit.int .i64 x.Kind).wf = true ∧ (Lit.int .i64 x.Bytes).wf = true
def ok_gangwaylaw24_Ask (x : gangwaylaw24_Ask) : Prop := (x.L.length * 40 ≤ 140737488351232 ∧ ∀ y1 ∈ x.L, ok_api_Sub y1) ∧ (Lit.int .i64 x.Now).wf = true ∧ (x.Ready.length * 32 ≤ 140737488351232 ∧ ∀ y2 ∈ x.Ready, ok_api_Event y2)
end Go.Proofs.Ytiikmhomlhgobaa.Den
