import Derived.Test.YtiikmhomlhgobaaT
set_option linter.unusedVariables false
namespace Go.Proofs.Ytiikmhomlhgobaa.Den
open Go Go.Proofs.YtiikmhomlhgobaaM Go.Proofs.YtiikmhomlhgobaaM.Tys Go.Proofs.YtiikmhomlhgobaaM.Tab
/-! ### gangway/gangwayref0.Time -/
abbrev gangwayref0_Time.R : Type := Bool
inductive gangwayref0_Time.L where
def gangwayref0_Time.go : Nat → gangwayref0_Time.L → Option gangwayref0_Time.R := fun _ _ => none
def gangwayref0_Time.f (k : Nat) (a0 : Int) : Option gangwayref0_Time.R :=
  if a0 ≥ (0 : Int) then
    some (decide (a0 ≤ (1125899906842624 : Int)))
  else
    some false
/-! ### gangway/gangwayref23.MayOrder -/
abbrev gangwayref23_MayOrder.R : Type := Bool
inductive gangwayref23_MayOrder.L where
  | s4 (x0 : List api_Sub) (x1 : Int)
def gangwayref23_MayOrder.go : Nat → gangwayref23_MayOrder.L → Option gangwayref23_MayOrder.R
  | 0, _ => none
  | k + 1, .s4 x0 x1 =>
    if x1 < (x0.length : Int) then
      inB x1 x0.length <|
      if ((x0.getD x1.toNat z_api_Sub).Kind) < (0 : Int) then
        some false
      else
        inB x1 x0.length <|
        if ((x0.getD x1.toNat z_api_Sub).Kind) > (2 : Int) then
          some false
        else
          inB x1 x0.length <|
          (gangwayref0_Time.f k ((x0.getD x1.toNat z_api_Sub).Timeout)).bind fun r2 =>
          if (!r2) = true then
            some false
          else
            gangwayref23_MayOrder.go k (.s4 x0 (IntKind.i64.wrap (x1 + (1 : Int))))
    else
      some true
def gangwayref23_MayOrder.f (k : Nat) (a0 : List api_Sub) (a1 : Int) (a2 : List api_Event) : Option gangwayref23_MayOrder.R :=
  (gangwayref0_Time.f k a1).bind fun r1 =>
  if (!r1) = true then
    some false
  else
    if (a0.length : Int) < (1 : Int) then
      some false
    else
      if (a0.length : Int) > (32 : Int) then
        some false
      else
        if ¬ (a2.length : Int) = (a0.length : Int) then
          some false
        else
          gangwayref23_MayOrder.go k (.s4 a0 (0 : Int))
/-! ### gangway/gangwayref23.when -/
abbrev gangwayref23_when.R : Type := Int
inductive gangwayref23_when.L where
def gangwayref23_when.go : Nat → gangwayref23_when.L → Option gangwayref23_when.R := fun _ _ => none
def gangwayref23_when.f (k : Nat) (a0 : Int) (a1 : Int) (a2 : Int) (a3 : Int) (a4 : Bool) (a5 : Int) : Option gangwayref23_when.R :=
  if a4 = true then
    some a3
  else
    some (IntKind.i64.wrap (a5 + a3))
/-! ### gangway/gangwayref23.Order -/
abbrev gangwayref23_Order.R : Type := List api_Event
inductive gangwayref23_Order.L where
  | s6 (x0 : List api_Sub) (x1 : Int) (x2 : List api_Event) (x3 : Int) (x4 : Int) (x5 : Bool) (x6 : Int) (x7 : List api_Event)
  | s16 (x0 : List api_Sub) (x1 : Int) (x2 : Int) (x3 : List api_Event) (x4 : List Bool)
  | s18 (x0 : List api_Sub) (x1 : Int) (x2 : Int) (x3 : Int) (x4 : Int) (x5 : List api_Event) (x6 : List Bool)
def gangwayref23_Order.go : Nat → gangwayref23_Order.L → Option gangwayref23_Order.R
  | 0, _ => none
  | k + 1, .s6 x0 x1 x2 x3 x4 x5 x6 x7 =>
    if x6 < (x0.length : Int) then
      inB x6 x0.length <|
      if ((x0.getD x6.toNat z_api_Sub).Kind) > (0 : Int) then
        inB x6 x2.length <|
        if x7.length + [(x2.getD x6.toNat z_api_Event)].length ≤ 4398046511104 then
        gangwayref23_Order.go k (.s6 x0 x1 x2 x3 x4 true (IntKind.i64.wrap (x6 + (1 : Int))) (x7 ++ [(x2.getD x6.toNat z_api_Event)]))
        else none
      else
        if x4 < (0 : Int) then
          inB x6 x0.length <|
          (gangwayref23_when.f k ((x0.getD x6.toNat z_api_Sub).User) ((x0.getD x6.toNat z_api_Sub).Kind) ((x0.getD x6.toNat z_api_Sub).Fd) ((x0.getD x6.toNat z_api_Sub).Timeout) ((x0.getD x6.toNat z_api_Sub).Abs) x1).bind fun r4 =>
          gangwayref23_Order.go k (.s6 x0 x1 x2 x3 r4 x5 (IntKind.i64.wrap (x6 + (1 : Int))) x7)
        else
          inB x6 x0.length <|
          (gangwayref23_when.f k ((x0.getD x6.toNat z_api_Sub).User) ((x0.getD x6.toNat z_api_Sub).Kind) ((x0.getD x6.toNat z_api_Sub).Fd) ((x0.getD x6.toNat z_api_Sub).Timeout) ((x0.getD x6.toNat z_api_Sub).Abs) x1).bind fun r5 =>
          if r5 < x4 then
            inB x6 x0.length <|
            (gangwayref23_when.f k ((x0.getD x6.toNat z_api_Sub).User) ((x0.getD x6.toNat z_api_Sub).Kind) ((x0.getD x6.toNat z_api_Sub).Fd) ((x0.getD x6.toNat z_api_Sub).Timeout) ((x0.getD x6.toNat z_api_Sub).Abs) x1).bind fun r6 =>
            gangwayref23_Order.go k (.s6 x0 x1 x2 x3 r6 x5 (IntKind.i64.wrap (x6 + (1 : Int))) x7)
          else
            gangwayref23_Order.go k (.s6 x0 x1 x2 x3 x4 x5 (IntKind.i64.wrap (x6 + (1 : Int))) x7)
    else
      if (!x5) = true then
        if x4 > x1 then
          gangwayref23_Order.go k (.s16 x0 x1 x4 x7 (List.replicate 32 false))
        else
          gangwayref23_Order.go k (.s16 x0 x1 x3 x7 (List.replicate 32 false))
      else
        gangwayref23_Order.go k (.s16 x0 x1 x3 x7 (List.replicate 32 false))
  | k + 1, .s16 x0 x1 x2 x3 x4 =>
    gangwayref23_Order.go k (.s18 x0 x1 x2 (-1 : Int) (0 : Int) x3 x4)
  | k + 1, .s18 x0 x1 x2 x3 x4 x5 x6 =>
    if x4 < (x0.length : Int) then
      inB x4 x0.length <|
      if ((x0.getD x4.toNat z_api_Sub).Kind) = (0 : Int) then
        inB x4 32 <|
        if (!(x6.getD x4.toNat false)) = true then
          inB x4 x0.length <|
          (gangwayref23_when.f k ((x0.getD x4.toNat z_api_Sub).User) ((x0.getD x4.toNat z_api_Sub).Kind) ((x0.getD x4.toNat z_api_Sub).Fd) ((x0.getD x4.toNat z_api_Sub).Timeout) ((x0.getD x4.toNat z_api_Sub).Abs) x1).bind fun r7 =>
          if r7 ≤ x2 then
            if x3 < (0 : Int) then
              gangwayref23_Order.go k (.s18 x0 x1 x2 x4 (IntKind.i64.wrap (x4 + (1 : Int))) x5 x6)
            else
              inB x4 x0.length <|
              (gangwayref23_when.f k ((x0.getD x4.toNat z_api_Sub).User) ((x0.getD x4.toNat z_api_Sub).Kind) ((x0.getD x4.toNat z_api_Sub).Fd) ((x0.getD x4.toNat z_api_Sub).Timeout) ((x0.getD x4.toNat z_api_Sub).Abs) x1).bind fun r8 =>
              inB x3 x0.length <|
              (gangwayref23_when.f k ((x0.getD x3.toNat z_api_Sub).User) ((x0.getD x3.toNat z_api_Sub).Kind) ((x0.getD x3.toNat z_api_Sub).Fd) ((x0.getD x3.toNat z_api_Sub).Timeout) ((x0.getD x3.toNat z_api_Sub).Abs) x1).bind fun r9 =>
              if r8 < r9 then
                gangwayref23_Order.go k (.s18 x0 x1 x2 x4 (IntKind.i64.wrap (x4 + (1 : Int))) x5 x6)
              else
                gangwayref23_Order.go k (.s18 x0 x1 x2 x3 (IntKind.i64.wrap (x4 + (1 : Int))) x5 x6)
          else
            gangwayref23_Order.go k (.s18 x0 x1 x2 x3 (IntKind.i64.wrap (x4 + (1 : Int))) x5 x6)
        else
          gangwayref23_Order.go k (.s18 x0 x1 x2 x3 (IntKind.i64.wrap (x4 + (1 : Int))) x5 x6)
      else
        gangwayref23_Order.go k (.s18 x0 x1 x2 x3 (IntKind.i64.wrap (x4 + (1 : Int))) x5 x6)
    else
      if x3 < (0 : Int) then
        some x5
      else
        inB x3 32 <|
        inB x3 x0.length <|
        if x5.length + [(⟨(x0.getD x3.toNat z_api_Sub).User, 0, 0, 0⟩ : api_Event)].length ≤ 4398046511104 then
        gangwayref23_Order.go k (.s16 x0 x1 x2 (x5 ++ [(⟨(x0.getD x3.toNat z_api_Sub).User, 0, 0, 0⟩ : api_Event)]) (x6.set x3.toNat true))
        else none
def gangwayref23_Order.f (k : Nat) (a0 : List api_Sub) (a1 : Int) (a2 : List api_Event) : Option gangwayref23_Order.R :=
  gangwayref23_Order.go k (.s6 a0 a1 a2 a1 (-1 : Int) false (0 : Int) [])
/-! ### gangway/gangwayref0.CopySubs -/
abbrev gangwayref0_CopySubs.R : Type := List api_Sub
inductive gangwayref0_CopySubs.L where
  | s3 (x0 : List api_Sub) (x1 : Int) (x2 : List api_Sub)
def gangwayref0_CopySubs.go : Nat → gangwayref0_CopySubs.L → Option gangwayref0_CopySubs.R
  | 0, _ => none
  | k + 1, .s3 x0 x1 x2 =>
    if x1 < (x0.length : Int) then
      inB x1 x0.length <|
      if x2.length + [(x0.getD x1.toNat z_api_Sub)].length ≤ 3518437208883 then
      gangwayref0_CopySubs.go k (.s3 x0 (IntKind.i64.wrap (x1 + (1 : Int))) (x2 ++ [(x0.getD x1.toNat z_api_Sub)]))
      else none
    else
      some x2
def gangwayref0_CopySubs.f (k : Nat) (a0 : List api_Sub) : Option gangwayref0_CopySubs.R :=
  gangwayref0_CopySubs.go k (.s3 a0 (0 : Int) [])
/-! ### gangway/gangwayref0.CopyEvents -/
abbrev gangwayref0_CopyEvents.R : Type := List api_Event
inductive gangwayref0_CopyEvents.L where
  | s3 (x0 : List api_Event) (x1 : Int) (x2 : List api_Event)
def gangwayref0_CopyEvents.go : Nat → gangwayref0_CopyEvents.L → Option gangwayref0_CopyEvents.R
  | 0, _ => none
  | k + 1, .s3 x0 x1 x2 =>
    if x1 < (x0.length : Int) then
      inB x1 x0.length <|
      if x2.length + [(x0.getD x1.toNat z_api_Event)].length ≤ 4398046511104 then
      gangwayref0_CopyEvents.go k (.s3 x0 (IntKind.i64.wrap (x1 + (1 : Int))) (x2 ++ [(x0.getD x1.toNat z_api_Event)]))
      else none
    else
      some x2
def gangwayref0_CopyEvents.f (k : Nat) (a0 : List api_Event) : Option gangwayref0_CopyEvents.R :=
  gangwayref0_CopyEvents.go k (.s3 a0 (0 : Int) [])
/-! ### gangway/poll.time -/
abbrev poll_time.R : Type := Bool
inductive poll_time.L where
def poll_time.go : Nat → poll_time.L → Option poll_time.R := fun _ _ => none
def poll_time.f (k : Nat) (a0 : Int) : Option poll_time.R :=
  if a0 ≥ (0 : Int) then
    some (decide (a0 ≤ (1125899906842624 : Int)))
  else
    some false
/-! ### gangway/poll.may -/
abbrev poll_may.R : Type := Bool
inductive poll_may.L where
  | s2 (x0 : List api_Sub) (x1 : Int) (x2 : List api_Event) (x3 : List api_Sub) (x4 : Int) (x5 : Int)
def poll_may.go : Nat → poll_may.L → Option poll_may.R
  | 0, _ => none
  | k + 1, .s2 x0 x1 x2 x3 x4 x5 =>
    if x5 < x4 then
      inB x5 x3.length <|
      if ((x3.getD x5.toNat z_api_Sub).Kind) < (0 : Int) then
        some false
      else
        if ((x3.getD x5.toNat z_api_Sub).Kind) > (2 : Int) then
          some false
        else
          (poll_time.f k ((x3.getD x5.toNat z_api_Sub).Timeout)).bind fun r13 =>
          if (!r13) = true then
            some false
          else
            poll_may.go k (.s2 x0 x1 x2 x3 x4 (IntKind.i64.wrap (x5 + (1 : Int))))
    else
      (poll_time.f k x1).bind fun r14 =>
      if r14 = true then
        if (x0.length : Int) ≥ (1 : Int) then
          if (x0.length : Int) ≤ (32 : Int) then
            some (decide ((x2.length : Int) = (x0.length : Int)))
          else
            some false
        else
          some false
      else
        some false
def poll_may.f (k : Nat) (a0 : List api_Sub) (a1 : Int) (a2 : List api_Event) : Option poll_may.R :=
  poll_may.go k (.s2 a0 a1 a2 a0 (a0.length : Int) (0 : Int))
/-! ### (*gangway/poll.alarms).Push -/
abbrev poll_alarms_Push.R : Type := List poll_alarm
inductive poll_alarms_Push.L where
def poll_alarms_Push.go : Nat → poll_alarms_Push.L → Option poll_alarms_Push.R := fun _ _ => none
def poll_alarms_Push.f (k : Nat) (a0 : Int) (a1 : Int) (a2 : List poll_alarm) : Option poll_alarms_Push.R :=
  if a2.length + [(⟨a0, a1⟩ : poll_alarm)].length ≤ 8796093022208 then
  some (a2 ++ [(⟨a0, a1⟩ : poll_alarm)])
  else none
/-! ### (gangway/poll.alarms).Len -/
abbrev poll_alarms_Len.R : Type := Int
inductive poll_alarms_Len.L where
def poll_alarms_Len.go : Nat → poll_alarms_Len.L → Option poll_alarms_Len.R := fun _ _ => none
def poll_alarms_Len.f (k : Nat) (a0 : List poll_alarm) : Option poll_alarms_Len.R :=
  some (a0.length : Int)
/-! ### (gangway/poll.alarms).Less -/
abbrev poll_alarms_Less.R : Type := Bool
inductive poll_alarms_Less.L where
def poll_alarms_Less.go : Nat → poll_alarms_Less.L → Option poll_alarms_Less.R := fun _ _ => none
def poll_alarms_Less.f (k : Nat) (a0 : List poll_alarm) (a1 : Int) (a2 : Int) : Option poll_alarms_Less.R :=
  inB a1 a0.length <|
  inB a2 a0.length <|
  if ((a0.getD a1.toNat z_poll_alarm).when_) < ((a0.getD a2.toNat z_poll_alarm).when_) then
    some true
  else
    inB a1 a0.length <|
    inB a2 a0.length <|
    if ((a0.getD a1.toNat z_poll_alarm).when_) = ((a0.getD a2.toNat z_poll_alarm).when_) then
      inB a1 a0.length <|
      inB a2 a0.length <|
      some (decide (((a0.getD a1.toNat z_poll_alarm).at_) < ((a0.getD a2.toNat z_poll_alarm).at_)))
    else
      some false
/-! ### (gangway/poll.alarms).Swap -/
abbrev poll_alarms_Swap.R : Type := List poll_alarm
inductive poll_alarms_Swap.L where
def poll_alarms_Swap.go : Nat → poll_alarms_Swap.L → Option poll_alarms_Swap.R := fun _ _ => none
def poll_alarms_Swap.f (k : Nat) (a0 : Int) (a1 : Int) (a2 : List poll_alarm) : Option poll_alarms_Swap.R :=
  inB a1 a2.length <|
  inB a0 a2.length <|
  inB a0 a2.length <|
  inB a1 (a2.set a0.toNat (a2.getD a1.toNat z_poll_alarm)).length <|
  some ((a2.set a0.toNat (a2.getD a1.toNat z_poll_alarm)).set a1.toNat (a2.getD a0.toNat z_poll_alarm))
/-! ### container/heap.up -/
abbrev heap_up.R : Type := List poll_alarm
inductive heap_up.L where
  | s0 (x0 : Int) (x1 : List poll_alarm)
def heap_up.go : Nat → heap_up.L → Option heap_up.R
  | 0, _ => none
  | k + 1, .s0 x0 x1 =>
    if (2 : Int) = 0 then
      none
    else
      if (IntKind.i64.wrap ((IntKind.i64.wrap (x0 - (1 : Int))).tdiv (2 : Int))) = x0 then
        some x1
      else
        (poll_alarms_Less.f k x1 x0 (IntKind.i64.wrap ((IntKind.i64.wrap (x0 - (1 : Int))).tdiv (2 : Int)))).bind fun r18 =>
        if (!r18) = true then
          some x1
        else
          (poll_alarms_Swap.f k (IntKind.i64.wrap ((IntKind.i64.wrap (x0 - (1 : Int))).tdiv (2 : Int))) x0 x1).bind fun r19 =>
          heap_up.go k (.s0 (IntKind.i64.wrap ((IntKind.i64.wrap (x0 - (1 : Int))).tdiv (2 : Int))) r19)
def heap_up.f (k : Nat) (a0 : Int) (a1 : List poll_alarm) : Option heap_up.R :=
  heap_up.go k (.s0 a0 a1)
/-! ### container/heap.Push -/
abbrev heap_Push.R : Type := List poll_alarm
inductive heap_Push.L where
def heap_Push.go : Nat → heap_Push.L → Option heap_Push.R := fun _ _ => none
def heap_Push.f (k : Nat) (a0 : Int) (a1 : Int) (a2 : List poll_alarm) : Option heap_Push.R :=
  (poll_alarms_Push.f k a0 a1 a2).bind fun r16 =>
  (poll_alarms_Len.f k r16).bind fun r17 =>
  (heap_up.f k (IntKind.i64.wrap (r17 - (1 : Int))) r16).bind fun r20 =>
  some r20
/-! ### container/heap.down -/
abbrev heap_down.R : Type := Bool × List poll_alarm
inductive heap_down.L where
  | s2 (x0 : Int) (x1 : Int) (x2 : Int) (x3 : List poll_alarm)
def heap_down.go : Nat → heap_down.L → Option heap_down.R
  | 0, _ => none
  | k + 1, .s2 x0 x1 x2 x3 =>
    if (IntKind.i64.wrap ((IntKind.i64.wrap ((2 : Int) * x2)) + (1 : Int))) ≥ x1 then
      some (decide (x2 > x0), x3)
    else
      if (IntKind.i64.wrap ((IntKind.i64.wrap ((2 : Int) * x2)) + (1 : Int))) < (0 : Int) then
        some (decide (x2 > x0), x3)
      else
        if (IntKind.i64.wrap ((IntKind.i64.wrap ((IntKind.i64.wrap ((2 : Int) * x2)) + (1 : Int))) + (1 : Int))) < x1 then
          (poll_alarms_Less.f k x3 (IntKind.i64.wrap ((IntKind.i64.wrap ((IntKind.i64.wrap ((2 : Int) * x2)) + (1 : Int))) + (1 : Int))) (IntKind.i64.wrap ((IntKind.i64.wrap ((2 : Int) * x2)) + (1 : Int)))).bind fun r26 =>
          if r26 = true then
            (poll_alarms_Less.f k x3 (IntKind.i64.wrap ((IntKind.i64.wrap ((IntKind.i64.wrap ((2 : Int) * x2)) + (1 : Int))) + (1 : Int))) x2).bind fun r27 =>
            if (!r27) = true then
              some (decide (x2 > x0), x3)
            else
              (poll_alarms_Swap.f k x2 (IntKind.i64.wrap ((IntKind.i64.wrap ((IntKind.i64.wrap ((2 : Int) * x2)) + (1 : Int))) + (1 : Int))) x3).bind fun r28 =>
              heap_down.go k (.s2 x0 x1 (IntKind.i64.wrap ((IntKind.i64.wrap ((IntKind.i64.wrap ((2 : Int) * x2)) + (1 : Int))) + (1 : Int))) r28)
          else
            (poll_alarms_Less.f k x3 (IntKind.i64.wrap ((IntKind.i64.wrap ((2 : Int) * x2)) + (1 : Int))) x2).bind fun r29 =>
            if (!r29) = true then
              some (decide (x2 > x0), x3)
            else
              (poll_alarms_Swap.f k x2 (IntKind.i64.wrap ((IntKind.i64.wrap ((2 : Int) * x2)) + (1 : Int))) x3).bind fun r30 =>
              heap_down.go k (.s2 x0 x1 (IntKind.i64.wrap ((IntKind.i64.wrap ((2 : Int) * x2)) + (1 : Int))) r30)
        else
          (poll_alarms_Less.f k x3 (IntKind.i64.wrap ((IntKind.i64.wrap ((2 : Int) * x2)) + (1 : Int))) x2).bind fun r31 =>
          if (!r31) = true then
            some (decide (x2 > x0), x3)
          else
            (poll_alarms_Swap.f k x2 (IntKind.i64.wrap ((IntKind.i64.wrap ((2 : Int) * x2)) + (1 : Int))) x3).bind fun r32 =>
            heap_down.go k (.s2 x0 x1 (IntKind.i64.wrap ((IntKind.i64.wrap ((2 : Int) * x2)) + (1 : Int))) r32)
def heap_down.f (k : Nat) (a0 : Int) (a1 : Int) (a2 : List poll_alarm) : Option heap_down.R :=
  heap_down.go k (.s2 a0 a1 a0 a2)
/-! ### (*gangway/poll.alarms).Pop -/
abbrev poll_alarms_Pop.R : Type := Int × Int × List poll_alarm
inductive poll_alarms_Pop.L where
def poll_alarms_Pop.go : Nat → poll_alarms_Pop.L → Option poll_alarms_Pop.R := fun _ _ => none
def poll_alarms_Pop.f (k : Nat) (a0 : List poll_alarm) : Option poll_alarms_Pop.R :=
  inB (IntKind.i64.wrap ((a0.length : Int) - (1 : Int))) a0.length <|
  if 0 ≤ (IntKind.i64.wrap ((a0.length : Int) - (1 : Int))) then
  if (IntKind.i64.wrap ((a0.length : Int) - (1 : Int))) ≤ (a0.length : Int) then
  some ((a0.getD ((IntKind.i64.wrap ((a0.length : Int) - (1 : Int))).toNat) z_poll_alarm).when_, (a0.getD ((IntKind.i64.wrap ((a0.length : Int) - (1 : Int))).toNat) z_poll_alarm).at_, a0.take (IntKind.i64.wrap ((a0.length : Int) - (1 : Int))).toNat)
  else none
  else none
/-! ### container/heap.Pop -/
abbrev heap_Pop.R : Type := Int × Int × List poll_alarm
inductive heap_Pop.L where
def heap_Pop.go : Nat → heap_Pop.L → Option heap_Pop.R := fun _ _ => none
def heap_Pop.f (k : Nat) (a0 : List poll_alarm) : Option heap_Pop.R :=
  (poll_alarms_Len.f k a0).bind fun r24 =>
  (poll_alarms_Swap.f k (0 : Int) (IntKind.i64.wrap (r24 - (1 : Int))) a0).bind fun r25 =>
  (heap_down.f k (0 : Int) (IntKind.i64.wrap (r24 - (1 : Int))) r25).bind fun r33 =>
  (poll_alarms_Pop.f k r33.2).bind fun r34 =>
  some (r34.1, r34.2.1, r34.2.2)
/-! ### gangway/poll.Order -/
abbrev poll_Order.R : Type := Int × List api_Event
inductive poll_Order.L where
  | s6 (x0 : List api_Sub) (x1 : Int) (x2 : List api_Event) (x3 : List api_Sub) (x4 : Int) (x5 : Int) (x6 : List api_Event) (x7 : List poll_alarm)
  | s17 (x0 : List api_Sub) (x1 : Int) (x2 : List api_Event) (x3 : List poll_alarm)
def poll_Order.go : Nat → poll_Order.L → Option poll_Order.R
  | 0, _ => none
  | k + 1, .s6 x0 x1 x2 x3 x4 x5 x6 x7 =>
    if x5 < x4 then
      inB x5 x3.length <|
      if ¬ ((x3.getD x5.toNat z_api_Sub).Kind) = (0 : Int) then
        inB x5 x2.length <|
        if x6.length + [(x2.getD x5.toNat z_api_Event)].length ≤ 4398046511104 then
        poll_Order.go k (.s6 x0 x1 x2 x3 x4 (IntKind.i64.wrap (x5 + (1 : Int))) (x6 ++ [(x2.getD x5.toNat z_api_Event)]) x7)
        else none
      else
        if ((x3.getD x5.toNat z_api_Sub).Abs) = true then
          (heap_Push.f k ((x3.getD x5.toNat z_api_Sub).Timeout) x5 x7).bind fun r21 =>
          poll_Order.go k (.s6 x0 x1 x2 x3 x4 (IntKind.i64.wrap (x5 + (1 : Int))) x6 r21)
        else
          (heap_Push.f k (IntKind.i64.wrap (x1 + ((x3.getD x5.toNat z_api_Sub).Timeout))) x5 x7).bind fun r22 =>
          poll_Order.go k (.s6 x0 x1 x2 x3 x4 (IntKind.i64.wrap (x5 + (1 : Int))) x6 r22)
    else
      if (x6.length : Int) = (0 : Int) then
        inB (0 : Int) x7.length <|
        poll_Order.go k (.s17 x0 (if x1 < ((x7.getD ((0 : Int).toNat) z_poll_alarm).when_) then (x7.getD ((0 : Int).toNat) z_poll_alarm).when_ else x1) x6 x7)
      else
        poll_Order.go k (.s17 x0 x1 x6 x7)
  | k + 1, .s17 x0 x1 x2 x3 =>
    (poll_alarms_Len.f k x3).bind fun r23 =>
    if r23 > (0 : Int) then
      inB (0 : Int) x3.length <|
      if ((x3.getD ((0 : Int).toNat) z_poll_alarm).when_) ≤ x1 then
        (heap_Pop.f k x3).bind fun r35 =>
        inB r35.2.1 x0.length <|
        if x2.length + [(⟨(x0.getD r35.2.1.toNat z_api_Sub).User, 0, 0, 0⟩ : api_Event)].length ≤ 4398046511104 then
        poll_Order.go k (.s17 x0 x1 (x2 ++ [(⟨(x0.getD r35.2.1.toNat z_api_Sub).User, 0, 0, 0⟩ : api_Event)]) r35.2.2)
        else none
      else
        some ((0 : Int), x2)
    else
      some ((0 : Int), x2)
def poll_Order.f (k : Nat) (a0 : List api_Sub) (a1 : Int) (a2 : List api_Event) : Option poll_Order.R :=
  (poll_may.f k a0 a1 a2).bind fun r15 =>
  if (!r15) = true then
    some ((100 : Int), [])
  else
    poll_Order.go k (.s6 a0 a1 a2 a0 (a0.length : Int) (0 : Int) [] [])
/-! ### gangway/gangwaylaw24.num -/
abbrev gangwaylaw24_num.R : Type := Int
inductive gangwaylaw24_num.L where
def gangwaylaw24_num.go : Nat → gangwaylaw24_num.L → Option gangwaylaw24_num.R := fun _ _ => none
def gangwaylaw24_num.f (k : Nat) (a0 : Int) : Option gangwaylaw24_num.R :=
  some a0
/-! ### gangway/gangwayref0.EqEvents -/
abbrev gangwayref0_EqEvents.R : Type := Bool
inductive gangwayref0_EqEvents.L where
  | s4 (x0 : List api_Event) (x1 : List api_Event) (x2 : Int)
def gangwayref0_EqEvents.go : Nat → gangwayref0_EqEvents.L → Option gangwayref0_EqEvents.R
  | 0, _ => none
  | k + 1, .s4 x0 x1 x2 =>
    if x2 < (x0.length : Int) then
      inB x2 x0.length <|
      inB x2 x1.length <|
      if (!((((x0.getD x2.toNat z_api_Event).User) == ((x1.getD x2.toNat z_api_Event).User)) && ((((x0.getD x2.toNat z_api_Event).Err) == ((x1.getD x2.toNat z_api_Event).Err)) && ((((x0.getD x2.toNat z_api_Event).Kind) == ((x1.getD x2.toNat z_api_Event).Kind)) && ((((x0.getD x2.toNat z_api_Event).Bytes) == ((x1.getD x2.toNat z_api_Event).Bytes)) && true))))) = true then
        some false
      else
        gangwayref0_EqEvents.go k (.s4 x0 x1 (IntKind.i64.wrap (x2 + (1 : Int))))
    else
      some true
def gangwayref0_EqEvents.f (k : Nat) (a0 : List api_Event) (a1 : List api_Event) : Option gangwayref0_EqEvents.R :=
  if ¬ (a0.length : Int) = (a1.length : Int) then
    some false
  else
    gangwayref0_EqEvents.go k (.s4 a0 a1 (0 : Int))
/-! ### gangway/gangwayref0.EqSubs -/
abbrev gangwayref0_EqSubs.R : Type := Bool
inductive gangwayref0_EqSubs.L where
  | s4 (x0 : List api_Sub) (x1 : List api_Sub) (x2 : Int)
def gangwayref0_EqSubs.go : Nat → gangwayref0_EqSubs.L → Option gangwayref0_EqSubs.R
  | 0, _ => none
  | k + 1, .s4 x0 x1 x2 =>
    if x2 < (x0.length : Int) then
      inB x2 x0.length <|
      inB x2 x1.length <|
      if (!((((x0.getD x2.toNat z_api_Sub).User) == ((x1.getD x2.toNat z_api_Sub).User)) && ((((x0.getD x2.toNat z_api_Sub).Kind) == ((x1.getD x2.toNat z_api_Sub).Kind)) && ((((x0.getD x2.toNat z_api_Sub).Fd) == ((x1.getD x2.toNat z_api_Sub).Fd)) && ((((x0.getD x2.toNat z_api_Sub).Timeout) == ((x1.getD x2.toNat z_api_Sub).Timeout)) && ((((x0.getD x2.toNat z_api_Sub).Abs) == ((x1.getD x2.toNat z_api_Sub).Abs)) && true)))))) = true then
        some false
      else
        gangwayref0_EqSubs.go k (.s4 x0 x1 (IntKind.i64.wrap (x2 + (1 : Int))))
    else
      some true
def gangwayref0_EqSubs.f (k : Nat) (a0 : List api_Sub) (a1 : List api_Sub) : Option gangwayref0_EqSubs.R :=
  if ¬ (a0.length : Int) = (a1.length : Int) then
    some false
  else
    gangwayref0_EqSubs.go k (.s4 a0 a1 (0 : Int))
/-! ### gangway/gangwaylaw24.wakes -/
abbrev gangwaylaw24_wakes.R : Type := Bool
inductive gangwaylaw24_wakes.L where
def gangwaylaw24_wakes.go : Nat → gangwaylaw24_wakes.L → Option gangwaylaw24_wakes.R := fun _ _ => none
def gangwaylaw24_wakes.f (k : Nat) : Option gangwaylaw24_wakes.R :=
  if (1 : Int) = (1 : Int) then
  if 0 ≤ (1 : Int) then
  if (1 : Int) ≤ (4398046511104 : Int) then
  (poll_Order.f k [(⟨(7 : Int), 0, 0, (3 : Int), false⟩ : api_Sub)] (5 : Int) (List.replicate (1 : Int).toNat z_api_Event)).bind fun r48 =>
  (gangwaylaw24_num.f k r48.1).bind fun r49 =>
  if r49 = (0 : Int) then
    (gangwayref0_EqEvents.f k r48.2 [(⟨(7 : Int), 0, 0, 0⟩ : api_Event)]).bind fun r50 =>
    some r50
  else
    some false
  else none
  else none
  else none
/-! ### gangway/gangwaylaw24.PollExact -/
abbrev gangwaylaw24_PollExact.R : Type := Bool
inductive gangwaylaw24_PollExact.L where
  | s2 (x0 : List gangwaylaw24_Ask) (x1 : Int)
def gangwaylaw24_PollExact.go : Nat → gangwaylaw24_PollExact.L → Option gangwaylaw24_PollExact.R
  | 0, _ => none
  | k + 1, .s2 x0 x1 =>
    if x1 < (x0.length : Int) then
      if x1 < (10 : Int) then
        inB x1 x0.length <|
        if (((x0.getD x1.toNat z_gangwaylaw24_Ask).L).length : Int) > (100 : Int) then
          some true
        else
          if (((x0.getD x1.toNat z_gangwaylaw24_Ask).Ready).length : Int) > (100 : Int) then
            some true
          else
            (gangwayref23_MayOrder.f k ((x0.getD x1.toNat z_gangwaylaw24_Ask).L) ((x0.getD x1.toNat z_gangwaylaw24_Ask).Now) ((x0.getD x1.toNat z_gangwaylaw24_Ask).Ready)).bind fun r3 =>
            if r3 = true then
              (gangwayref23_Order.f k ((x0.getD x1.toNat z_gangwaylaw24_Ask).L) ((x0.getD x1.toNat z_gangwaylaw24_Ask).Now) ((x0.getD x1.toNat z_gangwaylaw24_Ask).Ready)).bind fun r10 =>
              (gangwayref0_CopySubs.f k ((x0.getD x1.toNat z_gangwaylaw24_Ask).L)).bind fun r11 =>
              (gangwayref0_CopyEvents.f k ((x0.getD x1.toNat z_gangwaylaw24_Ask).Ready)).bind fun r12 =>
              (poll_Order.f k r11 ((x0.getD x1.toNat z_gangwaylaw24_Ask).Now) r12).bind fun r36 =>
              (gangwaylaw24_num.f k r36.1).bind fun r37 =>
              if ¬ r37 = (0 : Int) then
                some false
              else
                (gangwayref0_EqEvents.f k r36.2 r10).bind fun r38 =>
                if (!r38) = true then
                  some false
                else
                  (gangwayref0_EqSubs.f k r11 ((x0.getD x1.toNat z_gangwaylaw24_Ask).L)).bind fun r39 =>
                  if (!r39) = true then
                    some false
                  else
                    (gangwayref0_EqEvents.f k r12 ((x0.getD x1.toNat z_gangwaylaw24_Ask).Ready)).bind fun r40 =>
                    if (!r40) = true then
                      some false
                    else
                      gangwaylaw24_PollExact.go k (.s2 x0 (IntKind.i64.wrap (x1 + (1 : Int))))
            else
              (gangwayref0_CopySubs.f k ((x0.getD x1.toNat z_gangwaylaw24_Ask).L)).bind fun r41 =>
              (gangwayref0_CopyEvents.f k ((x0.getD x1.toNat z_gangwaylaw24_Ask).Ready)).bind fun r42 =>
              (poll_Order.f k r41 ((x0.getD x1.toNat z_gangwaylaw24_Ask).Now) r42).bind fun r43 =>
              (gangwaylaw24_num.f k r43.1).bind fun r44 =>
              if ¬ r44 = (100 : Int) then
                some false
              else
                (gangwayref0_EqEvents.f k r43.2 []).bind fun r45 =>
                if (!r45) = true then
                  some false
                else
                  (gangwayref0_EqSubs.f k r41 ((x0.getD x1.toNat z_gangwaylaw24_Ask).L)).bind fun r46 =>
                  if (!r46) = true then
                    some false
                  else
                    (gangwayref0_EqEvents.f k r42 ((x0.getD x1.toNat z_gangwaylaw24_Ask).Ready)).bind fun r47 =>
                    if (!r47) = true then
                      some false
                    else
                      gangwaylaw24_PollExact.go k (.s2 x0 (IntKind.i64.wrap (x1 + (1 : Int))))
      else
        (gangwaylaw24_wakes.f k).bind fun r51 =>
        some r51
    else
      (gangwaylaw24_wakes.f k).bind fun r52 =>
      some r52
def gangwaylaw24_PollExact.f (k : Nat) (a0 : List gangwaylaw24_Ask) : Option gangwaylaw24_PollExact.R :=
  gangwaylaw24_PollExact.go k (.s2 a0 (0 : Int))
/-! ### gangway/gangwaylaw24.PollSome -/
abbrev gangwaylaw24_PollSome.R : Type := Bool
inductive gangwaylaw24_PollSome.L where
  | s2 (x0 : List gangwaylaw24_Ask) (x1 : Int)
  | s10 (x0 : List gangwaylaw24_Ask) (x1 : Int) (x2 : Int) (x3 : List api_Sub) (x4 : Int) (x5 : List api_Event) (x6 : List api_Sub) (x7 : List api_Event)
  | s14 (x0 : List gangwaylaw24_Ask) (x1 : Int) (x2 : Int) (x3 : List api_Sub) (x4 : Int) (x5 : List api_Event) (x6 : List api_Sub) (x7 : List api_Event)
  | s24 (x0 : List gangwaylaw24_Ask) (x1 : Int) (x2 : Int) (x3 : Int) (x4 : List api_Sub) (x5 : Int) (x6 : List api_Event) (x7 : List api_Sub) (x8 : List api_Event) (x9 : List Bool)
  | s30 (x0 : List gangwaylaw24_Ask) (x1 : Int) (x2 : Int) (x3 : Int) (x4 : Int) (x5 : List api_Sub) (x6 : Int) (x7 : List api_Event) (x8 : List api_Sub) (x9 : List api_Event) (x10 : List Bool)
def gangwaylaw24_PollSome.go : Nat → gangwaylaw24_PollSome.L → Option gangwaylaw24_PollSome.R
  | 0, _ => none
  | k + 1, .s2 x0 x1 =>
    if x1 < (x0.length : Int) then
      if x1 < (10 : Int) then
        inB x1 x0.length <|
        if (((x0.getD x1.toNat z_gangwaylaw24_Ask).L).length : Int) > (100 : Int) then
          some true
        else
          if (((x0.getD x1.toNat z_gangwaylaw24_Ask).Ready).length : Int) > (100 : Int) then
            some true
          else
            (gangwayref0_CopySubs.f k ((x0.getD x1.toNat z_gangwaylaw24_Ask).L)).bind fun r53 =>
            (gangwayref0_CopyEvents.f k ((x0.getD x1.toNat z_gangwaylaw24_Ask).Ready)).bind fun r54 =>
            gangwaylaw24_PollSome.go k (.s10 x0 x1 (0 : Int) ((x0.getD x1.toNat z_gangwaylaw24_Ask).L) ((x0.getD x1.toNat z_gangwaylaw24_Ask).Now) ((x0.getD x1.toNat z_gangwaylaw24_Ask).Ready) r53 r54)
      else
        (gangwaylaw24_wakes.f k).bind fun r55 =>
        some r55
    else
      (gangwaylaw24_wakes.f k).bind fun r56 =>
      some r56
  | k + 1, .s10 x0 x1 x2 x3 x4 x5 x6 x7 =>
    if x2 < (x6.length : Int) then
      inB x2 x6.length <|
      gangwaylaw24_PollSome.go k (.s10 x0 x1 (IntKind.i64.wrap (x2 + (1 : Int))) x3 x4 x5 (x6.set x2.toNat (⟨x2, (x6.getD x2.toNat z_api_Sub).Kind, (x6.getD x2.toNat z_api_Sub).Fd, (x6.getD x2.toNat z_api_Sub).Timeout, (x6.getD x2.toNat z_api_Sub).Abs⟩ : api_Sub)) x7)
    else
      gangwaylaw24_PollSome.go k (.s14 x0 x1 (0 : Int) x3 x4 x5 x6 x7)
  | k + 1, .s14 x0 x1 x2 x3 x4 x5 x6 x7 =>
    if x2 < (x7.length : Int) then
      inB x2 x7.length <|
      gangwaylaw24_PollSome.go k (.s14 x0 x1 (IntKind.i64.wrap (x2 + (1 : Int))) x3 x4 x5 x6 (x7.set x2.toNat (⟨x2, 0, (1 : Int), 0⟩ : api_Event)))
    else
      (poll_Order.f k x6 x4 x7).bind fun r57 =>
      (gangwaylaw24_num.f k r57.1).bind fun r58 =>
      if ¬ r58 = (0 : Int) then
        gangwaylaw24_PollSome.go k (.s2 x0 (IntKind.i64.wrap (x1 + (1 : Int))))
      else
        if (r57.2.length : Int) < (1 : Int) then
          some false
        else
          if (r57.2.length : Int) > (x6.length : Int) then
            some false
          else
            gangwaylaw24_PollSome.go k (.s24 x0 x1 (0 : Int) (0 : Int) x3 x4 x5 x6 r57.2 (List.replicate 200 false))
  | k + 1, .s24 x0 x1 x2 x3 x4 x5 x6 x7 x8 x9 =>
    if x3 < (x7.length : Int) then
      inB x3 x7.length <|
      if ((x7.getD x3.toNat z_api_Sub).Kind) > (0 : Int) then
        gangwaylaw24_PollSome.go k (.s24 x0 x1 (IntKind.i64.wrap (x2 + (1 : Int))) (IntKind.i64.wrap (x3 + (1 : Int))) x4 x5 x6 x7 x8 x9)
      else
        gangwaylaw24_PollSome.go k (.s24 x0 x1 x2 (IntKind.i64.wrap (x3 + (1 : Int))) x4 x5 x6 x7 x8 x9)
    else
      gangwaylaw24_PollSome.go k (.s30 x0 x1 x2 (-1 : Int) (0 : Int) x4 x5 x6 x7 x8 x9)
  | k + 1, .s30 x0 x1 x2 x3 x4 x5 x6 x7 x8 x9 x10 =>
    if x4 < (x9.length : Int) then
      inB x4 x9.length <|
      if ((x9.getD x4.toNat z_api_Event).User) < (0 : Int) then
        some false
      else
        if ((x9.getD x4.toNat z_api_Event).User) ≥ (x8.length : Int) then
          some false
        else
          inB ((x9.getD x4.toNat z_api_Event).User) 200 <|
          if (x10.getD (((x9.getD x4.toNat z_api_Event).User).toNat) false) = true then
            some false
          else
            inB ((x9.getD x4.toNat z_api_Event).User) x8.length <|
            if (!((decide (((x8.getD (((x9.getD x4.toNat z_api_Event).User).toNat) z_api_Sub).Kind) > (0 : Int))) == (decide (x4 < x2)))) = true then
              some false
            else
              inB ((x9.getD x4.toNat z_api_Event).User) 200 <|
              if x4 < x2 then
                gangwaylaw24_PollSome.go k (.s30 x0 x1 x2 x3 (IntKind.i64.wrap (x4 + (1 : Int))) x5 x6 x7 x8 x9 (x10.set (((x9.getD x4.toNat z_api_Event).User).toNat) true))
              else
                inB ((x9.getD x4.toNat z_api_Event).User) x8.length <|
                inB ((x9.getD x4.toNat z_api_Event).User) x8.length <|
                if (!((x8.getD (((x9.getD x4.toNat z_api_Event).User).toNat) z_api_Sub).Abs)) = true then
                  if (IntKind.i64.wrap (((x8.getD (((x9.getD x4.toNat z_api_Event).User).toNat) z_api_Sub).Timeout) + x6)) < x3 then
                    some false
                  else
                    if x2 > (0 : Int) then
                      if (IntKind.i64.wrap (((x8.getD (((x9.getD x4.toNat z_api_Event).User).toNat) z_api_Sub).Timeout) + x6)) > x6 then
                        some false
                      else
                        gangwaylaw24_PollSome.go k (.s30 x0 x1 x2 (IntKind.i64.wrap (((x8.getD (((x9.getD x4.toNat z_api_Event).User).toNat) z_api_Sub).Timeout) + x6)) (IntKind.i64.wrap (x4 + (1 : Int))) x5 x6 x7 x8 x9 (x10.set (((x9.getD x4.toNat z_api_Event).User).toNat) true))
                    else
                      gangwaylaw24_PollSome.go k (.s30 x0 x1 x2 (IntKind.i64.wrap (((x8.getD (((x9.getD x4.toNat z_api_Event).User).toNat) z_api_Sub).Timeout) + x6)) (IntKind.i64.wrap (x4 + (1 : Int))) x5 x6 x7 x8 x9 (x10.set (((x9.getD x4.toNat z_api_Event).User).toNat) true))
                else
                  if ((x8.getD (((x9.getD x4.toNat z_api_Event).User).toNat) z_api_Sub).Timeout) < x3 then
                    some false
                  else
                    if x2 > (0 : Int) then
                      if ((x8.getD (((x9.getD x4.toNat z_api_Event).User).toNat) z_api_Sub).Timeout) > x6 then
                        some false
                      else
                        gangwaylaw24_PollSome.go k (.s30 x0 x1 x2 ((x8.getD (((x9.getD x4.toNat z_api_Event).User).toNat) z_api_Sub).Timeout) (IntKind.i64.wrap (x4 + (1 : Int))) x5 x6 x7 x8 x9 (x10.set (((x9.getD x4.toNat z_api_Event).User).toNat) true))
                    else
                      gangwaylaw24_PollSome.go k (.s30 x0 x1 x2 ((x8.getD (((x9.getD x4.toNat z_api_Event).User).toNat) z_api_Sub).Timeout) (IntKind.i64.wrap (x4 + (1 : Int))) x5 x6 x7 x8 x9 (x10.set (((x9.getD x4.toNat z_api_Event).User).toNat) true))
    else
      gangwaylaw24_PollSome.go k (.s2 x0 (IntKind.i64.wrap (x1 + (1 : Int))))
def gangwaylaw24_PollSome.f (k : Nat) (a0 : List gangwaylaw24_Ask) : Option gangwaylaw24_PollSome.R :=
  gangwaylaw24_PollSome.go k (.s2 a0 (0 : Int))
/-! ### gangway/gangwaylaw24.at -/
abbrev gangwaylaw24_at.R : Type := Int
inductive gangwaylaw24_at.L where
def gangwaylaw24_at.go : Nat → gangwaylaw24_at.L → Option gangwaylaw24_at.R := fun _ _ => none
def gangwaylaw24_at.f (k : Nat) (a0 : Int) (a1 : Int) (a2 : Int) (a3 : Int) (a4 : Bool) (a5 : Int) : Option gangwaylaw24_at.R :=
  if a4 = true then
    some a3
  else
    some (IntKind.i64.wrap (a5 + a3))
/-! ### gangway/gangwaylaw24.PollClocks -/
abbrev gangwaylaw24_PollClocks.R : Type := Bool
inductive gangwaylaw24_PollClocks.L where
  | s2 (x0 : List gangwaylaw24_Ask) (x1 : Int)
  | s8 (x0 : List gangwaylaw24_Ask) (x1 : Int) (x2 : Int) (x3 : List api_Sub) (x4 : Int) (x5 : List api_Event) (x6 : List api_Sub)
  | s19 (x0 : List gangwaylaw24_Ask) (x1 : Int) (x2 : Int) (x3 : Int) (x4 : Int) (x5 : List api_Sub) (x6 : Int) (x7 : List api_Event) (x8 : List api_Sub) (x9 : List api_Event)
  | s28 (x0 : List gangwaylaw24_Ask) (x1 : Int) (x2 : Int) (x3 : Int) (x4 : Int) (x5 : Int) (x6 : List api_Sub) (x7 : Int) (x8 : List api_Event) (x9 : List api_Sub) (x10 : List api_Event)
  | s35 (x0 : List gangwaylaw24_Ask) (x1 : Int) (x2 : Int) (x3 : Int) (x4 : Int) (x5 : List api_Sub) (x6 : Int) (x7 : List api_Event) (x8 : List api_Sub) (x9 : List api_Event)
def gangwaylaw24_PollClocks.go : Nat → gangwaylaw24_PollClocks.L → Option gangwaylaw24_PollClocks.R
  | 0, _ => none
  | k + 1, .s2 x0 x1 =>
    if x1 < (x0.length : Int) then
      if x1 < (10 : Int) then
        inB x1 x0.length <|
        if (((x0.getD x1.toNat z_gangwaylaw24_Ask).L).length : Int) > (100 : Int) then
          gangwaylaw24_PollClocks.go k (.s2 x0 (IntKind.i64.wrap (x1 + (1 : Int))))
        else
          if ((x0.getD x1.toNat z_gangwaylaw24_Ask).Now) < (0 : Int) then
            gangwaylaw24_PollClocks.go k (.s2 x0 (IntKind.i64.wrap (x1 + (1 : Int))))
          else
            if ((x0.getD x1.toNat z_gangwaylaw24_Ask).Now) > (1125899906842624 : Int) then
              gangwaylaw24_PollClocks.go k (.s2 x0 (IntKind.i64.wrap (x1 + (1 : Int))))
            else
              gangwaylaw24_PollClocks.go k (.s8 x0 x1 (0 : Int) ((x0.getD x1.toNat z_gangwaylaw24_Ask).L) ((x0.getD x1.toNat z_gangwaylaw24_Ask).Now) ((x0.getD x1.toNat z_gangwaylaw24_Ask).Ready) [])
      else
        (gangwaylaw24_wakes.f k).bind fun r59 =>
        some r59
    else
      (gangwaylaw24_wakes.f k).bind fun r60 =>
      some r60
  | k + 1, .s8 x0 x1 x2 x3 x4 x5 x6 =>
    if x2 < (x3.length : Int) then
      if x2 < (32 : Int) then
        inB x2 x3.length <|
        if ((x3.getD x2.toNat z_api_Sub).Timeout) < (0 : Int) then
          gangwaylaw24_PollClocks.go k (.s8 x0 x1 (IntKind.i64.wrap (x2 + (1 : Int))) x3 x4 x5 x6)
        else
          inB x2 x3.length <|
          if ((x3.getD x2.toNat z_api_Sub).Timeout) > (1125899906842624 : Int) then
            gangwaylaw24_PollClocks.go k (.s8 x0 x1 (IntKind.i64.wrap (x2 + (1 : Int))) x3 x4 x5 x6)
          else
            inB x2 x3.length <|
            inB x2 x3.length <|
            if x6.length + [(⟨(x6.length : Int), 0, 0, (x3.getD x2.toNat z_api_Sub).Timeout, (x3.getD x2.toNat z_api_Sub).Abs⟩ : api_Sub)].length ≤ 3518437208883 then
            gangwaylaw24_PollClocks.go k (.s8 x0 x1 (IntKind.i64.wrap (x2 + (1 : Int))) x3 x4 x5 (x6 ++ [(⟨(x6.length : Int), 0, 0, (x3.getD x2.toNat z_api_Sub).Timeout, (x3.getD x2.toNat z_api_Sub).Abs⟩ : api_Sub)]))
            else none
      else
        if (x6.length : Int) = (0 : Int) then
          gangwaylaw24_PollClocks.go k (.s2 x0 (IntKind.i64.wrap (x1 + (1 : Int))))
        else
          if (x6.length : Int) = (x6.length : Int) then
          if 0 ≤ (x6.length : Int) then
          if (x6.length : Int) ≤ (4398046511104 : Int) then
          (poll_Order.f k x6 x4 (List.replicate (x6.length : Int).toNat z_api_Event)).bind fun r61 =>
          (gangwaylaw24_num.f k r61.1).bind fun r62 =>
          if ¬ r62 = (0 : Int) then
            some false
          else
            gangwaylaw24_PollClocks.go k (.s19 x0 x1 (-1 : Int) (0 : Int) (0 : Int) x3 x4 x5 x6 r61.2)
          else none
          else none
          else none
    else
      if (x6.length : Int) = (0 : Int) then
        gangwaylaw24_PollClocks.go k (.s2 x0 (IntKind.i64.wrap (x1 + (1 : Int))))
      else
        if (x6.length : Int) = (x6.length : Int) then
        if 0 ≤ (x6.length : Int) then
        if (x6.length : Int) ≤ (4398046511104 : Int) then
        (poll_Order.f k x6 x4 (List.replicate (x6.length : Int).toNat z_api_Event)).bind fun r63 =>
        (gangwaylaw24_num.f k r63.1).bind fun r64 =>
        if ¬ r64 = (0 : Int) then
          some false
        else
          gangwaylaw24_PollClocks.go k (.s19 x0 x1 (-1 : Int) (0 : Int) (0 : Int) x3 x4 x5 x6 r63.2)
        else none
        else none
        else none
  | k + 1, .s19 x0 x1 x2 x3 x4 x5 x6 x7 x8 x9 =>
    if x4 < (x8.length : Int) then
      inB x4 x8.length <|
      (gangwaylaw24_at.f k ((x8.getD x4.toNat z_api_Sub).User) ((x8.getD x4.toNat z_api_Sub).Kind) ((x8.getD x4.toNat z_api_Sub).Fd) ((x8.getD x4.toNat z_api_Sub).Timeout) ((x8.getD x4.toNat z_api_Sub).Abs) x6).bind fun r65 =>
      if x2 < (0 : Int) then
        if r65 ≤ x6 then
          gangwaylaw24_PollClocks.go k (.s19 x0 x1 r65 (IntKind.i64.wrap (x3 + (1 : Int))) (IntKind.i64.wrap (x4 + (1 : Int))) x5 x6 x7 x8 x9)
        else
          gangwaylaw24_PollClocks.go k (.s19 x0 x1 r65 x3 (IntKind.i64.wrap (x4 + (1 : Int))) x5 x6 x7 x8 x9)
      else
        if r65 < x2 then
          if r65 ≤ x6 then
            gangwaylaw24_PollClocks.go k (.s19 x0 x1 r65 (IntKind.i64.wrap (x3 + (1 : Int))) (IntKind.i64.wrap (x4 + (1 : Int))) x5 x6 x7 x8 x9)
          else
            gangwaylaw24_PollClocks.go k (.s19 x0 x1 r65 x3 (IntKind.i64.wrap (x4 + (1 : Int))) x5 x6 x7 x8 x9)
        else
          if r65 ≤ x6 then
            gangwaylaw24_PollClocks.go k (.s19 x0 x1 x2 (IntKind.i64.wrap (x3 + (1 : Int))) (IntKind.i64.wrap (x4 + (1 : Int))) x5 x6 x7 x8 x9)
          else
            gangwaylaw24_PollClocks.go k (.s19 x0 x1 x2 x3 (IntKind.i64.wrap (x4 + (1 : Int))) x5 x6 x7 x8 x9)
    else
      gangwaylaw24_PollClocks.go k (.s28 x0 x1 x2 x3 (0 : Int) (0 : Int) x5 x6 x7 x8 x9)
  | k + 1, .s28 x0 x1 x2 x3 x4 x5 x6 x7 x8 x9 x10 =>
    if x5 < (x9.length : Int) then
      inB x5 x9.length <|
      (gangwaylaw24_at.f k ((x9.getD x5.toNat z_api_Sub).User) ((x9.getD x5.toNat z_api_Sub).Kind) ((x9.getD x5.toNat z_api_Sub).Fd) ((x9.getD x5.toNat z_api_Sub).Timeout) ((x9.getD x5.toNat z_api_Sub).Abs) x7).bind fun r66 =>
      if r66 = x2 then
        gangwaylaw24_PollClocks.go k (.s28 x0 x1 x2 x3 (IntKind.i64.wrap (x4 + (1 : Int))) (IntKind.i64.wrap (x5 + (1 : Int))) x6 x7 x8 x9 x10)
      else
        gangwaylaw24_PollClocks.go k (.s28 x0 x1 x2 x3 x4 (IntKind.i64.wrap (x5 + (1 : Int))) x6 x7 x8 x9 x10)
    else
      if x3 > (0 : Int) then
        if ¬ (x10.length : Int) = x3 then
          some false
        else
          if x3 = (0 : Int) then
            if ¬ (x10.length : Int) = x4 then
              some false
            else
              gangwaylaw24_PollClocks.go k (.s35 x0 x1 x2 x3 (0 : Int) x6 x7 x8 x9 x10)
          else
            gangwaylaw24_PollClocks.go k (.s35 x0 x1 x2 x3 (0 : Int) x6 x7 x8 x9 x10)
      else
        if x3 = (0 : Int) then
          if ¬ (x10.length : Int) = x4 then
            some false
          else
            gangwaylaw24_PollClocks.go k (.s35 x0 x1 x2 x3 (0 : Int) x6 x7 x8 x9 x10)
        else
          gangwaylaw24_PollClocks.go k (.s35 x0 x1 x2 x3 (0 : Int) x6 x7 x8 x9 x10)
  | k + 1, .s35 x0 x1 x2 x3 x4 x5 x6 x7 x8 x9 =>
    if x4 < (x9.length : Int) then
      inB x4 x9.length <|
      if ((x9.getD x4.toNat z_api_Event).User) < (0 : Int) then
        some false
      else
        if ((x9.getD x4.toNat z_api_Event).User) ≥ (x8.length : Int) then
          some false
        else
          inB x4 x9.length <|
          if (!((((x9.getD x4.toNat z_api_Event).User) == ((x9.getD x4.toNat z_api_Event).User)) && ((((x9.getD x4.toNat z_api_Event).Err) == 0) && ((((x9.getD x4.toNat z_api_Event).Kind) == 0) && ((((x9.getD x4.toNat z_api_Event).Bytes) == 0) && true))))) = true then
            some false
          else
            if x3 = (0 : Int) then
              inB ((x9.getD x4.toNat z_api_Event).User) x8.length <|
              (gangwaylaw24_at.f k ((x8.getD (((x9.getD x4.toNat z_api_Event).User).toNat) z_api_Sub).User) ((x8.getD (((x9.getD x4.toNat z_api_Event).User).toNat) z_api_Sub).Kind) ((x8.getD (((x9.getD x4.toNat z_api_Event).User).toNat) z_api_Sub).Fd) ((x8.getD (((x9.getD x4.toNat z_api_Event).User).toNat) z_api_Sub).Timeout) ((x8.getD (((x9.getD x4.toNat z_api_Event).User).toNat) z_api_Sub).Abs) x6).bind fun r67 =>
              if ¬ r67 = x2 then
                some false
              else
                if x3 > (0 : Int) then
                  inB ((x9.getD x4.toNat z_api_Event).User) x8.length <|
                  (gangwaylaw24_at.f k ((x8.getD (((x9.getD x4.toNat z_api_Event).User).toNat) z_api_Sub).User) ((x8.getD (((x9.getD x4.toNat z_api_Event).User).toNat) z_api_Sub).Kind) ((x8.getD (((x9.getD x4.toNat z_api_Event).User).toNat) z_api_Sub).Fd) ((x8.getD (((x9.getD x4.toNat z_api_Event).User).toNat) z_api_Sub).Timeout) ((x8.getD (((x9.getD x4.toNat z_api_Event).User).toNat) z_api_Sub).Abs) x6).bind fun r68 =>
                  if r68 > x6 then
                    some false
                  else
                    if x4 > (0 : Int) then
                      inB (IntKind.i64.wrap (x4 - (1 : Int))) x9.length <|
                      inB ((x9.getD ((IntKind.i64.wrap (x4 - (1 : Int))).toNat) z_api_Event).User) x8.length <|
                      (gangwaylaw24_at.f k ((x8.getD (((x9.getD ((IntKind.i64.wrap (x4 - (1 : Int))).toNat) z_api_Event).User).toNat) z_api_Sub).User) ((x8.getD (((x9.getD ((IntKind.i64.wrap (x4 - (1 : Int))).toNat) z_api_Event).User).toNat) z_api_Sub).Kind) ((x8.getD (((x9.getD ((IntKind.i64.wrap (x4 - (1 : Int))).toNat) z_api_Event).User).toNat) z_api_Sub).Fd) ((x8.getD (((x9.getD ((IntKind.i64.wrap (x4 - (1 : Int))).toNat) z_api_Event).User).toNat) z_api_Sub).Timeout) ((x8.getD (((x9.getD ((IntKind.i64.wrap (x4 - (1 : Int))).toNat) z_api_Event).User).toNat) z_api_Sub).Abs) x6).bind fun r69 =>
                      inB ((x9.getD x4.toNat z_api_Event).User) x8.length <|
                      (gangwaylaw24_at.f k ((x8.getD (((x9.getD x4.toNat z_api_Event).User).toNat) z_api_Sub).User) ((x8.getD (((x9.getD x4.toNat z_api_Event).User).toNat) z_api_Sub).Kind) ((x8.getD (((x9.getD x4.toNat z_api_Event).User).toNat) z_api_Sub).Fd) ((x8.getD (((x9.getD x4.toNat z_api_Event).User).toNat) z_api_Sub).Timeout) ((x8.getD (((x9.getD x4.toNat z_api_Event).User).toNat) z_api_Sub).Abs) x6).bind fun r70 =>
                      if r69 > r70 then
                        some false
                      else
                        inB ((x9.getD ((IntKind.i64.wrap (x4 - (1 : Int))).toNat) z_api_Event).User) x8.length <|
                        (gangwaylaw24_at.f k ((x8.getD (((x9.getD ((IntKind.i64.wrap (x4 - (1 : Int))).toNat) z_api_Event).User).toNat) z_api_Sub).User) ((x8.getD (((x9.getD ((IntKind.i64.wrap (x4 - (1 : Int))).toNat) z_api_Event).User).toNat) z_api_Sub).Kind) ((x8.getD (((x9.getD ((IntKind.i64.wrap (x4 - (1 : Int))).toNat) z_api_Event).User).toNat) z_api_Sub).Fd) ((x8.getD (((x9.getD ((IntKind.i64.wrap (x4 - (1 : Int))).toNat) z_api_Event).User).toNat) z_api_Sub).Timeout) ((x8.getD (((x9.getD ((IntKind.i64.wrap (x4 - (1 : Int))).toNat) z_api_Event).User).toNat) z_api_Sub).Abs) x6).bind fun r71 =>
                        inB ((x9.getD x4.toNat z_api_Event).User) x8.length <|
                        (gangwaylaw24_at.f k ((x8.getD (((x9.getD x4.toNat z_api_Event).User).toNat) z_api_Sub).User) ((x8.getD (((x9.getD x4.toNat z_api_Event).User).toNat) z_api_Sub).Kind) ((x8.getD (((x9.getD x4.toNat z_api_Event).User).toNat) z_api_Sub).Fd) ((x8.getD (((x9.getD x4.toNat z_api_Event).User).toNat) z_api_Sub).Timeout) ((x8.getD (((x9.getD x4.toNat z_api_Event).User).toNat) z_api_Sub).Abs) x6).bind fun r72 =>
                        if r71 = r72 then
                          if ((x9.getD ((IntKind.i64.wrap (x4 - (1 : Int))).toNat) z_api_Event).User) ≥ ((x9.getD x4.toNat z_api_Event).User) then
                            some false
                          else
                            gangwaylaw24_PollClocks.go k (.s35 x0 x1 x2 x3 (IntKind.i64.wrap (x4 + (1 : Int))) x5 x6 x7 x8 x9)
                        else
                          gangwaylaw24_PollClocks.go k (.s35 x0 x1 x2 x3 (IntKind.i64.wrap (x4 + (1 : Int))) x5 x6 x7 x8 x9)
                    else
                      gangwaylaw24_PollClocks.go k (.s35 x0 x1 x2 x3 (IntKind.i64.wrap (x4 + (1 : Int))) x5 x6 x7 x8 x9)
                else
                  if x4 > (0 : Int) then
                    inB (IntKind.i64.wrap (x4 - (1 : Int))) x9.length <|
                    inB ((x9.getD ((IntKind.i64.wrap (x4 - (1 : Int))).toNat) z_api_Event).User) x8.length <|
                    (gangwaylaw24_at.f k ((x8.getD (((x9.getD ((IntKind.i64.wrap (x4 - (1 : Int))).toNat) z_api_Event).User).toNat) z_api_Sub).User) ((x8.getD (((x9.getD ((IntKind.i64.wrap (x4 - (1 : Int))).toNat) z_api_Event).User).toNat) z_api_Sub).Kind) ((x8.getD (((x9.getD ((IntKind.i64.wrap (x4 - (1 : Int))).toNat) z_api_Event).User).toNat) z_api_Sub).Fd) ((x8.getD (((x9.getD ((IntKind.i64.wrap (x4 - (1 : Int))).toNat) z_api_Event).User).toNat) z_api_Sub).Timeout) ((x8.getD (((x9.getD ((IntKind.i64.wrap (x4 - (1 : Int))).toNat) z_api_Event).User).toNat) z_api_Sub).Abs) x6).bind fun r73 =>
                    inB ((x9.getD x4.toNat z_api_Event).User) x8.length <|
                    (gangwaylaw24_at.f k ((x8.getD (((x9.getD x4.toNat z_api_Event).User).toNat) z_api_Sub).User) ((x8.getD (((x9.getD x4.toNat z_api_Event).User).toNat) z_api_Sub).Kind) ((x8.getD (((x9.getD x4.toNat z_api_Event).User).toNat) z_api_Sub).Fd) ((x8.getD (((x9.getD x4.toNat z_api_Event).User).toNat) z_api_Sub).Timeout) ((x8.getD (((x9.getD x4.toNat z_api_Event).User).toNat) z_api_Sub).Abs) x6).bind fun r74 =>
                    if r73 > r74 then
                      some false
                    else
                      inB ((x9.getD ((IntKind.i64.wrap (x4 - (1 : Int))).toNat) z_api_Event).User) x8.length <|
                      (gangwaylaw24_at.f k ((x8.getD (((x9.getD ((IntKind.i64.wrap (x4 - (1 : Int))).toNat) z_api_Event).User).toNat) z_api_Sub).User) ((x8.getD (((x9.getD ((IntKind.i64.wrap (x4 - (1 : Int))).toNat) z_api_Event).User).toNat) z_api_Sub).Kind) ((x8.getD (((x9.getD ((IntKind.i64.wrap (x4 - (1 : Int))).toNat) z_api_Event).User).toNat) z_api_Sub).Fd) ((x8.getD (((x9.getD ((IntKind.i64.wrap (x4 - (1 : Int))).toNat) z_api_Event).User).toNat) z_api_Sub).Timeout) ((x8.getD (((x9.getD ((IntKind.i64.wrap (x4 - (1 : Int))).toNat) z_api_Event).User).toNat) z_api_Sub).Abs) x6).bind fun r75 =>
                      inB ((x9.getD x4.toNat z_api_Event).User) x8.length <|
                      (gangwaylaw24_at.f k ((x8.getD (((x9.getD x4.toNat z_api_Event).User).toNat) z_api_Sub).User) ((x8.getD (((x9.getD x4.toNat z_api_Event).User).toNat) z_api_Sub).Kind) ((x8.getD (((x9.getD x4.toNat z_api_Event).User).toNat) z_api_Sub).Fd) ((x8.getD (((x9.getD x4.toNat z_api_Event).User).toNat) z_api_Sub).Timeout) ((x8.getD (((x9.getD x4.toNat z_api_Event).User).toNat) z_api_Sub).Abs) x6).bind fun r76 =>
                      if r75 = r76 then
                        if ((x9.getD ((IntKind.i64.wrap (x4 - (1 : Int))).toNat) z_api_Event).User) ≥ ((x9.getD x4.toNat z_api_Event).User) then
                          some false
                        else
                          gangwaylaw24_PollClocks.go k (.s35 x0 x1 x2 x3 (IntKind.i64.wrap (x4 + (1 : Int))) x5 x6 x7 x8 x9)
                      else
                        gangwaylaw24_PollClocks.go k (.s35 x0 x1 x2 x3 (IntKind.i64.wrap (x4 + (1 : Int))) x5 x6 x7 x8 x9)
                  else
                    gangwaylaw24_PollClocks.go k (.s35 x0 x1 x2 x3 (IntKind.i64.wrap (x4 + (1 : Int))) x5 x6 x7 x8 x9)
            else
              if x3 > (0 : Int) then
                inB ((x9.getD x4.toNat z_api_Event).User) x8.length <|
                (gangwaylaw24_at.f k ((x8.getD (((x9.getD x4.toNat z_api_Event).User).toNat) z_api_Sub).User) ((x8.getD (((x9.getD x4.toNat z_api_Event).User).toNat) z_api_Sub).Kind) ((x8.getD (((x9.getD x4.toNat z_api_Event).User).toNat) z_api_Sub).Fd) ((x8.getD (((x9.getD x4.toNat z_api_Event).User).toNat) z_api_Sub).Timeout) ((x8.getD (((x9.getD x4.toNat z_api_Event).User).toNat) z_api_Sub).Abs) x6).bind fun r77 =>
                if r77 > x6 then
                  some false
                else
                  if x4 > (0 : Int) then
                    inB (IntKind.i64.wrap (x4 - (1 : Int))) x9.length <|
                    inB ((x9.getD ((IntKind.i64.wrap (x4 - (1 : Int))).toNat) z_api_Event).User) x8.length <|
                    (gangwaylaw24_at.f k ((x8.getD (((x9.getD ((IntKind.i64.wrap (x4 - (1 : Int))).toNat) z_api_Event).User).toNat) z_api_Sub).User) ((x8.getD (((x9.getD ((IntKind.i64.wrap (x4 - (1 : Int))).toNat) z_api_Event).User).toNat) z_api_Sub).Kind) ((x8.getD (((x9.getD ((IntKind.i64.wrap (x4 - (1 : Int))).toNat) z_api_Event).User).toNat) z_api_Sub).Fd) ((x8.getD (((x9.getD ((IntKind.i64.wrap (x4 - (1 : Int))).toNat) z_api_Event).User).toNat) z_api_Sub).Timeout) ((x8.getD (((x9.getD ((IntKind.i64.wrap (x4 - (1 : Int))).toNat) z_api_Event).User).toNat) z_api_Sub).Abs) x6).bind fun r78 =>
                    inB ((x9.getD x4.toNat z_api_Event).User) x8.length <|
                    (gangwaylaw24_at.f k ((x8.getD (((x9.getD x4.toNat z_api_Event).User).toNat) z_api_Sub).User) ((x8.getD (((x9.getD x4.toNat z_api_Event).User).toNat) z_api_Sub).Kind) ((x8.getD (((x9.getD x4.toNat z_api_Event).User).toNat) z_api_Sub).Fd) ((x8.getD (((x9.getD x4.toNat z_api_Event).User).toNat) z_api_Sub).Timeout) ((x8.getD (((x9.getD x4.toNat z_api_Event).User).toNat) z_api_Sub).Abs) x6).bind fun r79 =>
                    if r78 > r79 then
                      some false
                    else
                      inB ((x9.getD ((IntKind.i64.wrap (x4 - (1 : Int))).toNat) z_api_Event).User) x8.length <|
                      (gangwaylaw24_at.f k ((x8.getD (((x9.getD ((IntKind.i64.wrap (x4 - (1 : Int))).toNat) z_api_Event).User).toNat) z_api_Sub).User) ((x8.getD (((x9.getD ((IntKind.i64.wrap (x4 - (1 : Int))).toNat) z_api_Event).User).toNat) z_api_Sub).Kind) ((x8.getD (((x9.getD ((IntKind.i64.wrap (x4 - (1 : Int))).toNat) z_api_Event).User).toNat) z_api_Sub).Fd) ((x8.getD (((x9.getD ((IntKind.i64.wrap (x4 - (1 : Int))).toNat) z_api_Event).User).toNat) z_api_Sub).Timeout) ((x8.getD (((x9.getD ((IntKind.i64.wrap (x4 - (1 : Int))).toNat) z_api_Event).User).toNat) z_api_Sub).Abs) x6).bind fun r80 =>
                      inB ((x9.getD x4.toNat z_api_Event).User) x8.length <|
                      (gangwaylaw24_at.f k ((x8.getD (((x9.getD x4.toNat z_api_Event).User).toNat) z_api_Sub).User) ((x8.getD (((x9.getD x4.toNat z_api_Event).User).toNat) z_api_Sub).Kind) ((x8.getD (((x9.getD x4.toNat z_api_Event).User).toNat) z_api_Sub).Fd) ((x8.getD (((x9.getD x4.toNat z_api_Event).User).toNat) z_api_Sub).Timeout) ((x8.getD (((x9.getD x4.toNat z_api_Event).User).toNat) z_api_Sub).Abs) x6).bind fun r81 =>
                      if r80 = r81 then
                        if ((x9.getD ((IntKind.i64.wrap (x4 - (1 : Int))).toNat) z_api_Event).User) ≥ ((x9.getD x4.toNat z_api_Event).User) then
                          some false
                        else
                          gangwaylaw24_PollClocks.go k (.s35 x0 x1 x2 x3 (IntKind.i64.wrap (x4 + (1 : Int))) x5 x6 x7 x8 x9)
                      else
                        gangwaylaw24_PollClocks.go k (.s35 x0 x1 x2 x3 (IntKind.i64.wrap (x4 + (1 : Int))) x5 x6 x7 x8 x9)
                  else
                    gangwaylaw24_PollClocks.go k (.s35 x0 x1 x2 x3 (IntKind.i64.wrap (x4 + (1 : Int))) x5 x6 x7 x8 x9)
              else
                if x4 > (0 : Int) then
                  inB (IntKind.i64.wrap (x4 - (1 : Int))) x9.length <|
                  inB ((x9.getD ((IntKind.i64.wrap (x4 - (1 : Int))).toNat) z_api_Event).User) x8.length <|
                  (gangwaylaw24_at.f k ((x8.getD (((x9.getD ((IntKind.i64.wrap (x4 - (1 : Int))).toNat) z_api_Event).User).toNat) z_api_Sub).User) ((x8.getD (((x9.getD ((IntKind.i64.wrap (x4 - (1 : Int))).toNat) z_api_Event).User).toNat) z_api_Sub).Kind) ((x8.getD (((x9.getD ((IntKind.i64.wrap (x4 - (1 : Int))).toNat) z_api_Event).User).toNat) z_api_Sub).Fd) ((x8.getD (((x9.getD ((IntKind.i64.wrap (x4 - (1 : Int))).toNat) z_api_Event).User).toNat) z_api_Sub).Timeout) ((x8.getD (((x9.getD ((IntKind.i64.wrap (x4 - (1 : Int))).toNat) z_api_Event).User).toNat) z_api_Sub).Abs) x6).bind fun r82 =>
                  inB ((x9.getD x4.toNat z_api_Event).User) x8.length <|
                  (gangwaylaw24_at.f k ((x8.getD (((x9.getD x4.toNat z_api_Event).User).toNat) z_api_Sub).User) ((x8.getD (((x9.getD x4.toNat z_api_Event).User).toNat) z_api_Sub).Kind) ((x8.getD (((x9.getD x4.toNat z_api_Event).User).toNat) z_api_Sub).Fd) ((x8.getD (((x9.getD x4.toNat z_api_Event).User).toNat) z_api_Sub).Timeout) ((x8.getD (((x9.getD x4.toNat z_api_Event).User).toNat) z_api_Sub).Abs) x6).bind fun r83 =>
                  if r82 > r83 then
                    some false
                  else
                    inB ((x9.getD ((IntKind.i64.wrap (x4 - (1 : Int))).toNat) z_api_Event).User) x8.length <|
                    (gangwaylaw24_at.f k ((x8.getD (((x9.getD ((IntKind.i64.wrap (x4 - (1 : Int))).toNat) z_api_Event).User).toNat) z_api_Sub).User) ((x8.getD (((x9.getD ((IntKind.i64.wrap (x4 - (1 : Int))).toNat) z_api_Event).User).toNat) z_api_Sub).Kind) ((x8.getD (((x9.getD ((IntKind.i64.wrap (x4 - (1 : Int))).toNat) z_api_Event).User).toNat) z_api_Sub).Fd) ((x8.getD (((x9.getD ((IntKind.i64.wrap (x4 - (1 : Int))).toNat) z_api_Event).User).toNat) z_api_Sub).Timeout) ((x8.getD (((x9.getD ((IntKind.i64.wrap (x4 - (1 : Int))).toNat) z_api_Event).User).toNat) z_api_Sub).Abs) x6).bind fun r84 =>
                    inB ((x9.getD x4.toNat z_api_Event).User) x8.length <|
                    (gangwaylaw24_at.f k ((x8.getD (((x9.getD x4.toNat z_api_Event).User).toNat) z_api_Sub).User) ((x8.getD (((x9.getD x4.toNat z_api_Event).User).toNat) z_api_Sub).Kind) ((x8.getD (((x9.getD x4.toNat z_api_Event).User).toNat) z_api_Sub).Fd) ((x8.getD (((x9.getD x4.toNat z_api_Event).User).toNat) z_api_Sub).Timeout) ((x8.getD (((x9.getD x4.toNat z_api_Event).User).toNat) z_api_Sub).Abs) x6).bind fun r85 =>
                    if r84 = r85 then
                      if ((x9.getD ((IntKind.i64.wrap (x4 - (1 : Int))).toNat) z_api_Event).User) ≥ ((x9.getD x4.toNat z_api_Event).User) then
                        some false
                      else
                        gangwaylaw24_PollClocks.go k (.s35 x0 x1 x2 x3 (IntKind.i64.wrap (x4 + (1 : Int))) x5 x6 x7 x8 x9)
                    else
                      gangwaylaw24_PollClocks.go k (.s35 x0 x1 x2 x3 (IntKind.i64.wrap (x4 + (1 : Int))) x5 x6 x7 x8 x9)
                else
                  gangwaylaw24_PollClocks.go k (.s35 x0 x1 x2 x3 (IntKind.i64.wrap (x4 + (1 : Int))) x5 x6 x7 x8 x9)
    else
      gangwaylaw24_PollClocks.go k (.s2 x0 (IntKind.i64.wrap (x1 + (1 : Int))))
def gangwaylaw24_PollClocks.f (k : Nat) (a0 : List gangwaylaw24_Ask) : Option gangwaylaw24_PollClocks.R :=
  gangwaylaw24_PollClocks.go k (.s2 a0 (0 : Int))
end Go.Proofs.Ytiikmhomlhgobaa.Den
