import Derived.Test.YtnlnjcgoodgmbaaT
set_option linter.unusedVariables false
set_option maxRecDepth 10000
namespace Go.Proofs.Ytnlnjcgoodgmbaa.Den
open Go Go.Proofs.YtnlnjcgoodgmbaaM Go.Proofs.YtnlnjcgoodgmbaaM.Tys Go.Proofs.YtnlnjcgoodgmbaaM.Tab
abbrev gangwayref5_shape.R : Type := Int
inductive gangwayref5_shape.L where
  | s3 (x0 : Int)
  | s5 (x0 : Int)
  | s7 (x0 : Int)
  | s13 (x0 : Int)
  | s15 (x0 : Int)
def gangwayref5_shape.go : Nat → gangwayref5_shape.L → Option gangwayref5_shape.R
  | 0, _ => none
  | k + 1, .s3 x0 =>
    if x0 ≥ (2 : Int) then
      if x0 ≤ (4 : Int) then
        some (2 : Int)
      else
        gangwayref5_shape.go k (.s5 x0)
    else
      gangwayref5_shape.go k (.s5 x0)
  | k + 1, .s5 x0 =>
    if x0 = (12 : Int) then
      some (3 : Int)
    else
      if x0 = (13 : Int) then
        some (3 : Int)
      else
        if x0 = (16 : Int) then
          some (3 : Int)
        else
          if x0 ≥ (32 : Int) then
            if x0 ≤ (36 : Int) then
              some (3 : Int)
            else
              gangwayref5_shape.go k (.s7 x0)
          else
            gangwayref5_shape.go k (.s7 x0)
  | k + 1, .s7 x0 =>
    if x0 = (14 : Int) then
      some (4 : Int)
    else
      if x0 = (17 : Int) then
        some (5 : Int)
      else
        if x0 = (40 : Int) then
          some (6 : Int)
        else
          if x0 = (41 : Int) then
            some (6 : Int)
          else
            if x0 ≥ (44 : Int) then
              if x0 ≤ (55 : Int) then
                some (6 : Int)
              else
                if x0 ≥ (58 : Int) then
                  if x0 ≤ (62 : Int) then
                    some (6 : Int)
                  else
                    gangwayref5_shape.go k (.s13 x0)
                else
                  gangwayref5_shape.go k (.s13 x0)
            else
              if x0 ≥ (58 : Int) then
                if x0 ≤ (62 : Int) then
                  some (6 : Int)
                else
                  gangwayref5_shape.go k (.s13 x0)
              else
                gangwayref5_shape.go k (.s13 x0)
  | k + 1, .s13 x0 =>
    if x0 = (63 : Int) then
      some (7 : Int)
    else
      if x0 = (64 : Int) then
        some (7 : Int)
      else
        gangwayref5_shape.go k (.s15 x0)
  | k + 1, .s15 x0 =>
    if x0 = (65 : Int) then
      some (8 : Int)
    else
      if x0 = (66 : Int) then
        some (9 : Int)
      else
        if x0 ≥ (69 : Int) then
          if x0 ≤ (90 : Int) then
            some (1 : Int)
          else
            if x0 ≥ (103 : Int) then
              if x0 ≤ (138 : Int) then
                some (1 : Int)
              else
                if x0 = (167 : Int) then
                  some (1 : Int)
                else
                  if x0 = (172 : Int) then
                    some (1 : Int)
                  else
                    if x0 = (173 : Int) then
                      some (1 : Int)
                    else
                      some (0 : Int)
            else
              if x0 = (167 : Int) then
                some (1 : Int)
              else
                if x0 = (172 : Int) then
                  some (1 : Int)
                else
                  if x0 = (173 : Int) then
                    some (1 : Int)
                  else
                    some (0 : Int)
        else
          if x0 ≥ (103 : Int) then
            if x0 ≤ (138 : Int) then
              some (1 : Int)
            else
              if x0 = (167 : Int) then
                some (1 : Int)
              else
                if x0 = (172 : Int) then
                  some (1 : Int)
                else
                  if x0 = (173 : Int) then
                    some (1 : Int)
                  else
                    some (0 : Int)
          else
            if x0 = (167 : Int) then
              some (1 : Int)
            else
              if x0 = (172 : Int) then
                some (1 : Int)
              else
                if x0 = (173 : Int) then
                  some (1 : Int)
                else
                  some (0 : Int)
def gangwayref5_shape.f (k : Nat) (a0 : Int) : Option gangwayref5_shape.R :=
  if a0 = (0 : Int) then
    some (1 : Int)
  else
    if a0 = (1 : Int) then
      some (1 : Int)
    else
      if a0 = (15 : Int) then
        some (1 : Int)
      else
        if a0 = (26 : Int) then
          some (1 : Int)
        else
          if a0 = (27 : Int) then
            some (1 : Int)
          else
            gangwayref5_shape.go k (.s3 a0)
abbrev gangwayref5_in.R : Type := Bool
inductive gangwayref5_in.L where
def gangwayref5_in.go : Nat → gangwayref5_in.L → Option gangwayref5_in.R := fun _ _ => none
def gangwayref5_in.f (k : Nat) (a0 : Int) : Option gangwayref5_in.R :=
  if a0 ≥ (0 : Int) then
    some (decide (a0 < (4294967296 : Int)))
  else
    some false
abbrev gangwayref5_may.R : Type := Bool
inductive gangwayref5_may.L where
  | s24 (x0 : Bool) (x1 : Int) (x2 : Int) (x3 : Int) (x4 : Int) (x5 : Int) (x6 : Int) (x7 : Int) (x8 : List Int) (x9 : List api_Instr) (x10 : List api_Instr) (x11 : Int) (x12 : Int) (x13 : Int) (x14 : Int) (x15 : Int) (x16 : Int) (x17 : List Int) (x18 : List api_Instr) (x19 : List api_Instr)
abbrev gangwayref5_May.R : Type := Bool
inductive gangwayref5_May.L where
  | s2 (x0 : List api_Instr) (x1 : Int) (x2 : Int)
structure gangwayref5_May.Fns where
  gangwayref5_may_f : Int → Int → Int → Int → Int → Int → (List Int) → (List api_Instr) → (List api_Instr) → Int → Option gangwayref5_may.R
  gangwayref5_may_go : gangwayref5_may.L → Option gangwayref5_may.R
  gangwayref5_May_f : (List api_Instr) → Int → Option gangwayref5_May.R
  gangwayref5_May_go : gangwayref5_May.L → Option gangwayref5_May.R
def gangwayref5_May.step (k : Nat) (r_ : gangwayref5_May.Fns) : gangwayref5_May.Fns where
  gangwayref5_may_f := fun (a0 : Int) (a1 : Int) (a2 : Int) (a3 : Int) (a4 : Int) (a5 : Int) (a6 : List Int) (a7 : List api_Instr) (a8 : List api_Instr) (a9 : Int) =>
      (gangwayref5_shape.f k a0).bind fun r1 =>
      if r1 = (0 : Int) then
        some false
      else
        if r1 = (2 : Int) then
          if a9 = (0 : Int) then
            some false
          else
            if a1 = (64 : Int) then
              (r_.gangwayref5_May_f a7 (IntKind.i64.wrap (a9 - (1 : Int)))).bind fun r2 =>
              if a0 = (4 : Int) then
                if r2 = true then
                  (r_.gangwayref5_May_f a8 (IntKind.i64.wrap (a9 - (1 : Int)))).bind fun r3 =>
                  if r3 = true then
                    if a0 = a0 then
                      if a1 = a1 then
                        if a2 = 0 then
                          if a3 = 0 then
                            if a4 = 0 then
                              if a5 = 0 then
                                if (a6.length : Int) = (([] : List Int).length : Int) then
                                  if (a7.length : Int) = (a7.length : Int) then
                                    some (decide ((a8.length : Int) = (a8.length : Int)))
                                  else
                                    some false
                                else
                                  some false
                              else
                                some false
                            else
                              some false
                          else
                            some false
                        else
                          some false
                      else
                        some false
                    else
                      some false
                  else
                    some false
                else
                  some false
              else
                if r2 = true then
                  if a0 = a0 then
                    if a1 = a1 then
                      if a2 = 0 then
                        if a3 = 0 then
                          if a4 = 0 then
                            if a5 = 0 then
                              if (a6.length : Int) = (([] : List Int).length : Int) then
                                if (a7.length : Int) = (a7.length : Int) then
                                  some (decide ((a8.length : Int) = (([] : List api_Instr).length : Int)))
                                else
                                  some false
                              else
                                some false
                            else
                              some false
                          else
                            some false
                        else
                          some false
                      else
                        some false
                    else
                      some false
                  else
                    some false
                else
                  some false
            else
              if a1 = (127 : Int) then
                (r_.gangwayref5_May_f a7 (IntKind.i64.wrap (a9 - (1 : Int)))).bind fun r4 =>
                if a0 = (4 : Int) then
                  if r4 = true then
                    (r_.gangwayref5_May_f a8 (IntKind.i64.wrap (a9 - (1 : Int)))).bind fun r5 =>
                    if r5 = true then
                      if a0 = a0 then
                        if a1 = a1 then
                          if a2 = 0 then
                            if a3 = 0 then
                              if a4 = 0 then
                                if a5 = 0 then
                                  if (a6.length : Int) = (([] : List Int).length : Int) then
                                    if (a7.length : Int) = (a7.length : Int) then
                                      some (decide ((a8.length : Int) = (a8.length : Int)))
                                    else
                                      some false
                                  else
                                    some false
                                else
                                  some false
                              else
                                some false
                            else
                              some false
                          else
                            some false
                        else
                          some false
                      else
                        some false
                    else
                      some false
                  else
                    some false
                else
                  if r4 = true then
                    if a0 = a0 then
                      if a1 = a1 then
                        if a2 = 0 then
                          if a3 = 0 then
                            if a4 = 0 then
                              if a5 = 0 then
                                if (a6.length : Int) = (([] : List Int).length : Int) then
                                  if (a7.length : Int) = (a7.length : Int) then
                                    some (decide ((a8.length : Int) = (([] : List api_Instr).length : Int)))
                                  else
                                    some false
                                else
                                  some false
                              else
                                some false
                            else
                              some false
                          else
                            some false
                        else
                          some false
                      else
                        some false
                    else
                      some false
                  else
                    some false
              else
                if a1 = (126 : Int) then
                  (r_.gangwayref5_May_f a7 (IntKind.i64.wrap (a9 - (1 : Int)))).bind fun r6 =>
                  if a0 = (4 : Int) then
                    if r6 = true then
                      (r_.gangwayref5_May_f a8 (IntKind.i64.wrap (a9 - (1 : Int)))).bind fun r7 =>
                      if r7 = true then
                        if a0 = a0 then
                          if a1 = a1 then
                            if a2 = 0 then
                              if a3 = 0 then
                                if a4 = 0 then
                                  if a5 = 0 then
                                    if (a6.length : Int) = (([] : List Int).length : Int) then
                                      if (a7.length : Int) = (a7.length : Int) then
                                        some (decide ((a8.length : Int) = (a8.length : Int)))
                                      else
                                        some false
                                    else
                                      some false
                                  else
                                    some false
                                else
                                  some false
                              else
                                some false
                            else
                              some false
                          else
                            some false
                        else
                          some false
                      else
                        some false
                    else
                      some false
                  else
                    if r6 = true then
                      if a0 = a0 then
                        if a1 = a1 then
                          if a2 = 0 then
                            if a3 = 0 then
                              if a4 = 0 then
                                if a5 = 0 then
                                  if (a6.length : Int) = (([] : List Int).length : Int) then
                                    if (a7.length : Int) = (a7.length : Int) then
                                      some (decide ((a8.length : Int) = (([] : List api_Instr).length : Int)))
                                    else
                                      some false
                                  else
                                    some false
                                else
                                  some false
                              else
                                some false
                            else
                              some false
                          else
                            some false
                        else
                          some false
                      else
                        some false
                    else
                      some false
                else
                  if a0 = (4 : Int) then
                    some false
                  else
                    some false
        else
          if r1 = (3 : Int) then
            (gangwayref5_in.f k a2).bind fun r8 =>
            if r8 = true then
              if a0 = a0 then
                if a1 = 0 then
                  if a2 = a2 then
                    if a3 = 0 then
                      if a4 = 0 then
                        if a5 = 0 then
                          if (a6.length : Int) = (([] : List Int).length : Int) then
                            if (a7.length : Int) = (([] : List api_Instr).length : Int) then
                              some (decide ((a8.length : Int) = (([] : List api_Instr).length : Int)))
                            else
                              some false
                          else
                            some false
                        else
                          some false
                      else
                        some false
                    else
                      some false
                  else
                    some false
                else
                  some false
              else
                some false
            else
              some false
          else
            if r1 = (5 : Int) then
              (gangwayref5_in.f k a2).bind fun r9 =>
              if r9 = true then
                if a0 = a0 then
                  if a1 = 0 then
                    if a2 = a2 then
                      if a3 = 0 then
                        if a4 = 0 then
                          if a5 = 0 then
                            if (a6.length : Int) = (([] : List Int).length : Int) then
                              if (a7.length : Int) = (([] : List api_Instr).length : Int) then
                                some (decide ((a8.length : Int) = (([] : List api_Instr).length : Int)))
                              else
                                some false
                            else
                              some false
                          else
                            some false
                        else
                          some false
                      else
                        some false
                    else
                      some false
                  else
                    some false
                else
                  some false
              else
                some false
            else
              if r1 = (4 : Int) then
                (gangwayref5_in.f k a2).bind fun r10 =>
                r_.gangwayref5_may_go (.s24 r10 (0 : Int) a0 a1 a2 a3 a4 a5 a6 a7 a8 a0 0 a2 0 0 0 a6 [] [])
              else
                if r1 = (6 : Int) then
                  (gangwayref5_in.f k a3).bind fun r11 =>
                  if r11 = true then
                    (gangwayref5_in.f k a4).bind fun r12 =>
                    if r12 = true then
                      if a0 = a0 then
                        if a1 = 0 then
                          if a2 = 0 then
                            if a3 = a3 then
                              if a4 = a4 then
                                if a5 = 0 then
                                  if (a6.length : Int) = (([] : List Int).length : Int) then
                                    if (a7.length : Int) = (([] : List api_Instr).length : Int) then
                                      some (decide ((a8.length : Int) = (([] : List api_Instr).length : Int)))
                                    else
                                      some false
                                  else
                                    some false
                                else
                                  some false
                              else
                                some false
                            else
                              some false
                          else
                            some false
                        else
                          some false
                      else
                        some false
                    else
                      some false
                  else
                    some false
                else
                  if r1 = (8 : Int) then
                    if a5 ≥ (-2147483648 : Int) then
                      if a5 < (2147483648 : Int) then
                        if a0 = a0 then
                          if a1 = 0 then
                            if a2 = 0 then
                              if a3 = 0 then
                                if a4 = 0 then
                                  if a5 = a5 then
                                    if (a6.length : Int) = (([] : List Int).length : Int) then
                                      if (a7.length : Int) = (([] : List api_Instr).length : Int) then
                                        some (decide ((a8.length : Int) = (([] : List api_Instr).length : Int)))
                                      else
                                        some false
                                    else
                                      some false
                                  else
                                    some false
                                else
                                  some false
                              else
                                some false
                            else
                              some false
                          else
                            some false
                        else
                          some false
                      else
                        some false
                    else
                      some false
                  else
                    if r1 = (9 : Int) then
                      if a0 = a0 then
                        if a1 = 0 then
                          if a2 = 0 then
                            if a3 = 0 then
                              if a4 = 0 then
                                if a5 = a5 then
                                  if (a6.length : Int) = (([] : List Int).length : Int) then
                                    if (a7.length : Int) = (([] : List api_Instr).length : Int) then
                                      some (decide ((a8.length : Int) = (([] : List api_Instr).length : Int)))
                                    else
                                      some false
                                  else
                                    some false
                                else
                                  some false
                              else
                                some false
                            else
                              some false
                          else
                            some false
                        else
                          some false
                      else
                        some false
                    else
                      if a0 = a0 then
                        if a1 = 0 then
                          if a2 = 0 then
                            if a3 = 0 then
                              if a4 = 0 then
                                if a5 = 0 then
                                  if (a6.length : Int) = (([] : List Int).length : Int) then
                                    if (a7.length : Int) = (([] : List api_Instr).length : Int) then
                                      some (decide ((a8.length : Int) = (([] : List api_Instr).length : Int)))
                                    else
                                      some false
                                  else
                                    some false
                                else
                                  some false
                              else
                                some false
                            else
                              some false
                          else
                            some false
                        else
                          some false
                      else
                        some false
  gangwayref5_may_go := fun l => match l with
      | .s24 x0 x1 x2 x3 x4 x5 x6 x7 x8 x9 x10 x11 x12 x13 x14 x15 x16 x17 x18 x19 =>
        if x1 < (x8.length : Int) then
          if x0 = true then
            inB x1 x8.length <|
            (gangwayref5_in.f k (x8.getD x1.toNat (0 : Int))).bind fun r13 =>
            r_.gangwayref5_may_go (.s24 r13 (IntKind.i64.wrap (x1 + (1 : Int))) x2 x3 x4 x5 x6 x7 x8 x9 x10 x11 x12 x13 x14 x15 x16 x17 x18 x19)
          else
            r_.gangwayref5_may_go (.s24 false (IntKind.i64.wrap (x1 + (1 : Int))) x2 x3 x4 x5 x6 x7 x8 x9 x10 x11 x12 x13 x14 x15 x16 x17 x18 x19)
        else
          if x0 = true then
            if x2 = x11 then
              if x3 = x12 then
                if x4 = x13 then
                  if x5 = x14 then
                    if x6 = x15 then
                      if x7 = x16 then
                        if (x8.length : Int) = (x17.length : Int) then
                          if (x9.length : Int) = (x18.length : Int) then
                            some (decide ((x10.length : Int) = (x19.length : Int)))
                          else
                            some false
                        else
                          some false
                      else
                        some false
                    else
                      some false
                  else
                    some false
                else
                  some false
              else
                some false
            else
              some false
          else
            some false
  gangwayref5_May_f := fun (a0 : List api_Instr) (a1 : Int) =>
      r_.gangwayref5_May_go (.s2 a0 a1 (0 : Int))
  gangwayref5_May_go := fun l => match l with
      | .s2 x0 x1 x2 =>
        if x2 < (x0.length : Int) then
          inB x2 x0.length <|
          (r_.gangwayref5_may_f ((x0.getD x2.toNat z_api_Instr).Op) ((x0.getD x2.toNat z_api_Instr).Type_) ((x0.getD x2.toNat z_api_Instr).Index) ((x0.getD x2.toNat z_api_Instr).Align) ((x0.getD x2.toNat z_api_Instr).Offset) ((x0.getD x2.toNat z_api_Instr).Val) ((x0.getD x2.toNat z_api_Instr).Labels) ((x0.getD x2.toNat z_api_Instr).Body) ((x0.getD x2.toNat z_api_Instr).Else) x1).bind fun r14 =>
          if (!r14) = true then
            some false
          else
            r_.gangwayref5_May_go (.s2 x0 x1 (IntKind.i64.wrap (x2 + (1 : Int))))
        else
          some true
def gangwayref5_May.fns : Nat → gangwayref5_May.Fns
  | 0 => ⟨fun _ _ _ _ _ _ _ _ _ _ => none, fun _ => none, fun _ _ => none, fun _ => none⟩
  | k + 1 => gangwayref5_May.step k (gangwayref5_May.fns k)
def gangwayref5_may.f (k : Nat) (a0 : Int) (a1 : Int) (a2 : Int) (a3 : Int) (a4 : Int) (a5 : Int) (a6 : List Int) (a7 : List api_Instr) (a8 : List api_Instr) (a9 : Int) : Option gangwayref5_may.R := (gangwayref5_May.fns k).gangwayref5_may_f a0 a1 a2 a3 a4 a5 a6 a7 a8 a9
def gangwayref5_may.go (k : Nat) (l : gangwayref5_may.L) : Option gangwayref5_may.R := (gangwayref5_May.fns k).gangwayref5_may_go l
def gangwayref5_May.f (k : Nat) (a0 : List api_Instr) (a1 : Int) : Option gangwayref5_May.R := (gangwayref5_May.fns k).gangwayref5_May_f a0 a1
def gangwayref5_May.go (k : Nat) (l : gangwayref5_May.L) : Option gangwayref5_May.R := (gangwayref5_May.fns k).gangwayref5_May_go l
theorem gangwayref5_May.go_s2 (k : Nat) (x0 : List api_Instr) (x1 : Int) (x2 : Int) : gangwayref5_May.go (k + 1) (.s2 x0 x1 x2) =
    if x2 < (x0.length : Int) then
      inB x2 x0.length <|
      (gangwayref5_may.f k ((x0.getD x2.toNat z_api_Instr).Op) ((x0.getD x2.toNat z_api_Instr).Type_) ((x0.getD x2.toNat z_api_Instr).Index) ((x0.getD x2.toNat z_api_Instr).Align) ((x0.getD x2.toNat z_api_Instr).Offset) ((x0.getD x2.toNat z_api_Instr).Val) ((x0.getD x2.toNat z_api_Instr).Labels) ((x0.getD x2.toNat z_api_Instr).Body) ((x0.getD x2.toNat z_api_Instr).Else) x1).bind fun r1 =>
      if (!r1) = true then
        some false
      else
        gangwayref5_May.go k (.s2 x0 x1 (IntKind.i64.wrap (x2 + (1 : Int))))
    else
      some true := rfl
abbrev body_typ.R : Type := Bool
inductive body_typ.L where
def body_typ.go : Nat → body_typ.L → Option body_typ.R := fun _ _ => none
def body_typ.f (k : Nat) (a0 : Int) : Option body_typ.R :=
  if a0 = (127 : Int) then
    some true
  else
    some (decide (a0 = (126 : Int)))
abbrev body_typed_1.R : Type := Bool
inductive body_typed_1.L where
def body_typed_1.go : Nat → body_typed_1.L → Option body_typed_1.R := fun _ _ => none
def body_typed_1.f (k : Nat) (a0 : Int) : Option body_typed_1.R :=
  (body_typ.f k a0).bind fun r1 =>
  some (!r1)
abbrev slices_IndexFunc_int_int.R : Type := Int
inductive slices_IndexFunc_int_int.L where
  | s2 (x0 : List Int) (x1 : Int) (x2 : Int)
def slices_IndexFunc_int_int.go : Nat → slices_IndexFunc_int_int.L → Option slices_IndexFunc_int_int.R
  | 0, _ => none
  | k + 1, .s2 x0 x1 x2 =>
    if x2 < x1 then
      inB x2 x0.length <|
      (body_typed_1.f k (x0.getD x2.toNat (0 : Int))).bind fun r1 =>
      if r1 = true then
        some x2
      else
        slices_IndexFunc_int_int.go k (.s2 x0 x1 (IntKind.i64.wrap (x2 + (1 : Int))))
    else
      some (-1 : Int)
def slices_IndexFunc_int_int.f (k : Nat) (a0 : List Int) : Option slices_IndexFunc_int_int.R :=
  slices_IndexFunc_int_int.go k (.s2 a0 (a0.length : Int) (0 : Int))
abbrev slices_ContainsFunc_int_int.R : Type := Bool
inductive slices_ContainsFunc_int_int.L where
def slices_ContainsFunc_int_int.go : Nat → slices_ContainsFunc_int_int.L → Option slices_ContainsFunc_int_int.R := fun _ _ => none
def slices_ContainsFunc_int_int.f (k : Nat) (a0 : List Int) : Option slices_ContainsFunc_int_int.R :=
  (slices_IndexFunc_int_int.f k a0).bind fun r1 =>
  some (decide (r1 ≥ (0 : Int)))
abbrev body_typed.R : Type := Bool
inductive body_typed.L where
def body_typed.go : Nat → body_typed.L → Option body_typed.R := fun _ _ => none
def body_typed.f (k : Nat) (a0 : List Int) : Option body_typed.R :=
  (slices_ContainsFunc_int_int.f k a0).bind fun r1 =>
  some (!r1)
abbrev body_may_1.R : Type := Bool
inductive body_may_1.L where
def body_may_1.go : Nat → body_may_1.L → Option body_may_1.R := fun _ _ => none
def body_may_1.f (k : Nat) (a0 : List Int) (a1 : List Int) : Option body_may_1.R :=
  (body_typed.f k a0).bind fun r1 =>
  if (!r1) = true then
    some true
  else
    (body_typed.f k a1).bind fun r2 =>
    if (!r2) = true then
      some true
    else
      some (decide ((a1.length : Int) > (1 : Int)))
abbrev slices_IndexFunc_api_FuncType_api_FuncType.R : Type := Int
inductive slices_IndexFunc_api_FuncType_api_FuncType.L where
  | s2 (x0 : List api_FuncType) (x1 : Int) (x2 : Int)
def slices_IndexFunc_api_FuncType_api_FuncType.go : Nat → slices_IndexFunc_api_FuncType_api_FuncType.L → Option slices_IndexFunc_api_FuncType_api_FuncType.R
  | 0, _ => none
  | k + 1, .s2 x0 x1 x2 =>
    if x2 < x1 then
      inB x2 x0.length <|
      (body_may_1.f k ((x0.getD x2.toNat z_api_FuncType).Params) ((x0.getD x2.toNat z_api_FuncType).Results)).bind fun r1 =>
      if r1 = true then
        some x2
      else
        slices_IndexFunc_api_FuncType_api_FuncType.go k (.s2 x0 x1 (IntKind.i64.wrap (x2 + (1 : Int))))
    else
      some (-1 : Int)
def slices_IndexFunc_api_FuncType_api_FuncType.f (k : Nat) (a0 : List api_FuncType) : Option slices_IndexFunc_api_FuncType_api_FuncType.R :=
  slices_IndexFunc_api_FuncType_api_FuncType.go k (.s2 a0 (a0.length : Int) (0 : Int))
abbrev slices_ContainsFunc_api_FuncType_api_FuncType.R : Type := Bool
inductive slices_ContainsFunc_api_FuncType_api_FuncType.L where
def slices_ContainsFunc_api_FuncType_api_FuncType.go : Nat → slices_ContainsFunc_api_FuncType_api_FuncType.L → Option slices_ContainsFunc_api_FuncType_api_FuncType.R := fun _ _ => none
def slices_ContainsFunc_api_FuncType_api_FuncType.f (k : Nat) (a0 : List api_FuncType) : Option slices_ContainsFunc_api_FuncType_api_FuncType.R :=
  (slices_IndexFunc_api_FuncType_api_FuncType.f k a0).bind fun r1 =>
  some (decide (r1 ≥ (0 : Int)))
abbrev body_may.R : Type := Bool
inductive body_may.L where
def body_may.go : Nat → body_may.L → Option body_may.R := fun _ _ => none
def body_may.f (k : Nat) (a0 : List api_FuncType) : Option body_may.R :=
  (slices_ContainsFunc_api_FuncType_api_FuncType.f k a0).bind fun r1 =>
  some (!r1)
abbrev code_shape.R : Type := Int
inductive code_shape.L where
  | s3 (x0 : Int)
  | s7 (x0 : Int)
  | s13 (x0 : Int)
  | s15 (x0 : Int)
def code_shape.go : Nat → code_shape.L → Option code_shape.R
  | 0, _ => none
  | k + 1, .s3 x0 =>
    if x0 = (4 : Int) then
      some (3 : Int)
    else
      if x0 = (12 : Int) then
        some (4 : Int)
      else
        if x0 = (13 : Int) then
          some (4 : Int)
        else
          if x0 = (16 : Int) then
            some (4 : Int)
          else
            if x0 ≥ (32 : Int) then
              if x0 ≤ (36 : Int) then
                some (4 : Int)
              else
                code_shape.go k (.s7 x0)
            else
              code_shape.go k (.s7 x0)
  | k + 1, .s7 x0 =>
    if x0 = (14 : Int) then
      some (5 : Int)
    else
      if x0 = (17 : Int) then
        some (6 : Int)
      else
        if x0 = (40 : Int) then
          some (7 : Int)
        else
          if x0 = (41 : Int) then
            some (7 : Int)
          else
            if x0 ≥ (44 : Int) then
              if x0 ≤ (55 : Int) then
                some (7 : Int)
              else
                if x0 ≥ (58 : Int) then
                  if x0 ≤ (62 : Int) then
                    some (7 : Int)
                  else
                    code_shape.go k (.s13 x0)
                else
                  code_shape.go k (.s13 x0)
            else
              if x0 ≥ (58 : Int) then
                if x0 ≤ (62 : Int) then
                  some (7 : Int)
                else
                  code_shape.go k (.s13 x0)
              else
                code_shape.go k (.s13 x0)
  | k + 1, .s13 x0 =>
    if x0 = (63 : Int) then
      some (8 : Int)
    else
      if x0 = (64 : Int) then
        some (8 : Int)
      else
        code_shape.go k (.s15 x0)
  | k + 1, .s15 x0 =>
    if x0 = (65 : Int) then
      some (9 : Int)
    else
      if x0 = (66 : Int) then
        some (10 : Int)
      else
        if x0 = (0 : Int) then
          some (1 : Int)
        else
          if x0 = (1 : Int) then
            some (1 : Int)
          else
            if x0 = (15 : Int) then
              some (1 : Int)
            else
              if x0 = (26 : Int) then
                some (1 : Int)
              else
                if x0 = (27 : Int) then
                  some (1 : Int)
                else
                  if x0 ≥ (69 : Int) then
                    if x0 ≤ (90 : Int) then
                      some (1 : Int)
                    else
                      if x0 ≥ (103 : Int) then
                        if x0 ≤ (138 : Int) then
                          some (1 : Int)
                        else
                          if x0 = (167 : Int) then
                            some (1 : Int)
                          else
                            if x0 = (172 : Int) then
                              some (1 : Int)
                            else
                              if x0 = (173 : Int) then
                                some (1 : Int)
                              else
                                some (0 : Int)
                      else
                        if x0 = (167 : Int) then
                          some (1 : Int)
                        else
                          if x0 = (172 : Int) then
                            some (1 : Int)
                          else
                            if x0 = (173 : Int) then
                              some (1 : Int)
                            else
                              some (0 : Int)
                  else
                    if x0 ≥ (103 : Int) then
                      if x0 ≤ (138 : Int) then
                        some (1 : Int)
                      else
                        if x0 = (167 : Int) then
                          some (1 : Int)
                        else
                          if x0 = (172 : Int) then
                            some (1 : Int)
                          else
                            if x0 = (173 : Int) then
                              some (1 : Int)
                            else
                              some (0 : Int)
                    else
                      if x0 = (167 : Int) then
                        some (1 : Int)
                      else
                        if x0 = (172 : Int) then
                          some (1 : Int)
                        else
                          if x0 = (173 : Int) then
                            some (1 : Int)
                          else
                            some (0 : Int)
def code_shape.f (k : Nat) (a0 : Int) : Option code_shape.R :=
  if a0 = (2 : Int) then
    some (2 : Int)
  else
    if a0 = (3 : Int) then
      some (2 : Int)
    else
      code_shape.go k (.s3 a0)
abbrev code_word.R : Type := Bool
inductive code_word.L where
def code_word.go : Nat → code_word.L → Option code_word.R := fun _ _ => none
def code_word.f (k : Nat) (a0 : Int) : Option code_word.R :=
  if a0 ≥ (0 : Int) then
    some (decide (a0 < (4294967296 : Int)))
  else
    some false
abbrev code_typ.R : Type := Bool
inductive code_typ.L where
def code_typ.go : Nat → code_typ.L → Option code_typ.R := fun _ _ => none
def code_typ.f (k : Nat) (a0 : Int) : Option code_typ.R :=
  if a0 = (64 : Int) then
    some true
  else
    if a0 = (127 : Int) then
      some true
    else
      some (decide (a0 = (126 : Int)))
abbrev code_good_1.R : Type := Bool
inductive code_good_1.L where
def code_good_1.go : Nat → code_good_1.L → Option code_good_1.R := fun _ _ => none
def code_good_1.f (k : Nat) (a0 : Int) : Option code_good_1.R :=
  (code_word.f k a0).bind fun r1 =>
  some (!r1)
abbrev slices_IndexFunc_int_int_1.R : Type := Int
inductive slices_IndexFunc_int_int_1.L where
  | s2 (x0 : List Int) (x1 : Int) (x2 : Int)
def slices_IndexFunc_int_int_1.go : Nat → slices_IndexFunc_int_int_1.L → Option slices_IndexFunc_int_int_1.R
  | 0, _ => none
  | k + 1, .s2 x0 x1 x2 =>
    if x2 < x1 then
      inB x2 x0.length <|
      (code_good_1.f k (x0.getD x2.toNat (0 : Int))).bind fun r1 =>
      if r1 = true then
        some x2
      else
        slices_IndexFunc_int_int_1.go k (.s2 x0 x1 (IntKind.i64.wrap (x2 + (1 : Int))))
    else
      some (-1 : Int)
def slices_IndexFunc_int_int_1.f (k : Nat) (a0 : List Int) : Option slices_IndexFunc_int_int_1.R :=
  slices_IndexFunc_int_int_1.go k (.s2 a0 (a0.length : Int) (0 : Int))
abbrev slices_ContainsFunc_int_int_1.R : Type := Bool
inductive slices_ContainsFunc_int_int_1.L where
def slices_ContainsFunc_int_int_1.go : Nat → slices_ContainsFunc_int_int_1.L → Option slices_ContainsFunc_int_int_1.R := fun _ _ => none
def slices_ContainsFunc_int_int_1.f (k : Nat) (a0 : List Int) : Option slices_ContainsFunc_int_int_1.R :=
  (slices_IndexFunc_int_int_1.f k a0).bind fun r1 =>
  some (decide (r1 ≥ (0 : Int)))
abbrev code_good.R : Type := Bool
inductive code_good.L where
abbrev code_all_1.R : Type := Bool × Int
inductive code_all_1.L where
abbrev slices_IndexFunc_api_Instr_api_Instr.R : Type := Int × Int
inductive slices_IndexFunc_api_Instr_api_Instr.L where
  | s2 (x0 : List api_Instr) (x1 : Int) (x2 : Int) (x3 : Int)
abbrev slices_ContainsFunc_api_Instr_api_Instr.R : Type := Bool × Int
inductive slices_ContainsFunc_api_Instr_api_Instr.L where
abbrev code_all.R : Type := Bool
inductive code_all.L where
structure code_all.Fns where
  code_good_f : Int → Int → Int → Int → Int → Int → (List Int) → (List api_Instr) → (List api_Instr) → Int → Option code_good.R
  code_good_go : code_good.L → Option code_good.R
  code_all_1_f : Int → Int → Int → Int → Int → Int → (List Int) → (List api_Instr) → (List api_Instr) → Int → Option code_all_1.R
  code_all_1_go : code_all_1.L → Option code_all_1.R
  slices_IndexFunc_api_Instr_api_Instr_f : (List api_Instr) → Int → Option slices_IndexFunc_api_Instr_api_Instr.R
  slices_IndexFunc_api_Instr_api_Instr_go : slices_IndexFunc_api_Instr_api_Instr.L → Option slices_IndexFunc_api_Instr_api_Instr.R
  slices_ContainsFunc_api_Instr_api_Instr_f : (List api_Instr) → Int → Option slices_ContainsFunc_api_Instr_api_Instr.R
  slices_ContainsFunc_api_Instr_api_Instr_go : slices_ContainsFunc_api_Instr_api_Instr.L → Option slices_ContainsFunc_api_Instr_api_Instr.R
  code_all_f : (List api_Instr) → Int → Option code_all.R
  code_all_go : code_all.L → Option code_all.R
def code_all.step (k : Nat) (r_ : code_all.Fns) : code_all.Fns where
  code_good_f := fun (a0 : Int) (a1 : Int) (a2 : Int) (a3 : Int) (a4 : Int) (a5 : Int) (a6 : List Int) (a7 : List api_Instr) (a8 : List api_Instr) (a9 : Int) =>
      (code_shape.f k a0).bind fun r1 =>
      if r1 = (1 : Int) then
        (code_word.f k a2).bind fun r2 =>
        if r2 = true then
          (code_word.f k a3).bind fun r3 =>
          if r3 = true then
            (code_word.f k a4).bind fun r4 =>
            if r4 = true then
              if 0 = a1 then
                if 0 = a2 then
                  if 0 = a3 then
                    if 0 = a4 then
                      if 0 = a5 then
                        if (([] : List Int).length : Int) = (a6.length : Int) then
                          if (([] : List api_Instr).length : Int) = (a7.length : Int) then
                            some (decide ((([] : List api_Instr).length : Int) = (a8.length : Int)))
                          else
                            some false
                        else
                          some false
                      else
                        some false
                    else
                      some false
                  else
                    some false
                else
                  some false
              else
                some false
            else
              some false
          else
            some false
        else
          some false
      else
        if r1 = (8 : Int) then
          (code_word.f k a2).bind fun r5 =>
          if r5 = true then
            (code_word.f k a3).bind fun r6 =>
            if r6 = true then
              (code_word.f k a4).bind fun r7 =>
              if r7 = true then
                if 0 = a1 then
                  if 0 = a2 then
                    if 0 = a3 then
                      if 0 = a4 then
                        if 0 = a5 then
                          if (([] : List Int).length : Int) = (a6.length : Int) then
                            if (([] : List api_Instr).length : Int) = (a7.length : Int) then
                              some (decide ((([] : List api_Instr).length : Int) = (a8.length : Int)))
                            else
                              some false
                          else
                            some false
                        else
                          some false
                      else
                        some false
                    else
                      some false
                  else
                    some false
                else
                  some false
              else
                some false
            else
              some false
          else
            some false
        else
          if r1 = (2 : Int) then
            (code_typ.f k a1).bind fun r8 =>
            if r8 = true then
              if a9 < (40 : Int) then
                (r_.code_all_f a7 (IntKind.i64.wrap (a9 + (1 : Int)))).bind fun r9 =>
                if a0 = (4 : Int) then
                  if r9 = true then
                    (r_.code_all_f a8 (IntKind.i64.wrap (a9 + (1 : Int)))).bind fun r10 =>
                    if r10 = true then
                      (code_word.f k a2).bind fun r11 =>
                      if r11 = true then
                        (code_word.f k a3).bind fun r12 =>
                        if r12 = true then
                          (code_word.f k a4).bind fun r13 =>
                          if r13 = true then
                            if a1 = a1 then
                              if 0 = a2 then
                                if 0 = a3 then
                                  if 0 = a4 then
                                    if 0 = a5 then
                                      if (([] : List Int).length : Int) = (a6.length : Int) then
                                        if (a7.length : Int) = (a7.length : Int) then
                                          some (decide ((a8.length : Int) = (a8.length : Int)))
                                        else
                                          some false
                                      else
                                        some false
                                    else
                                      some false
                                  else
                                    some false
                                else
                                  some false
                              else
                                some false
                            else
                              some false
                          else
                            some false
                        else
                          some false
                      else
                        some false
                    else
                      some false
                  else
                    some false
                else
                  if r9 = true then
                    (code_word.f k a2).bind fun r14 =>
                    if r14 = true then
                      (code_word.f k a3).bind fun r15 =>
                      if r15 = true then
                        (code_word.f k a4).bind fun r16 =>
                        if r16 = true then
                          if a1 = a1 then
                            if 0 = a2 then
                              if 0 = a3 then
                                if 0 = a4 then
                                  if 0 = a5 then
                                    if (([] : List Int).length : Int) = (a6.length : Int) then
                                      if (a7.length : Int) = (a7.length : Int) then
                                        some (decide ((([] : List api_Instr).length : Int) = (a8.length : Int)))
                                      else
                                        some false
                                    else
                                      some false
                                  else
                                    some false
                                else
                                  some false
                              else
                                some false
                            else
                              some false
                          else
                            some false
                        else
                          some false
                      else
                        some false
                    else
                      some false
                  else
                    some false
              else
                if a0 = (4 : Int) then
                  some false
                else
                  some false
            else
              if a0 = (4 : Int) then
                some false
              else
                some false
          else
            if r1 = (3 : Int) then
              (code_typ.f k a1).bind fun r17 =>
              if r17 = true then
                if a9 < (40 : Int) then
                  (r_.code_all_f a7 (IntKind.i64.wrap (a9 + (1 : Int)))).bind fun r18 =>
                  if a0 = (4 : Int) then
                    if r18 = true then
                      (r_.code_all_f a8 (IntKind.i64.wrap (a9 + (1 : Int)))).bind fun r19 =>
                      if r19 = true then
                        (code_word.f k a2).bind fun r20 =>
                        if r20 = true then
                          (code_word.f k a3).bind fun r21 =>
                          if r21 = true then
                            (code_word.f k a4).bind fun r22 =>
                            if r22 = true then
                              if a1 = a1 then
                                if 0 = a2 then
                                  if 0 = a3 then
                                    if 0 = a4 then
                                      if 0 = a5 then
                                        if (([] : List Int).length : Int) = (a6.length : Int) then
                                          if (a7.length : Int) = (a7.length : Int) then
                                            some (decide ((a8.length : Int) = (a8.length : Int)))
                                          else
                                            some false
                                        else
                                          some false
                                      else
                                        some false
                                    else
                                      some false
                                  else
                                    some false
                                else
                                  some false
                              else
                                some false
                            else
                              some false
                          else
                            some false
                        else
                          some false
                      else
                        some false
                    else
                      some false
                  else
                    if r18 = true then
                      (code_word.f k a2).bind fun r23 =>
                      if r23 = true then
                        (code_word.f k a3).bind fun r24 =>
                        if r24 = true then
                          (code_word.f k a4).bind fun r25 =>
                          if r25 = true then
                            if a1 = a1 then
                              if 0 = a2 then
                                if 0 = a3 then
                                  if 0 = a4 then
                                    if 0 = a5 then
                                      if (([] : List Int).length : Int) = (a6.length : Int) then
                                        if (a7.length : Int) = (a7.length : Int) then
                                          some (decide ((([] : List api_Instr).length : Int) = (a8.length : Int)))
                                        else
                                          some false
                                      else
                                        some false
                                    else
                                      some false
                                  else
                                    some false
                                else
                                  some false
                              else
                                some false
                            else
                              some false
                          else
                            some false
                        else
                          some false
                      else
                        some false
                    else
                      some false
                else
                  if a0 = (4 : Int) then
                    some false
                  else
                    some false
              else
                if a0 = (4 : Int) then
                  some false
                else
                  some false
            else
              if r1 = (4 : Int) then
                (code_word.f k a2).bind fun r26 =>
                if r26 = true then
                  (code_word.f k a3).bind fun r27 =>
                  if r27 = true then
                    (code_word.f k a4).bind fun r28 =>
                    if r28 = true then
                      if 0 = a1 then
                        if a2 = a2 then
                          if 0 = a3 then
                            if 0 = a4 then
                              if 0 = a5 then
                                if (([] : List Int).length : Int) = (a6.length : Int) then
                                  if (([] : List api_Instr).length : Int) = (a7.length : Int) then
                                    some (decide ((([] : List api_Instr).length : Int) = (a8.length : Int)))
                                  else
                                    some false
                                else
                                  some false
                              else
                                some false
                            else
                              some false
                          else
                            some false
                        else
                          some false
                      else
                        some false
                    else
                      some false
                  else
                    some false
                else
                  some false
              else
                if r1 = (6 : Int) then
                  (code_word.f k a2).bind fun r29 =>
                  if r29 = true then
                    (code_word.f k a3).bind fun r30 =>
                    if r30 = true then
                      (code_word.f k a4).bind fun r31 =>
                      if r31 = true then
                        if 0 = a1 then
                          if a2 = a2 then
                            if 0 = a3 then
                              if 0 = a4 then
                                if 0 = a5 then
                                  if (([] : List Int).length : Int) = (a6.length : Int) then
                                    if (([] : List api_Instr).length : Int) = (a7.length : Int) then
                                      some (decide ((([] : List api_Instr).length : Int) = (a8.length : Int)))
                                    else
                                      some false
                                  else
                                    some false
                                else
                                  some false
                              else
                                some false
                            else
                              some false
                          else
                            some false
                        else
                          some false
                      else
                        some false
                    else
                      some false
                  else
                    some false
                else
                  if r1 = (5 : Int) then
                    (slices_ContainsFunc_int_int_1.f k a6).bind fun r32 =>
                    if (!r32) = true then
                      (code_word.f k a2).bind fun r33 =>
                      if r33 = true then
                        (code_word.f k a3).bind fun r34 =>
                        if r34 = true then
                          (code_word.f k a4).bind fun r35 =>
                          if r35 = true then
                            if 0 = a1 then
                              if a2 = a2 then
                                if 0 = a3 then
                                  if 0 = a4 then
                                    if 0 = a5 then
                                      if (a6.length : Int) = (a6.length : Int) then
                                        if (([] : List api_Instr).length : Int) = (a7.length : Int) then
                                          some (decide ((([] : List api_Instr).length : Int) = (a8.length : Int)))
                                        else
                                          some false
                                      else
                                        some false
                                    else
                                      some false
                                  else
                                    some false
                                else
                                  some false
                              else
                                some false
                            else
                              some false
                          else
                            some false
                        else
                          some false
                      else
                        some false
                    else
                      some false
                  else
                    if r1 = (7 : Int) then
                      (code_word.f k a2).bind fun r36 =>
                      if r36 = true then
                        (code_word.f k a3).bind fun r37 =>
                        if r37 = true then
                          (code_word.f k a4).bind fun r38 =>
                          if r38 = true then
                            if 0 = a1 then
                              if 0 = a2 then
                                if a3 = a3 then
                                  if a4 = a4 then
                                    if 0 = a5 then
                                      if (([] : List Int).length : Int) = (a6.length : Int) then
                                        if (([] : List api_Instr).length : Int) = (a7.length : Int) then
                                          some (decide ((([] : List api_Instr).length : Int) = (a8.length : Int)))
                                        else
                                          some false
                                      else
                                        some false
                                    else
                                      some false
                                  else
                                    some false
                                else
                                  some false
                              else
                                some false
                            else
                              some false
                          else
                            some false
                        else
                          some false
                      else
                        some false
                    else
                      if r1 = (9 : Int) then
                        if a5 = (IntKind.i64.wrap (IntKind.i32.wrap a5)) then
                          (code_word.f k a2).bind fun r39 =>
                          if r39 = true then
                            (code_word.f k a3).bind fun r40 =>
                            if r40 = true then
                              (code_word.f k a4).bind fun r41 =>
                              if r41 = true then
                                if 0 = a1 then
                                  if 0 = a2 then
                                    if 0 = a3 then
                                      if 0 = a4 then
                                        if a5 = a5 then
                                          if (([] : List Int).length : Int) = (a6.length : Int) then
                                            if (([] : List api_Instr).length : Int) = (a7.length : Int) then
                                              some (decide ((([] : List api_Instr).length : Int) = (a8.length : Int)))
                                            else
                                              some false
                                          else
                                            some false
                                        else
                                          some false
                                      else
                                        some false
                                    else
                                      some false
                                  else
                                    some false
                                else
                                  some false
                              else
                                some false
                            else
                              some false
                          else
                            some false
                        else
                          some false
                      else
                        if r1 = (10 : Int) then
                          (code_word.f k a2).bind fun r42 =>
                          if r42 = true then
                            (code_word.f k a3).bind fun r43 =>
                            if r43 = true then
                              (code_word.f k a4).bind fun r44 =>
                              if r44 = true then
                                if 0 = a1 then
                                  if 0 = a2 then
                                    if 0 = a3 then
                                      if 0 = a4 then
                                        if a5 = a5 then
                                          if (([] : List Int).length : Int) = (a6.length : Int) then
                                            if (([] : List api_Instr).length : Int) = (a7.length : Int) then
                                              some (decide ((([] : List api_Instr).length : Int) = (a8.length : Int)))
                                            else
                                              some false
                                          else
                                            some false
                                        else
                                          some false
                                      else
                                        some false
                                    else
                                      some false
                                  else
                                    some false
                                else
                                  some false
                              else
                                some false
                            else
                              some false
                          else
                            some false
                        else
                          some false
  code_good_go := fun _ => none
  code_all_1_f := fun (a0 : Int) (a1 : Int) (a2 : Int) (a3 : Int) (a4 : Int) (a5 : Int) (a6 : List Int) (a7 : List api_Instr) (a8 : List api_Instr) (a9 : Int) =>
      (r_.code_good_f a0 a1 a2 a3 a4 a5 a6 a7 a8 a9).bind fun r45 =>
      some (!r45, a9)
  code_all_1_go := fun _ => none
  slices_IndexFunc_api_Instr_api_Instr_f := fun (a0 : List api_Instr) (a1 : Int) =>
      r_.slices_IndexFunc_api_Instr_api_Instr_go (.s2 a0 (a0.length : Int) (0 : Int) a1)
  slices_IndexFunc_api_Instr_api_Instr_go := fun l => match l with
      | .s2 x0 x1 x2 x3 =>
        if x2 < x1 then
          inB x2 x0.length <|
          (r_.code_all_1_f ((x0.getD x2.toNat z_api_Instr).Op) ((x0.getD x2.toNat z_api_Instr).Type_) ((x0.getD x2.toNat z_api_Instr).Index) ((x0.getD x2.toNat z_api_Instr).Align) ((x0.getD x2.toNat z_api_Instr).Offset) ((x0.getD x2.toNat z_api_Instr).Val) ((x0.getD x2.toNat z_api_Instr).Labels) ((x0.getD x2.toNat z_api_Instr).Body) ((x0.getD x2.toNat z_api_Instr).Else) x3).bind fun r46 =>
          if r46.1 = true then
            some (x2, r46.2)
          else
            r_.slices_IndexFunc_api_Instr_api_Instr_go (.s2 x0 x1 (IntKind.i64.wrap (x2 + (1 : Int))) r46.2)
        else
          some ((-1 : Int), x3)
  slices_ContainsFunc_api_Instr_api_Instr_f := fun (a0 : List api_Instr) (a1 : Int) =>
      (r_.slices_IndexFunc_api_Instr_api_Instr_f a0 a1).bind fun r47 =>
      some (decide (r47.1 ≥ (0 : Int)), r47.2)
  slices_ContainsFunc_api_Instr_api_Instr_go := fun _ => none
  code_all_f := fun (a0 : List api_Instr) (a1 : Int) =>
      (r_.slices_ContainsFunc_api_Instr_api_Instr_f a0 a1).bind fun r48 =>
      some (!r48.1)
  code_all_go := fun _ => none
def code_all.fns : Nat → code_all.Fns
  | 0 => ⟨fun _ _ _ _ _ _ _ _ _ _ => none, fun _ => none, fun _ _ _ _ _ _ _ _ _ _ => none, fun _ => none, fun _ _ => none, fun _ => none, fun _ _ => none, fun _ => none, fun _ _ => none, fun _ => none⟩
  | k + 1 => code_all.step k (code_all.fns k)
def code_good.f (k : Nat) (a0 : Int) (a1 : Int) (a2 : Int) (a3 : Int) (a4 : Int) (a5 : Int) (a6 : List Int) (a7 : List api_Instr) (a8 : List api_Instr) (a9 : Int) : Option code_good.R := (code_all.fns k).code_good_f a0 a1 a2 a3 a4 a5 a6 a7 a8 a9
def code_good.go (k : Nat) (l : code_good.L) : Option code_good.R := (code_all.fns k).code_good_go l
def code_all_1.f (k : Nat) (a0 : Int) (a1 : Int) (a2 : Int) (a3 : Int) (a4 : Int) (a5 : Int) (a6 : List Int) (a7 : List api_Instr) (a8 : List api_Instr) (a9 : Int) : Option code_all_1.R := (code_all.fns k).code_all_1_f a0 a1 a2 a3 a4 a5 a6 a7 a8 a9
def code_all_1.go (k : Nat) (l : code_all_1.L) : Option code_all_1.R := (code_all.fns k).code_all_1_go l
def slices_IndexFunc_api_Instr_api_Instr.f (k : Nat) (a0 : List api_Instr) (a1 : Int) : Option slices_IndexFunc_api_Instr_api_Instr.R := (code_all.fns k).slices_IndexFunc_api_Instr_api_Instr_f a0 a1
def slices_IndexFunc_api_Instr_api_Instr.go (k : Nat) (l : slices_IndexFunc_api_Instr_api_Instr.L) : Option slices_IndexFunc_api_Instr_api_Instr.R := (code_all.fns k).slices_IndexFunc_api_Instr_api_Instr_go l
def slices_ContainsFunc_api_Instr_api_Instr.f (k : Nat) (a0 : List api_Instr) (a1 : Int) : Option slices_ContainsFunc_api_Instr_api_Instr.R := (code_all.fns k).slices_ContainsFunc_api_Instr_api_Instr_f a0 a1
def slices_ContainsFunc_api_Instr_api_Instr.go (k : Nat) (l : slices_ContainsFunc_api_Instr_api_Instr.L) : Option slices_ContainsFunc_api_Instr_api_Instr.R := (code_all.fns k).slices_ContainsFunc_api_Instr_api_Instr_go l
def code_all.f (k : Nat) (a0 : List api_Instr) (a1 : Int) : Option code_all.R := (code_all.fns k).code_all_f a0 a1
def code_all.go (k : Nat) (l : code_all.L) : Option code_all.R := (code_all.fns k).code_all_go l
theorem slices_IndexFunc_api_Instr_api_Instr.go_s2 (k : Nat) (x0 : List api_Instr) (x1 : Int) (x2 : Int) (x3 : Int) : slices_IndexFunc_api_Instr_api_Instr.go (k + 1) (.s2 x0 x1 x2 x3) =
    if x2 < x1 then
      inB x2 x0.length <|
      (code_all_1.f k ((x0.getD x2.toNat z_api_Instr).Op) ((x0.getD x2.toNat z_api_Instr).Type_) ((x0.getD x2.toNat z_api_Instr).Index) ((x0.getD x2.toNat z_api_Instr).Align) ((x0.getD x2.toNat z_api_Instr).Offset) ((x0.getD x2.toNat z_api_Instr).Val) ((x0.getD x2.toNat z_api_Instr).Labels) ((x0.getD x2.toNat z_api_Instr).Body) ((x0.getD x2.toNat z_api_Instr).Else) x3).bind fun r1 =>
      if r1.1 = true then
        some (x2, r1.2)
      else
        slices_IndexFunc_api_Instr_api_Instr.go k (.s2 x0 x1 (IntKind.i64.wrap (x2 + (1 : Int))) r1.2)
    else
      some ((-1 : Int), x3) := rfl
abbrev code_Check.R : Type := Int
inductive code_Check.L where
def code_Check.go : Nat → code_Check.L → Option code_Check.R := fun _ _ => none
def code_Check.f (k : Nat) (a0 : List api_Instr) : Option code_Check.R :=
  (code_all.f k a0 (0 : Int)).bind fun r1 =>
  if r1 = true then
    some (0 : Int)
  else
    some (100 : Int)
abbrev body_Check_1.R : Type := Bool
inductive body_Check_1.L where
def body_Check_1.go : Nat → body_Check_1.L → Option body_Check_1.R := fun _ _ => none
def body_Check_1.f (k : Nat) (a0 : Int) (a1 : Bool) (a2 : Int) (a3 : Int) (a4 : Int) (a5 : Int) (a6 : Int) (a7 : Int) (a8 : List Int) (a9 : List api_Instr) (a10 : List api_Instr) : Option body_Check_1.R :=
  (body_typ.f k a0).bind fun r1 =>
  some (!r1)
abbrev slices_IndexFunc_api_Global_api_Global.R : Type := Int
inductive slices_IndexFunc_api_Global_api_Global.L where
  | s2 (x0 : List api_Global) (x1 : Int) (x2 : Int)
def slices_IndexFunc_api_Global_api_Global.go : Nat → slices_IndexFunc_api_Global_api_Global.L → Option slices_IndexFunc_api_Global_api_Global.R
  | 0, _ => none
  | k + 1, .s2 x0 x1 x2 =>
    if x2 < x1 then
      inB x2 x0.length <|
      (body_Check_1.f k ((x0.getD x2.toNat z_api_Global).Type_) ((x0.getD x2.toNat z_api_Global).Mut) (((x0.getD x2.toNat z_api_Global).Init).Op) (((x0.getD x2.toNat z_api_Global).Init).Type_) (((x0.getD x2.toNat z_api_Global).Init).Index) (((x0.getD x2.toNat z_api_Global).Init).Align) (((x0.getD x2.toNat z_api_Global).Init).Offset) (((x0.getD x2.toNat z_api_Global).Init).Val) (((x0.getD x2.toNat z_api_Global).Init).Labels) (((x0.getD x2.toNat z_api_Global).Init).Body) (((x0.getD x2.toNat z_api_Global).Init).Else)).bind fun r1 =>
      if r1 = true then
        some x2
      else
        slices_IndexFunc_api_Global_api_Global.go k (.s2 x0 x1 (IntKind.i64.wrap (x2 + (1 : Int))))
    else
      some (-1 : Int)
def slices_IndexFunc_api_Global_api_Global.f (k : Nat) (a0 : List api_Global) : Option slices_IndexFunc_api_Global_api_Global.R :=
  slices_IndexFunc_api_Global_api_Global.go k (.s2 a0 (a0.length : Int) (0 : Int))
abbrev slices_ContainsFunc_api_Global_api_Global.R : Type := Bool
inductive slices_ContainsFunc_api_Global_api_Global.L where
def slices_ContainsFunc_api_Global_api_Global.go : Nat → slices_ContainsFunc_api_Global_api_Global.L → Option slices_ContainsFunc_api_Global_api_Global.R := fun _ _ => none
def slices_ContainsFunc_api_Global_api_Global.f (k : Nat) (a0 : List api_Global) : Option slices_ContainsFunc_api_Global_api_Global.R :=
  (slices_IndexFunc_api_Global_api_Global.f k a0).bind fun r1 =>
  some (decide (r1 ≥ (0 : Int)))
inductive slices_Grow_int_int.R where
  | r0 (a0 : List Int)
  | r1
inductive slices_Grow_int_int.L where
def slices_Grow_int_int.go : Nat → slices_Grow_int_int.L → Option slices_Grow_int_int.R := fun _ _ => none
def slices_Grow_int_int.f (k : Nat) (a0 : Int) : Option slices_Grow_int_int.R :=
  if a0 < (0 : Int) then
    none
  else
    if (IntKind.i64.wrap (a0 - (IntKind.i64.wrap ((0 : Int) - (0 : Int))))) > (0 : Int) then
      if (0 : Int) = 0 then
      if 0 ≤ (IntKind.i64.wrap (a0 - (IntKind.i64.wrap ((0 : Int) - (0 : Int))))) then
      if (([] : List Int).length : Int) + (IntKind.i64.wrap (a0 - (IntKind.i64.wrap ((0 : Int) - (0 : Int))))) ≤ (17592186044416 : Int) then
      if 0 ≤ (0 : Int) then
      if (0 : Int) ≤ ((List.replicate (IntKind.i64.wrap (a0 - (IntKind.i64.wrap ((0 : Int) - (0 : Int))))).toNat (0 : Int)).length : Int) then
      some (.r0 ((List.replicate (IntKind.i64.wrap (a0 - (IntKind.i64.wrap ((0 : Int) - (0 : Int))))).toNat (0 : Int)).take (0 : Int).toNat))
      else none
      else none
      else none
      else none
      else none
    else
      some (.r1)
abbrev slices_Concat_int_int.R : Type := List Int
inductive slices_Concat_int_int.L where
  | s3 (x0 : List (List Int)) (x1 : Int) (x2 : List (List Int)) (x3 : Int) (x4 : Int)
  | s11 (x0 : List (List Int)) (x1 : Int) (x2 : Int) (x3 : List Int)
def slices_Concat_int_int.go : Nat → slices_Concat_int_int.L → Option slices_Concat_int_int.R
  | 0, _ => none
  | k + 1, .s3 x0 x1 x2 x3 x4 =>
    if x4 < x3 then
      inB x4 x2.length <|
      if (IntKind.i64.wrap (x1 + ((x2.getD x4.toNat ([] : List Int)).length : Int))) < (0 : Int) then
        none
      else
        slices_Concat_int_int.go k (.s3 x0 (IntKind.i64.wrap (x1 + ((x2.getD x4.toNat ([] : List Int)).length : Int))) x2 x3 (IntKind.i64.wrap (x4 + (1 : Int))))
    else
      (slices_Grow_int_int.f k x1).bind fun r => match r with
      | .r0 r1_0 =>
        slices_Concat_int_int.go k (.s11 x0 (x0.length : Int) (0 : Int) r1_0)
      | .r1 =>
        slices_Concat_int_int.go k (.s11 x0 (x0.length : Int) (0 : Int) [])
  | k + 1, .s11 x0 x1 x2 x3 =>
    if x2 < x1 then
      inB x2 x0.length <|
      if x3.length + (x0.getD x2.toNat ([] : List Int)).length ≤ 17592186044416 then
      slices_Concat_int_int.go k (.s11 x0 x1 (IntKind.i64.wrap (x2 + (1 : Int))) (x3 ++ (x0.getD x2.toNat ([] : List Int))))
      else none
    else
      some x3
def slices_Concat_int_int.f (k : Nat) (a0 : List (List Int)) : Option slices_Concat_int_int.R :=
  slices_Concat_int_int.go k (.s3 a0 (0 : Int) a0 (a0.length : Int) (0 : Int))
inductive body_kind.R where
  | r0
  | r1
  | r2
  | r3
  | r4
  | r5
  | r6
  | r7
inductive body_kind.L where
def body_kind.go : Nat → body_kind.L → Option body_kind.R := fun _ _ => none
def body_kind.f (k : Nat) (a0 : Int) : Option body_kind.R :=
  if a0 = (1 : Int) then
    some (.r0)
  else
    if a0 ≥ (2 : Int) then
      if a0 ≤ (4 : Int) then
        some (.r1)
      else
        if a0 ≤ (15 : Int) then
          some (.r2)
        else
          if a0 ≤ (17 : Int) then
            some (.r3)
          else
            if a0 ≤ (27 : Int) then
              some (.r4)
            else
              if a0 ≤ (36 : Int) then
                some (.r5)
              else
                if a0 ≤ (64 : Int) then
                  some (.r6)
                else
                  some (.r7)
    else
      if a0 ≤ (15 : Int) then
        some (.r2)
      else
        if a0 ≤ (17 : Int) then
          some (.r3)
        else
          if a0 ≤ (27 : Int) then
            some (.r4)
          else
            if a0 ≤ (36 : Int) then
              some (.r5)
            else
              if a0 ≤ (64 : Int) then
                some (.r6)
              else
                some (.r7)
structure body_kind_1.R where
  a0 : List api_FuncType
  a1 : List api_FuncType
  a2 : List api_Global
  a3 : Bool
  a4 : Bool
  a5 : Bool
  a6 : List Int
  a7 : List Int
  a8 : List body_frame
inductive body_kind_1.L where
def body_kind_1.go : Nat → body_kind_1.L → Option body_kind_1.R := fun _ _ => none
def body_kind_1.f (k : Nat) (a0 : Int) (a1 : Int) (a2 : Int) (a3 : Int) (a4 : Int) (a5 : Int) (a6 : List Int) (a7 : List api_Instr) (a8 : List api_Instr) (a9 : List api_FuncType) (a10 : List api_FuncType) (a11 : List api_Global) (a12 : Bool) (a13 : Bool) (a14 : Bool) (a15 : List Int) (a16 : List Int) (a17 : List body_frame) : Option body_kind_1.R :=
  some ⟨a9, a10, a11, a12, a13, a14, a15, a16, a17⟩
abbrev body_results.R : Type := List Int
inductive body_results.L where
def body_results.go : Nat → body_results.L → Option body_results.R := fun _ _ => none
def body_results.f (k : Nat) (a0 : Int) : Option body_results.R :=
  if a0 = (64 : Int) then
    some []
  else
    some [a0]
structure body_checker_put.R where
  a0 : List api_FuncType
  a1 : List api_FuncType
  a2 : List api_Global
  a3 : Bool
  a4 : Bool
  a5 : Bool
  a6 : List Int
  a7 : List body_frame
  a8 : List Int
inductive body_checker_put.L where
def body_checker_put.go : Nat → body_checker_put.L → Option body_checker_put.R := fun _ _ => none
def body_checker_put.f (k : Nat) (a0 : List Int) (a1 : List api_FuncType) (a2 : List api_FuncType) (a3 : List api_Global) (a4 : Bool) (a5 : Bool) (a6 : Bool) (a7 : List Int) (a8 : List Int) (a9 : List body_frame) : Option body_checker_put.R :=
  if a8.length + a0.length ≤ 17592186044416 then
  some ⟨a1, a2, a3, a4, a5, a6, a7, a9, a8 ++ a0⟩
  else none
structure body_checker_top.R where
  a0 : Nat
  a1 : List api_FuncType
  a2 : List api_FuncType
  a3 : List api_Global
  a4 : Bool
  a5 : Bool
  a6 : Bool
  a7 : List Int
  a8 : List Int
  a9 : List body_frame
inductive body_checker_top.L where
def body_checker_top.go : Nat → body_checker_top.L → Option body_checker_top.R := fun _ _ => none
def body_checker_top.f (k : Nat) (a0 : List api_FuncType) (a1 : List api_FuncType) (a2 : List api_Global) (a3 : Bool) (a4 : Bool) (a5 : Bool) (a6 : List Int) (a7 : List Int) (a8 : List body_frame) : Option body_checker_top.R :=
  inB (IntKind.i64.wrap ((a8.length : Int) - (1 : Int))) a8.length <|
  some ⟨(IntKind.i64.wrap ((a8.length : Int) - (1 : Int))).toNat, a0, a1, a2, a3, a4, a5, a6, a7, a8⟩
structure body_checker_must.R where
  a0 : List api_FuncType
  a1 : List api_FuncType
  a2 : List api_Global
  a3 : Bool
  a4 : Bool
  a5 : Bool
  a6 : List Int
  a7 : List Int
  a8 : List body_frame
inductive body_checker_must.L where
def body_checker_must.go : Nat → body_checker_must.L → Option body_checker_must.R := fun _ _ => none
def body_checker_must.f (k : Nat) (a0 : Bool) (a1 : List api_FuncType) (a2 : List api_FuncType) (a3 : List api_Global) (a4 : Bool) (a5 : Bool) (a6 : Bool) (a7 : List Int) (a8 : List Int) (a9 : List body_frame) : Option body_checker_must.R :=
  if a6 = true then
    some ⟨a1, a2, a3, a4, a5, true, a7, a8, a9⟩
  else
    some ⟨a1, a2, a3, a4, a5, !a0, a7, a8, a9⟩
structure body_checker_any.R where
  a0 : Int
  a1 : List api_FuncType
  a2 : List api_FuncType
  a3 : List api_Global
  a4 : Bool
  a5 : Bool
  a6 : Bool
  a7 : List Int
  a8 : List body_frame
  a9 : List Int
inductive body_checker_any.L where
def body_checker_any.go : Nat → body_checker_any.L → Option body_checker_any.R := fun _ _ => none
def body_checker_any.f (k : Nat) (a0 : List api_FuncType) (a1 : List api_FuncType) (a2 : List api_Global) (a3 : Bool) (a4 : Bool) (a5 : Bool) (a6 : List Int) (a7 : List Int) (a8 : List body_frame) : Option body_checker_any.R :=
  (body_checker_top.f k a0 a1 a2 a3 a4 a5 a6 a7 a8).bind fun r1 =>
  if (a7.length : Int) > ((r1.a9.getD r1.a0 z_body_frame).high_) then
    inB (IntKind.i64.wrap ((a7.length : Int) - (1 : Int))) r1.a8.length <|
    if 0 ≤ (IntKind.i64.wrap ((a7.length : Int) - (1 : Int))) then
    if (IntKind.i64.wrap ((a7.length : Int) - (1 : Int))) ≤ (r1.a8.length : Int) then
    some ⟨r1.a8.getD ((IntKind.i64.wrap ((a7.length : Int) - (1 : Int))).toNat) (0 : Int), r1.a1, r1.a2, r1.a3, r1.a4, r1.a5, r1.a6, r1.a7, r1.a9, r1.a8.take (IntKind.i64.wrap ((a7.length : Int) - (1 : Int))).toNat⟩
    else none
    else none
  else
    (body_checker_top.f k r1.a1 r1.a2 r1.a3 r1.a4 r1.a5 r1.a6 r1.a7 r1.a8 r1.a9).bind fun r2 =>
    (body_checker_must.f k ((r2.a9.getD r2.a0 z_body_frame).dead_) r2.a1 r2.a2 r2.a3 r2.a4 r2.a5 r2.a6 r2.a7 r2.a8 r2.a9).bind fun r3 =>
    some ⟨(-1 : Int), r3.a0, r3.a1, r3.a2, r3.a3, r3.a4, r3.a5, r3.a6, r3.a8, r3.a7⟩
structure body_checker_take.R where
  a0 : List api_FuncType
  a1 : List api_FuncType
  a2 : List api_Global
  a3 : Bool
  a4 : Bool
  a5 : Bool
  a6 : List Int
  a7 : List body_frame
  a8 : List Int
inductive body_checker_take.L where
def body_checker_take.go : Nat → body_checker_take.L → Option body_checker_take.R := fun _ _ => none
def body_checker_take.f (k : Nat) (a0 : Int) (a1 : List api_FuncType) (a2 : List api_FuncType) (a3 : List api_Global) (a4 : Bool) (a5 : Bool) (a6 : Bool) (a7 : List Int) (a8 : List Int) (a9 : List body_frame) : Option body_checker_take.R :=
  (body_checker_any.f k a1 a2 a3 a4 a5 a6 a7 a8 a9).bind fun r1 =>
  if a0 = r1.a0 then
    (body_checker_must.f k true r1.a1 r1.a2 r1.a3 r1.a4 r1.a5 r1.a6 r1.a7 r1.a9 r1.a8).bind fun r2 =>
    some ⟨r2.a0, r2.a1, r2.a2, r2.a3, r2.a4, r2.a5, r2.a6, r2.a8, r2.a7⟩
  else
    if a0 = (-1 : Int) then
      (body_checker_must.f k true r1.a1 r1.a2 r1.a3 r1.a4 r1.a5 r1.a6 r1.a7 r1.a9 r1.a8).bind fun r3 =>
      some ⟨r3.a0, r3.a1, r3.a2, r3.a3, r3.a4, r3.a5, r3.a6, r3.a8, r3.a7⟩
    else
      (body_checker_must.f k (decide (r1.a0 = (-1 : Int))) r1.a1 r1.a2 r1.a3 r1.a4 r1.a5 r1.a6 r1.a7 r1.a9 r1.a8).bind fun r4 =>
      some ⟨r4.a0, r4.a1, r4.a2, r4.a3, r4.a4, r4.a5, r4.a6, r4.a8, r4.a7⟩
structure body_checker_kill.R where
  a0 : List api_FuncType
  a1 : List api_FuncType
  a2 : List api_Global
  a3 : Bool
  a4 : Bool
  a5 : Bool
  a6 : List Int
  a7 : List body_frame
  a8 : List Int
inductive body_checker_kill.L where
def body_checker_kill.go : Nat → body_checker_kill.L → Option body_checker_kill.R := fun _ _ => none
def body_checker_kill.f (k : Nat) (a0 : List api_FuncType) (a1 : List api_FuncType) (a2 : List api_Global) (a3 : Bool) (a4 : Bool) (a5 : Bool) (a6 : List Int) (a7 : List Int) (a8 : List body_frame) : Option body_checker_kill.R :=
  (body_checker_top.f k a0 a1 a2 a3 a4 a5 a6 a7 a8).bind fun r1 =>
  if 0 ≤ ((r1.a9.getD r1.a0 z_body_frame).high_) then
  if ((r1.a9.getD r1.a0 z_body_frame).high_) ≤ (r1.a8.length : Int) then
  some ⟨r1.a1, r1.a2, r1.a3, r1.a4, r1.a5, r1.a6, r1.a7, r1.a9.set r1.a0 (⟨(r1.a9.getD r1.a0 z_body_frame).label_, (r1.a9.getD r1.a0 z_body_frame).result_, (r1.a9.getD r1.a0 z_body_frame).high_, true⟩ : body_frame), r1.a8.take ((r1.a9.getD r1.a0 z_body_frame).high_).toNat⟩
  else none
  else none
inductive body_checker_label.R where
  | r0 (a0 : List api_FuncType) (a1 : List api_FuncType) (a2 : List api_Global) (a3 : Bool) (a4 : Bool) (a5 : Bool) (a6 : List Int) (a7 : List Int) (a8 : List body_frame) (a9 : List Int)
  | r1 (a0 : List Int) (a1 : List api_FuncType) (a2 : List api_FuncType) (a3 : List api_Global) (a4 : Bool) (a5 : Bool) (a6 : Bool) (a7 : List Int) (a8 : List Int) (a9 : List body_frame)
inductive body_checker_label.L where
def body_checker_label.go : Nat → body_checker_label.L → Option body_checker_label.R := fun _ _ => none
def body_checker_label.f (k : Nat) (a0 : Int) (a1 : List api_FuncType) (a2 : List api_FuncType) (a3 : List api_Global) (a4 : Bool) (a5 : Bool) (a6 : Bool) (a7 : List Int) (a8 : List Int) (a9 : List body_frame) : Option body_checker_label.R :=
  if a0 ≥ (a9.length : Int) then
    some (.r0 a1 a2 a3 a4 a5 true a7 a8 a9 [])
  else
    inB (IntKind.i64.wrap ((IntKind.i64.wrap ((a9.length : Int) - (1 : Int))) - a0)) a9.length <|
    some (.r1 ((a9.getD ((IntKind.i64.wrap ((IntKind.i64.wrap ((a9.length : Int) - (1 : Int))) - a0)).toNat) z_body_frame).label_) a1 a2 a3 a4 a5 a6 a7 a8 a9)
structure body_checker_takes.R where
  a0 : List api_FuncType
  a1 : List api_FuncType
  a2 : List api_Global
  a3 : Bool
  a4 : Bool
  a5 : Bool
  a6 : List Int
  a7 : List body_frame
  a8 : List Int
inductive body_checker_takes.L where
  | s1 (x0 : List Int) (x1 : Int) (x2 : List api_FuncType) (x3 : List api_FuncType) (x4 : List api_Global) (x5 : Bool) (x6 : Bool) (x7 : Bool) (x8 : List Int) (x9 : List body_frame) (x10 : List Int)
def body_checker_takes.go : Nat → body_checker_takes.L → Option body_checker_takes.R
  | 0, _ => none
  | k + 1, .s1 x0 x1 x2 x3 x4 x5 x6 x7 x8 x9 x10 =>
    if x1 ≥ (0 : Int) then
      inB x1 x0.length <|
      (body_checker_take.f k (x0.getD x1.toNat (0 : Int)) x2 x3 x4 x5 x6 x7 x8 x10 x9).bind fun r1 =>
      body_checker_takes.go k (.s1 x0 (IntKind.i64.wrap (x1 - (1 : Int))) r1.a0 r1.a1 r1.a2 r1.a3 r1.a4 r1.a5 r1.a6 r1.a7 r1.a8)
    else
      some ⟨x2, x3, x4, x5, x6, x7, x8, x9, x10⟩
def body_checker_takes.f (k : Nat) (a0 : List Int) (a1 : List api_FuncType) (a2 : List api_FuncType) (a3 : List api_Global) (a4 : Bool) (a5 : Bool) (a6 : Bool) (a7 : List Int) (a8 : List Int) (a9 : List body_frame) : Option body_checker_takes.R :=
  body_checker_takes.go k (.s1 a0 (IntKind.i64.wrap ((a0.length : Int) - (1 : Int))) a1 a2 a3 a4 a5 a6 a7 a9 a8)
abbrev slices_Equal_int_int.R : Type := Bool
inductive slices_Equal_int_int.L where
  | s4 (x0 : List Int) (x1 : List Int) (x2 : Int) (x3 : Int)
def slices_Equal_int_int.go : Nat → slices_Equal_int_int.L → Option slices_Equal_int_int.R
  | 0, _ => none
  | k + 1, .s4 x0 x1 x2 x3 =>
    if x3 < x2 then
      inB x3 x0.length <|
      inB x3 x1.length <|
      if ¬ (x0.getD x3.toNat (0 : Int)) = (x1.getD x3.toNat (0 : Int)) then
        some false
      else
        slices_Equal_int_int.go k (.s4 x0 x1 x2 (IntKind.i64.wrap (x3 + (1 : Int))))
    else
      some true
def slices_Equal_int_int.f (k : Nat) (a0 : List Int) (a1 : List Int) : Option slices_Equal_int_int.R :=
  if ¬ (a0.length : Int) = (a1.length : Int) then
    some false
  else
    slices_Equal_int_int.go k (.s4 a0 a1 (a0.length : Int) (0 : Int))
structure body_checker_branches.R where
  a0 : List api_FuncType
  a1 : List api_FuncType
  a2 : List api_Global
  a3 : Bool
  a4 : Bool
  a5 : Bool
  a6 : List Int
  a7 : List body_frame
  a8 : List Int
inductive body_checker_branches.L where
  | s15 (x0 : List Int) (x1 : Int) (x2 : Int) (x3 : List api_FuncType) (x4 : List api_FuncType) (x5 : List api_Global) (x6 : Bool) (x7 : Bool) (x8 : Bool) (x9 : List Int) (x10 : List body_frame) (x11 : List Int) (x12 : List Int)
  | s15_1 (x0 : List Int) (x1 : List Int) (x2 : Int) (x3 : Int) (x4 : List api_FuncType) (x5 : List api_FuncType) (x6 : List api_Global) (x7 : Bool) (x8 : Bool) (x9 : Bool) (x10 : List Int) (x11 : List body_frame) (x12 : List Int)
def body_checker_branches.go : Nat → body_checker_branches.L → Option body_checker_branches.R
  | 0, _ => none
  | k + 1, .s15 x0 x1 x2 x3 x4 x5 x6 x7 x8 x9 x10 x11 x12 =>
    if x2 < x1 then
      inB x2 x0.length <|
      (body_checker_label.f k (x0.getD x2.toNat (0 : Int)) x3 x4 x5 x6 x7 x8 x9 x11 x10).bind fun r => match r with
      | .r0 r1_0 r1_1 r1_2 r1_3 r1_4 r1_5 r1_6 r1_7 r1_8 r1_9 =>
        (slices_Equal_int_int.f k r1_9 x12).bind fun r2 =>
        (body_checker_must.f k r2 r1_0 r1_1 r1_2 r1_3 r1_4 r1_5 r1_6 r1_7 r1_8).bind fun r3 =>
        body_checker_branches.go k (.s15 x0 x1 (IntKind.i64.wrap (x2 + (1 : Int))) r3.a0 r3.a1 r3.a2 r3.a3 r3.a4 r3.a5 r3.a6 r3.a8 r3.a7 x12)
      | .r1 r4_0 r4_1 r4_2 r4_3 r4_4 r4_5 r4_6 r4_7 r4_8 r4_9 =>
        (slices_Equal_int_int.f k r4_0 x12).bind fun r5 =>
        (body_checker_must.f k r5 r4_1 r4_2 r4_3 r4_4 r4_5 r4_6 r4_7 r4_8 r4_9).bind fun r6 =>
        body_checker_branches.go k (.s15 x0 x1 (IntKind.i64.wrap (x2 + (1 : Int))) r6.a0 r6.a1 r6.a2 r6.a3 r6.a4 r6.a5 r6.a6 r6.a8 r6.a7 x12)
    else
      (body_checker_takes.f k x12 x3 x4 x5 x6 x7 x8 x9 x11 x10).bind fun r7 =>
      (body_checker_kill.f k r7.a0 r7.a1 r7.a2 r7.a3 r7.a4 r7.a5 r7.a6 r7.a8 r7.a7).bind fun r8 =>
      some ⟨r8.a0, r8.a1, r8.a2, r8.a3, r8.a4, r8.a5, r8.a6, r8.a7, r8.a8⟩
  | k + 1, .s15_1 x0 x1 x2 x3 x4 x5 x6 x7 x8 x9 x10 x11 x12 =>
    if x3 < x2 then
      inB x3 x1.length <|
      (body_checker_label.f k (x1.getD x3.toNat (0 : Int)) x4 x5 x6 x7 x8 x9 x10 x12 x11).bind fun r => match r with
      | .r0 r9_0 r9_1 r9_2 r9_3 r9_4 r9_5 r9_6 r9_7 r9_8 r9_9 =>
        (slices_Equal_int_int.f k r9_9 x0).bind fun r10 =>
        (body_checker_must.f k r10 r9_0 r9_1 r9_2 r9_3 r9_4 r9_5 r9_6 r9_7 r9_8).bind fun r11 =>
        body_checker_branches.go k (.s15_1 x0 x1 x2 (IntKind.i64.wrap (x3 + (1 : Int))) r11.a0 r11.a1 r11.a2 r11.a3 r11.a4 r11.a5 r11.a6 r11.a8 r11.a7)
      | .r1 r12_0 r12_1 r12_2 r12_3 r12_4 r12_5 r12_6 r12_7 r12_8 r12_9 =>
        (slices_Equal_int_int.f k r12_0 x0).bind fun r13 =>
        (body_checker_must.f k r13 r12_1 r12_2 r12_3 r12_4 r12_5 r12_6 r12_7 r12_8 r12_9).bind fun r14 =>
        body_checker_branches.go k (.s15_1 x0 x1 x2 (IntKind.i64.wrap (x3 + (1 : Int))) r14.a0 r14.a1 r14.a2 r14.a3 r14.a4 r14.a5 r14.a6 r14.a8 r14.a7)
    else
      (body_checker_takes.f k x0 x4 x5 x6 x7 x8 x9 x10 x12 x11).bind fun r15 =>
      (body_checker_kill.f k r15.a0 r15.a1 r15.a2 r15.a3 r15.a4 r15.a5 r15.a6 r15.a8 r15.a7).bind fun r16 =>
      some ⟨r16.a0, r16.a1, r16.a2, r16.a3, r16.a4, r16.a5, r16.a6, r16.a7, r16.a8⟩
def body_checker_branches.f (k : Nat) (a0 : Int) (a1 : Int) (a2 : Int) (a3 : Int) (a4 : Int) (a5 : Int) (a6 : List Int) (a7 : List api_Instr) (a8 : List api_Instr) (a9 : List api_FuncType) (a10 : List api_FuncType) (a11 : List api_Global) (a12 : Bool) (a13 : Bool) (a14 : Bool) (a15 : List Int) (a16 : List Int) (a17 : List body_frame) : Option body_checker_branches.R :=
  if a0 = (0 : Int) then
    (body_checker_kill.f k a9 a10 a11 a12 a13 a14 a15 a16 a17).bind fun r1 =>
    some ⟨r1.a0, r1.a1, r1.a2, r1.a3, r1.a4, r1.a5, r1.a6, r1.a7, r1.a8⟩
  else
    if a0 = (12 : Int) then
      (body_checker_label.f k a2 a9 a10 a11 a12 a13 a14 a15 a16 a17).bind fun r => match r with
      | .r0 r2_0 r2_1 r2_2 r2_3 r2_4 r2_5 r2_6 r2_7 r2_8 r2_9 =>
        (body_checker_takes.f k r2_9 r2_0 r2_1 r2_2 r2_3 r2_4 r2_5 r2_6 r2_7 r2_8).bind fun r3 =>
        (body_checker_kill.f k r3.a0 r3.a1 r3.a2 r3.a3 r3.a4 r3.a5 r3.a6 r3.a8 r3.a7).bind fun r4 =>
        some ⟨r4.a0, r4.a1, r4.a2, r4.a3, r4.a4, r4.a5, r4.a6, r4.a7, r4.a8⟩
      | .r1 r5_0 r5_1 r5_2 r5_3 r5_4 r5_5 r5_6 r5_7 r5_8 r5_9 =>
        (body_checker_takes.f k r5_0 r5_1 r5_2 r5_3 r5_4 r5_5 r5_6 r5_7 r5_8 r5_9).bind fun r6 =>
        (body_checker_kill.f k r6.a0 r6.a1 r6.a2 r6.a3 r6.a4 r6.a5 r6.a6 r6.a8 r6.a7).bind fun r7 =>
        some ⟨r7.a0, r7.a1, r7.a2, r7.a3, r7.a4, r7.a5, r7.a6, r7.a7, r7.a8⟩
    else
      if a0 = (13 : Int) then
        (body_checker_take.f k (127 : Int) a9 a10 a11 a12 a13 a14 a15 a16 a17).bind fun r8 =>
        (body_checker_label.f k a2 r8.a0 r8.a1 r8.a2 r8.a3 r8.a4 r8.a5 r8.a6 r8.a8 r8.a7).bind fun r => match r with
        | .r0 r9_0 r9_1 r9_2 r9_3 r9_4 r9_5 r9_6 r9_7 r9_8 r9_9 =>
          (body_checker_takes.f k r9_9 r9_0 r9_1 r9_2 r9_3 r9_4 r9_5 r9_6 r9_7 r9_8).bind fun r10 =>
          (body_checker_put.f k r9_9 r10.a0 r10.a1 r10.a2 r10.a3 r10.a4 r10.a5 r10.a6 r10.a8 r10.a7).bind fun r11 =>
          some ⟨r11.a0, r11.a1, r11.a2, r11.a3, r11.a4, r11.a5, r11.a6, r11.a7, r11.a8⟩
        | .r1 r12_0 r12_1 r12_2 r12_3 r12_4 r12_5 r12_6 r12_7 r12_8 r12_9 =>
          (body_checker_takes.f k r12_0 r12_1 r12_2 r12_3 r12_4 r12_5 r12_6 r12_7 r12_8 r12_9).bind fun r13 =>
          (body_checker_put.f k r12_0 r13.a0 r13.a1 r13.a2 r13.a3 r13.a4 r13.a5 r13.a6 r13.a8 r13.a7).bind fun r14 =>
          some ⟨r14.a0, r14.a1, r14.a2, r14.a3, r14.a4, r14.a5, r14.a6, r14.a7, r14.a8⟩
      else
        if a0 = (14 : Int) then
          (body_checker_take.f k (127 : Int) a9 a10 a11 a12 a13 a14 a15 a16 a17).bind fun r15 =>
          (body_checker_label.f k a2 r15.a0 r15.a1 r15.a2 r15.a3 r15.a4 r15.a5 r15.a6 r15.a8 r15.a7).bind fun r => match r with
          | .r0 r16_0 r16_1 r16_2 r16_3 r16_4 r16_5 r16_6 r16_7 r16_8 r16_9 =>
            body_checker_branches.go k (.s15 a6 (a6.length : Int) (0 : Int) r16_0 r16_1 r16_2 r16_3 r16_4 r16_5 r16_6 r16_8 r16_7 r16_9)
          | .r1 r17_0 r17_1 r17_2 r17_3 r17_4 r17_5 r17_6 r17_7 r17_8 r17_9 =>
            body_checker_branches.go k (.s15_1 r17_0 a6 (a6.length : Int) (0 : Int) r17_1 r17_2 r17_3 r17_4 r17_5 r17_6 r17_7 r17_9 r17_8)
        else
          inB (0 : Int) a17.length <|
          (body_checker_takes.f k ((a17.getD ((0 : Int).toNat) z_body_frame).result_) a9 a10 a11 a12 a13 a14 a15 a16 a17).bind fun r18 =>
          (body_checker_kill.f k r18.a0 r18.a1 r18.a2 r18.a3 r18.a4 r18.a5 r18.a6 r18.a8 r18.a7).bind fun r19 =>
          some ⟨r19.a0, r19.a1, r19.a2, r19.a3, r19.a4, r19.a5, r19.a6, r19.a7, r19.a8⟩
structure body_checker_calls.R where
  a0 : List api_FuncType
  a1 : List api_FuncType
  a2 : List api_Global
  a3 : Bool
  a4 : Bool
  a5 : Bool
  a6 : List Int
  a7 : List body_frame
  a8 : List Int
inductive body_checker_calls.L where
def body_checker_calls.go : Nat → body_checker_calls.L → Option body_checker_calls.R := fun _ _ => none
def body_checker_calls.f (k : Nat) (a0 : Int) (a1 : Int) (a2 : Int) (a3 : Int) (a4 : Int) (a5 : Int) (a6 : List Int) (a7 : List api_Instr) (a8 : List api_Instr) (a9 : List api_FuncType) (a10 : List api_FuncType) (a11 : List api_Global) (a12 : Bool) (a13 : Bool) (a14 : Bool) (a15 : List Int) (a16 : List Int) (a17 : List body_frame) : Option body_checker_calls.R :=
  if a0 = (17 : Int) then
    (body_checker_must.f k a12 a9 a10 a11 a12 a13 a14 a15 a16 a17).bind fun r1 =>
    (body_checker_take.f k (127 : Int) r1.a0 r1.a1 r1.a2 r1.a3 r1.a4 r1.a5 r1.a6 r1.a7 r1.a8).bind fun r2 =>
    if a2 ≥ (a10.length : Int) then
      some ⟨r2.a0, r2.a1, r2.a2, r2.a3, r2.a4, true, r2.a6, r2.a7, r2.a8⟩
    else
      inB a2 a10.length <|
      (body_checker_takes.f k ((a10.getD a2.toNat z_api_FuncType).Params) r2.a0 r2.a1 r2.a2 r2.a3 r2.a4 r2.a5 r2.a6 r2.a8 r2.a7).bind fun r3 =>
      inB a2 a10.length <|
      (body_checker_put.f k ((a10.getD a2.toNat z_api_FuncType).Results) r3.a0 r3.a1 r3.a2 r3.a3 r3.a4 r3.a5 r3.a6 r3.a8 r3.a7).bind fun r4 =>
      some ⟨r4.a0, r4.a1, r4.a2, r4.a3, r4.a4, r4.a5, r4.a6, r4.a7, r4.a8⟩
  else
    if a2 ≥ (a9.length : Int) then
      some ⟨a9, a10, a11, a12, a13, true, a15, a17, a16⟩
    else
      inB a2 a9.length <|
      (body_checker_takes.f k ((a9.getD a2.toNat z_api_FuncType).Params) a9 a10 a11 a12 a13 a14 a15 a16 a17).bind fun r5 =>
      inB a2 a9.length <|
      (body_checker_put.f k ((a9.getD a2.toNat z_api_FuncType).Results) r5.a0 r5.a1 r5.a2 r5.a3 r5.a4 r5.a5 r5.a6 r5.a8 r5.a7).bind fun r6 =>
      some ⟨r6.a0, r6.a1, r6.a2, r6.a3, r6.a4, r6.a5, r6.a6, r6.a7, r6.a8⟩
structure body_checker_picks.R where
  a0 : List api_FuncType
  a1 : List api_FuncType
  a2 : List api_Global
  a3 : Bool
  a4 : Bool
  a5 : Bool
  a6 : List Int
  a7 : List body_frame
  a8 : List Int
inductive body_checker_picks.L where
def body_checker_picks.go : Nat → body_checker_picks.L → Option body_checker_picks.R := fun _ _ => none
def body_checker_picks.f (k : Nat) (a0 : Int) (a1 : Int) (a2 : Int) (a3 : Int) (a4 : Int) (a5 : Int) (a6 : List Int) (a7 : List api_Instr) (a8 : List api_Instr) (a9 : List api_FuncType) (a10 : List api_FuncType) (a11 : List api_Global) (a12 : Bool) (a13 : Bool) (a14 : Bool) (a15 : List Int) (a16 : List Int) (a17 : List body_frame) : Option body_checker_picks.R :=
  if a0 = (26 : Int) then
    (body_checker_any.f k a9 a10 a11 a12 a13 a14 a15 a16 a17).bind fun r1 =>
    some ⟨r1.a1, r1.a2, r1.a3, r1.a4, r1.a5, r1.a6, r1.a7, r1.a8, r1.a9⟩
  else
    (body_checker_take.f k (127 : Int) a9 a10 a11 a12 a13 a14 a15 a16 a17).bind fun r2 =>
    (body_checker_any.f k r2.a0 r2.a1 r2.a2 r2.a3 r2.a4 r2.a5 r2.a6 r2.a8 r2.a7).bind fun r3 =>
    (body_checker_any.f k r3.a1 r3.a2 r3.a3 r3.a4 r3.a5 r3.a6 r3.a7 r3.a9 r3.a8).bind fun r4 =>
    if r3.a0 = r4.a0 then
      (body_checker_must.f k true r4.a1 r4.a2 r4.a3 r4.a4 r4.a5 r4.a6 r4.a7 r4.a9 r4.a8).bind fun r5 =>
      (body_checker_put.f k [(if r3.a0 < r4.a0 then r4.a0 else r3.a0)] r5.a0 r5.a1 r5.a2 r5.a3 r5.a4 r5.a5 r5.a6 r5.a7 r5.a8).bind fun r6 =>
      some ⟨r6.a0, r6.a1, r6.a2, r6.a3, r6.a4, r6.a5, r6.a6, r6.a7, r6.a8⟩
    else
      if r3.a0 = (-1 : Int) then
        (body_checker_must.f k true r4.a1 r4.a2 r4.a3 r4.a4 r4.a5 r4.a6 r4.a7 r4.a9 r4.a8).bind fun r7 =>
        (body_checker_put.f k [(if r3.a0 < r4.a0 then r4.a0 else r3.a0)] r7.a0 r7.a1 r7.a2 r7.a3 r7.a4 r7.a5 r7.a6 r7.a7 r7.a8).bind fun r8 =>
        some ⟨r8.a0, r8.a1, r8.a2, r8.a3, r8.a4, r8.a5, r8.a6, r8.a7, r8.a8⟩
      else
        (body_checker_must.f k (decide (r4.a0 = (-1 : Int))) r4.a1 r4.a2 r4.a3 r4.a4 r4.a5 r4.a6 r4.a7 r4.a9 r4.a8).bind fun r9 =>
        (body_checker_put.f k [(if r3.a0 < r4.a0 then r4.a0 else r3.a0)] r9.a0 r9.a1 r9.a2 r9.a3 r9.a4 r9.a5 r9.a6 r9.a7 r9.a8).bind fun r10 =>
        some ⟨r10.a0, r10.a1, r10.a2, r10.a3, r10.a4, r10.a5, r10.a6, r10.a7, r10.a8⟩
structure body_checker_places.R where
  a0 : List api_FuncType
  a1 : List api_FuncType
  a2 : List api_Global
  a3 : Bool
  a4 : Bool
  a5 : Bool
  a6 : List Int
  a7 : List body_frame
  a8 : List Int
inductive body_checker_places.L where
  | s8 (x0 : Int) (x1 : List api_FuncType) (x2 : List api_FuncType) (x3 : List api_Global) (x4 : Bool) (x5 : Bool) (x6 : Bool) (x7 : List Int) (x8 : List body_frame) (x9 : List Int) (x10 : Int) (x11 : Int) (x12 : Int) (x13 : Int) (x14 : Int) (x15 : Int) (x16 : List Int) (x17 : List api_Instr) (x18 : List api_Instr)
def body_checker_places.go : Nat → body_checker_places.L → Option body_checker_places.R
  | 0, _ => none
  | k + 1, .s8 x0 x1 x2 x3 x4 x5 x6 x7 x8 x9 x10 x11 x12 x13 x14 x15 x16 x17 x18 =>
    if x10 = (32 : Int) then
      (body_checker_put.f k [x0] x1 x2 x3 x4 x5 x6 x7 x9 x8).bind fun r1 =>
      some ⟨r1.a0, r1.a1, r1.a2, r1.a3, r1.a4, r1.a5, r1.a6, r1.a7, r1.a8⟩
    else
      if x10 = (35 : Int) then
        (body_checker_put.f k [x0] x1 x2 x3 x4 x5 x6 x7 x9 x8).bind fun r2 =>
        some ⟨r2.a0, r2.a1, r2.a2, r2.a3, r2.a4, r2.a5, r2.a6, r2.a7, r2.a8⟩
      else
        if x10 = (34 : Int) then
          (body_checker_take.f k x0 x1 x2 x3 x4 x5 x6 x7 x9 x8).bind fun r3 =>
          (body_checker_put.f k [x0] r3.a0 r3.a1 r3.a2 r3.a3 r3.a4 r3.a5 r3.a6 r3.a8 r3.a7).bind fun r4 =>
          some ⟨r4.a0, r4.a1, r4.a2, r4.a3, r4.a4, r4.a5, r4.a6, r4.a7, r4.a8⟩
        else
          (body_checker_take.f k x0 x1 x2 x3 x4 x5 x6 x7 x9 x8).bind fun r5 =>
          some ⟨r5.a0, r5.a1, r5.a2, r5.a3, r5.a4, r5.a5, r5.a6, r5.a7, r5.a8⟩
def body_checker_places.f (k : Nat) (a0 : Int) (a1 : Int) (a2 : Int) (a3 : Int) (a4 : Int) (a5 : Int) (a6 : List Int) (a7 : List api_Instr) (a8 : List api_Instr) (a9 : List api_FuncType) (a10 : List api_FuncType) (a11 : List api_Global) (a12 : Bool) (a13 : Bool) (a14 : Bool) (a15 : List Int) (a16 : List Int) (a17 : List body_frame) : Option body_checker_places.R :=
  if a0 ≤ (34 : Int) then
    if a2 < (a15.length : Int) then
      inB a2 a15.length <|
      body_checker_places.go k (.s8 (a15.getD a2.toNat (0 : Int)) a9 a10 a11 a12 a13 a14 a15 a17 a16 a0 a1 a2 a3 a4 a5 a6 a7 a8)
    else
      if a0 > (34 : Int) then
        if a2 < (a11.length : Int) then
          inB a2 a11.length <|
          if a0 = (35 : Int) then
            (body_checker_must.f k true a9 a10 a11 a12 a13 a14 a15 a16 a17).bind fun r1 =>
            body_checker_places.go k (.s8 ((a11.getD a2.toNat z_api_Global).Type_) r1.a0 r1.a1 r1.a2 r1.a3 r1.a4 r1.a5 r1.a6 r1.a8 r1.a7 a0 a1 a2 a3 a4 a5 a6 a7 a8)
          else
            inB a2 a11.length <|
            (body_checker_must.f k ((a11.getD a2.toNat z_api_Global).Mut) a9 a10 a11 a12 a13 a14 a15 a16 a17).bind fun r2 =>
            body_checker_places.go k (.s8 ((a11.getD a2.toNat z_api_Global).Type_) r2.a0 r2.a1 r2.a2 r2.a3 r2.a4 r2.a5 r2.a6 r2.a8 r2.a7 a0 a1 a2 a3 a4 a5 a6 a7 a8)
        else
          some ⟨a9, a10, a11, a12, a13, true, a15, a17, a16⟩
      else
        some ⟨a9, a10, a11, a12, a13, true, a15, a17, a16⟩
  else
    if a0 > (34 : Int) then
      if a2 < (a11.length : Int) then
        inB a2 a11.length <|
        if a0 = (35 : Int) then
          (body_checker_must.f k true a9 a10 a11 a12 a13 a14 a15 a16 a17).bind fun r3 =>
          body_checker_places.go k (.s8 ((a11.getD a2.toNat z_api_Global).Type_) r3.a0 r3.a1 r3.a2 r3.a3 r3.a4 r3.a5 r3.a6 r3.a8 r3.a7 a0 a1 a2 a3 a4 a5 a6 a7 a8)
        else
          inB a2 a11.length <|
          (body_checker_must.f k ((a11.getD a2.toNat z_api_Global).Mut) a9 a10 a11 a12 a13 a14 a15 a16 a17).bind fun r4 =>
          body_checker_places.go k (.s8 ((a11.getD a2.toNat z_api_Global).Type_) r4.a0 r4.a1 r4.a2 r4.a3 r4.a4 r4.a5 r4.a6 r4.a8 r4.a7 a0 a1 a2 a3 a4 a5 a6 a7 a8)
      else
        some ⟨a9, a10, a11, a12, a13, true, a15, a17, a16⟩
    else
      some ⟨a9, a10, a11, a12, a13, true, a15, a17, a16⟩
abbrev body_accesses.R : Type := List (Int × body_access)
inductive body_accesses.L where
def body_accesses.go : Nat → body_accesses.L → Option body_accesses.R := fun _ _ => none
def body_accesses.f (k : Nat) : Option body_accesses.R :=
  some (mapSet (mapSet (mapSet (mapSet (mapSet (mapSet (mapSet (mapSet (mapSet (mapSet (mapSet (mapSet (mapSet (mapSet (mapSet (mapSet (mapSet (mapSet (mapSet [] (40 : Int) (⟨(4 : Int), (127 : Int)⟩ : body_access)) (41 : Int) (⟨(8 : Int), (126 : Int)⟩ : body_access)) (44 : Int) (⟨(1 : Int), (127 : Int)⟩ : body_access)) (45 : Int) (⟨(1 : Int), (127 : Int)⟩ : body_access)) (46 : Int) (⟨(2 : Int), (127 : Int)⟩ : body_access)) (47 : Int) (⟨(2 : Int), (127 : Int)⟩ : body_access)) (48 : Int) (⟨(1 : Int), (126 : Int)⟩ : body_access)) (49 : Int) (⟨(1 : Int), (126 : Int)⟩ : body_access)) (50 : Int) (⟨(2 : Int), (126 : Int)⟩ : body_access)) (51 : Int) (⟨(2 : Int), (126 : Int)⟩ : body_access)) (52 : Int) (⟨(4 : Int), (126 : Int)⟩ : body_access)) (53 : Int) (⟨(4 : Int), (126 : Int)⟩ : body_access)) (54 : Int) (⟨(4 : Int), (127 : Int)⟩ : body_access)) (55 : Int) (⟨(8 : Int), (126 : Int)⟩ : body_access)) (58 : Int) (⟨(1 : Int), (127 : Int)⟩ : body_access)) (59 : Int) (⟨(2 : Int), (127 : Int)⟩ : body_access)) (60 : Int) (⟨(1 : Int), (126 : Int)⟩ : body_access)) (61 : Int) (⟨(2 : Int), (126 : Int)⟩ : body_access)) (62 : Int) (⟨(4 : Int), (126 : Int)⟩ : body_access))
structure body_checker_memories.R where
  a0 : List api_FuncType
  a1 : List api_FuncType
  a2 : List api_Global
  a3 : Bool
  a4 : Bool
  a5 : Bool
  a6 : List Int
  a7 : List body_frame
  a8 : List Int
inductive body_checker_memories.L where
def body_checker_memories.go : Nat → body_checker_memories.L → Option body_checker_memories.R := fun _ _ => none
def body_checker_memories.f (k : Nat) (a0 : Int) (a1 : Int) (a2 : Int) (a3 : Int) (a4 : Int) (a5 : Int) (a6 : List Int) (a7 : List api_Instr) (a8 : List api_Instr) (a9 : List api_FuncType) (a10 : List api_FuncType) (a11 : List api_Global) (a12 : Bool) (a13 : Bool) (a14 : Bool) (a15 : List Int) (a16 : List Int) (a17 : List body_frame) : Option body_checker_memories.R :=
  (body_checker_must.f k a13 a9 a10 a11 a12 a13 a14 a15 a16 a17).bind fun r1 =>
  (body_accesses.f k).bind fun r2 =>
  if a0 = (63 : Int) then
    (body_checker_put.f k [(127 : Int)] r1.a0 r1.a1 r1.a2 r1.a3 r1.a4 r1.a5 r1.a6 r1.a7 r1.a8).bind fun r3 =>
    some ⟨r3.a0, r3.a1, r3.a2, r3.a3, r3.a4, r3.a5, r3.a6, r3.a7, r3.a8⟩
  else
    if a0 = (64 : Int) then
      (body_checker_take.f k (127 : Int) r1.a0 r1.a1 r1.a2 r1.a3 r1.a4 r1.a5 r1.a6 r1.a7 r1.a8).bind fun r4 =>
      (body_checker_put.f k [(127 : Int)] r4.a0 r4.a1 r4.a2 r4.a3 r4.a4 r4.a5 r4.a6 r4.a8 r4.a7).bind fun r5 =>
      some ⟨r5.a0, r5.a1, r5.a2, r5.a3, r5.a4, r5.a5, r5.a6, r5.a7, r5.a8⟩
    else
      if a3 < (4 : Int) then
        if 0 ≤ a3 then
        (body_checker_must.f k (decide ((IntKind.i64.wrap ((1 : Int) * 2 ^ (min a3.toNat IntKind.i64.bits))) ≤ ((mapGet r2 a0 z_body_access).bytes_))) r1.a0 r1.a1 r1.a2 r1.a3 r1.a4 r1.a5 r1.a6 r1.a7 r1.a8).bind fun r6 =>
        if a0 ≥ (54 : Int) then
          (body_checker_take.f k ((mapGet r2 a0 z_body_access).typ_) r6.a0 r6.a1 r6.a2 r6.a3 r6.a4 r6.a5 r6.a6 r6.a7 r6.a8).bind fun r7 =>
          (body_checker_take.f k (127 : Int) r7.a0 r7.a1 r7.a2 r7.a3 r7.a4 r7.a5 r7.a6 r7.a8 r7.a7).bind fun r8 =>
          if a0 < (54 : Int) then
            (body_checker_put.f k [(mapGet r2 a0 z_body_access).typ_] r8.a0 r8.a1 r8.a2 r8.a3 r8.a4 r8.a5 r8.a6 r8.a8 r8.a7).bind fun r9 =>
            some ⟨r9.a0, r9.a1, r9.a2, r9.a3, r9.a4, r9.a5, r9.a6, r9.a7, r9.a8⟩
          else
            some ⟨r8.a0, r8.a1, r8.a2, r8.a3, r8.a4, r8.a5, r8.a6, r8.a7, r8.a8⟩
        else
          (body_checker_take.f k (127 : Int) r6.a0 r6.a1 r6.a2 r6.a3 r6.a4 r6.a5 r6.a6 r6.a7 r6.a8).bind fun r10 =>
          if a0 < (54 : Int) then
            (body_checker_put.f k [(mapGet r2 a0 z_body_access).typ_] r10.a0 r10.a1 r10.a2 r10.a3 r10.a4 r10.a5 r10.a6 r10.a8 r10.a7).bind fun r11 =>
            some ⟨r11.a0, r11.a1, r11.a2, r11.a3, r11.a4, r11.a5, r11.a6, r11.a7, r11.a8⟩
          else
            some ⟨r10.a0, r10.a1, r10.a2, r10.a3, r10.a4, r10.a5, r10.a6, r10.a7, r10.a8⟩
        else none
      else
        (body_checker_must.f k false r1.a0 r1.a1 r1.a2 r1.a3 r1.a4 r1.a5 r1.a6 r1.a7 r1.a8).bind fun r12 =>
        if a0 ≥ (54 : Int) then
          (body_checker_take.f k ((mapGet r2 a0 z_body_access).typ_) r12.a0 r12.a1 r12.a2 r12.a3 r12.a4 r12.a5 r12.a6 r12.a7 r12.a8).bind fun r13 =>
          (body_checker_take.f k (127 : Int) r13.a0 r13.a1 r13.a2 r13.a3 r13.a4 r13.a5 r13.a6 r13.a8 r13.a7).bind fun r14 =>
          if a0 < (54 : Int) then
            (body_checker_put.f k [(mapGet r2 a0 z_body_access).typ_] r14.a0 r14.a1 r14.a2 r14.a3 r14.a4 r14.a5 r14.a6 r14.a8 r14.a7).bind fun r15 =>
            some ⟨r15.a0, r15.a1, r15.a2, r15.a3, r15.a4, r15.a5, r15.a6, r15.a7, r15.a8⟩
          else
            some ⟨r14.a0, r14.a1, r14.a2, r14.a3, r14.a4, r14.a5, r14.a6, r14.a7, r14.a8⟩
        else
          (body_checker_take.f k (127 : Int) r12.a0 r12.a1 r12.a2 r12.a3 r12.a4 r12.a5 r12.a6 r12.a7 r12.a8).bind fun r16 =>
          if a0 < (54 : Int) then
            (body_checker_put.f k [(mapGet r2 a0 z_body_access).typ_] r16.a0 r16.a1 r16.a2 r16.a3 r16.a4 r16.a5 r16.a6 r16.a8 r16.a7).bind fun r17 =>
            some ⟨r17.a0, r17.a1, r17.a2, r17.a3, r17.a4, r17.a5, r17.a6, r17.a7, r17.a8⟩
          else
            some ⟨r16.a0, r16.a1, r16.a2, r16.a3, r16.a4, r16.a5, r16.a6, r16.a7, r16.a8⟩
structure body_checker_numbers_1.R where
  a0 : List api_FuncType
  a1 : List api_FuncType
  a2 : List api_Global
  a3 : Bool
  a4 : Bool
  a5 : Bool
  a6 : List Int
  a7 : List body_frame
  a8 : List Int
inductive body_checker_numbers_1.L where
  | s1 (x0 : Int) (x1 : Int) (x2 : Int) (x3 : Int) (x4 : List api_FuncType) (x5 : List api_FuncType) (x6 : List api_Global) (x7 : Bool) (x8 : Bool) (x9 : Bool) (x10 : List Int) (x11 : List body_frame) (x12 : List Int)
def body_checker_numbers_1.go : Nat → body_checker_numbers_1.L → Option body_checker_numbers_1.R
  | 0, _ => none
  | k + 1, .s1 x0 x1 x2 x3 x4 x5 x6 x7 x8 x9 x10 x11 x12 =>
    if x3 < x2 then
      (body_checker_take.f k x0 x4 x5 x6 x7 x8 x9 x10 x12 x11).bind fun r1 =>
      body_checker_numbers_1.go k (.s1 x0 x1 x2 (IntKind.i64.wrap (x3 + (1 : Int))) r1.a0 r1.a1 r1.a2 r1.a3 r1.a4 r1.a5 r1.a6 r1.a7 r1.a8)
    else
      (body_checker_put.f k [x1] x4 x5 x6 x7 x8 x9 x10 x12 x11).bind fun r2 =>
      some ⟨r2.a0, r2.a1, r2.a2, r2.a3, r2.a4, r2.a5, r2.a6, r2.a7, r2.a8⟩
def body_checker_numbers_1.f (k : Nat) (a0 : Int) (a1 : Int) (a2 : Int) (a3 : List api_FuncType) (a4 : List api_FuncType) (a5 : List api_Global) (a6 : Bool) (a7 : Bool) (a8 : Bool) (a9 : List Int) (a10 : List Int) (a11 : List body_frame) : Option body_checker_numbers_1.R :=
  body_checker_numbers_1.go k (.s1 a0 a2 a1 (0 : Int) a3 a4 a5 a6 a7 a8 a9 a11 a10)
structure body_checker_numbers.R where
  a0 : List api_FuncType
  a1 : List api_FuncType
  a2 : List api_Global
  a3 : Bool
  a4 : Bool
  a5 : Bool
  a6 : List Int
  a7 : List body_frame
  a8 : List Int
inductive body_checker_numbers.L where
  | s9 (x0 : List api_FuncType) (x1 : List api_FuncType) (x2 : List api_Global) (x3 : Bool) (x4 : Bool) (x5 : Bool) (x6 : List Int) (x7 : List body_frame) (x8 : List Int) (x9 : Int) (x10 : Int) (x11 : Int) (x12 : Int) (x13 : Int) (x14 : Int) (x15 : List Int) (x16 : List api_Instr) (x17 : List api_Instr)
  | s11 (x0 : List api_FuncType) (x1 : List api_FuncType) (x2 : List api_Global) (x3 : Bool) (x4 : Bool) (x5 : Bool) (x6 : List Int) (x7 : List body_frame) (x8 : List Int) (x9 : Int) (x10 : Int) (x11 : Int) (x12 : Int) (x13 : Int) (x14 : Int) (x15 : List Int) (x16 : List api_Instr) (x17 : List api_Instr)
  | s13 (x0 : List api_FuncType) (x1 : List api_FuncType) (x2 : List api_Global) (x3 : Bool) (x4 : Bool) (x5 : Bool) (x6 : List Int) (x7 : List body_frame) (x8 : List Int) (x9 : Int) (x10 : Int) (x11 : Int) (x12 : Int) (x13 : Int) (x14 : Int) (x15 : List Int) (x16 : List api_Instr) (x17 : List api_Instr)
def body_checker_numbers.go : Nat → body_checker_numbers.L → Option body_checker_numbers.R
  | 0, _ => none
  | k + 1, .s9 x0 x1 x2 x3 x4 x5 x6 x7 x8 x9 x10 x11 x12 x13 x14 x15 x16 x17 =>
    if x9 ≤ (79 : Int) then
      (body_checker_numbers_1.f k (127 : Int) (2 : Int) (127 : Int) x0 x1 x2 x3 x4 x5 x6 x8 x7).bind fun r1 =>
      some ⟨r1.a0, r1.a1, r1.a2, r1.a3, r1.a4, r1.a5, r1.a6, r1.a7, r1.a8⟩
    else
      if x9 ≥ (106 : Int) then
        if x9 ≤ (120 : Int) then
          (body_checker_numbers_1.f k (127 : Int) (2 : Int) (127 : Int) x0 x1 x2 x3 x4 x5 x6 x8 x7).bind fun r2 =>
          some ⟨r2.a0, r2.a1, r2.a2, r2.a3, r2.a4, r2.a5, r2.a6, r2.a7, r2.a8⟩
        else
          body_checker_numbers.go k (.s11 x0 x1 x2 x3 x4 x5 x6 x7 x8 x9 x10 x11 x12 x13 x14 x15 x16 x17)
      else
        body_checker_numbers.go k (.s11 x0 x1 x2 x3 x4 x5 x6 x7 x8 x9 x10 x11 x12 x13 x14 x15 x16 x17)
  | k + 1, .s11 x0 x1 x2 x3 x4 x5 x6 x7 x8 x9 x10 x11 x12 x13 x14 x15 x16 x17 =>
    if x9 = (80 : Int) then
      (body_checker_numbers_1.f k (126 : Int) (1 : Int) (127 : Int) x0 x1 x2 x3 x4 x5 x6 x8 x7).bind fun r3 =>
      some ⟨r3.a0, r3.a1, r3.a2, r3.a3, r3.a4, r3.a5, r3.a6, r3.a7, r3.a8⟩
    else
      if x9 = (167 : Int) then
        (body_checker_numbers_1.f k (126 : Int) (1 : Int) (127 : Int) x0 x1 x2 x3 x4 x5 x6 x8 x7).bind fun r4 =>
        some ⟨r4.a0, r4.a1, r4.a2, r4.a3, r4.a4, r4.a5, r4.a6, r4.a7, r4.a8⟩
      else
        body_checker_numbers.go k (.s13 x0 x1 x2 x3 x4 x5 x6 x7 x8 x9 x10 x11 x12 x13 x14 x15 x16 x17)
  | k + 1, .s13 x0 x1 x2 x3 x4 x5 x6 x7 x8 x9 x10 x11 x12 x13 x14 x15 x16 x17 =>
    if x9 ≤ (90 : Int) then
      (body_checker_numbers_1.f k (126 : Int) (2 : Int) (127 : Int) x0 x1 x2 x3 x4 x5 x6 x8 x7).bind fun r5 =>
      some ⟨r5.a0, r5.a1, r5.a2, r5.a3, r5.a4, r5.a5, r5.a6, r5.a7, r5.a8⟩
    else
      if x9 ≤ (123 : Int) then
        (body_checker_numbers_1.f k (126 : Int) (1 : Int) (126 : Int) x0 x1 x2 x3 x4 x5 x6 x8 x7).bind fun r6 =>
        some ⟨r6.a0, r6.a1, r6.a2, r6.a3, r6.a4, r6.a5, r6.a6, r6.a7, r6.a8⟩
      else
        if x9 ≤ (138 : Int) then
          (body_checker_numbers_1.f k (126 : Int) (2 : Int) (126 : Int) x0 x1 x2 x3 x4 x5 x6 x8 x7).bind fun r7 =>
          some ⟨r7.a0, r7.a1, r7.a2, r7.a3, r7.a4, r7.a5, r7.a6, r7.a7, r7.a8⟩
        else
          (body_checker_numbers_1.f k (127 : Int) (1 : Int) (126 : Int) x0 x1 x2 x3 x4 x5 x6 x8 x7).bind fun r8 =>
          some ⟨r8.a0, r8.a1, r8.a2, r8.a3, r8.a4, r8.a5, r8.a6, r8.a7, r8.a8⟩
def body_checker_numbers.f (k : Nat) (a0 : Int) (a1 : Int) (a2 : Int) (a3 : Int) (a4 : Int) (a5 : Int) (a6 : List Int) (a7 : List api_Instr) (a8 : List api_Instr) (a9 : List api_FuncType) (a10 : List api_FuncType) (a11 : List api_Global) (a12 : Bool) (a13 : Bool) (a14 : Bool) (a15 : List Int) (a16 : List Int) (a17 : List body_frame) : Option body_checker_numbers.R :=
  if a0 = (65 : Int) then
    (body_checker_put.f k [(127 : Int)] a9 a10 a11 a12 a13 a14 a15 a16 a17).bind fun r1 =>
    some ⟨r1.a0, r1.a1, r1.a2, r1.a3, r1.a4, r1.a5, r1.a6, r1.a7, r1.a8⟩
  else
    if a0 = (66 : Int) then
      (body_checker_put.f k [(126 : Int)] a9 a10 a11 a12 a13 a14 a15 a16 a17).bind fun r2 =>
      some ⟨r2.a0, r2.a1, r2.a2, r2.a3, r2.a4, r2.a5, r2.a6, r2.a7, r2.a8⟩
    else
      if a0 = (69 : Int) then
        (body_checker_numbers_1.f k (127 : Int) (1 : Int) (127 : Int) a9 a10 a11 a12 a13 a14 a15 a16 a17).bind fun r3 =>
        some ⟨r3.a0, r3.a1, r3.a2, r3.a3, r3.a4, r3.a5, r3.a6, r3.a7, r3.a8⟩
      else
        if a0 ≥ (103 : Int) then
          if a0 ≤ (105 : Int) then
            (body_checker_numbers_1.f k (127 : Int) (1 : Int) (127 : Int) a9 a10 a11 a12 a13 a14 a15 a16 a17).bind fun r4 =>
            some ⟨r4.a0, r4.a1, r4.a2, r4.a3, r4.a4, r4.a5, r4.a6, r4.a7, r4.a8⟩
          else
            body_checker_numbers.go k (.s9 a9 a10 a11 a12 a13 a14 a15 a17 a16 a0 a1 a2 a3 a4 a5 a6 a7 a8)
        else
          body_checker_numbers.go k (.s9 a9 a10 a11 a12 a13 a14 a15 a17 a16 a0 a1 a2 a3 a4 a5 a6 a7 a8)
structure body_checker_blocks.R where
  a0 : List api_FuncType
  a1 : List api_FuncType
  a2 : List api_Global
  a3 : Bool
  a4 : Bool
  a5 : Bool
  a6 : List Int
  a7 : List Int
  a8 : List body_frame
inductive body_checker_blocks.L where
inductive body_checker_list.R where
  | r0 (a0 : List api_FuncType) (a1 : List api_FuncType) (a2 : List api_Global) (a3 : Bool) (a4 : Bool) (a5 : Bool) (a6 : List Int) (a7 : List body_frame) (a8 : List Int)
  | r1 (a0 : List api_FuncType) (a1 : List api_FuncType) (a2 : List api_Global) (a3 : Bool) (a4 : Bool) (a5 : Bool) (a6 : List Int) (a7 : List Int) (a8 : List body_frame)
inductive body_checker_list.L where
  | s1 (x0 : List api_Instr) (x1 : Int) (x2 : Int) (x3 : List api_FuncType) (x4 : List api_FuncType) (x5 : List api_Global) (x6 : Bool) (x7 : Bool) (x8 : Bool) (x9 : List Int) (x10 : List body_frame) (x11 : List Int)
  | s1_1 (x0 : List api_Instr) (x1 : Int) (x2 : Int) (x3 : List api_FuncType) (x4 : List api_FuncType) (x5 : List api_Global) (x6 : Bool) (x7 : Bool) (x8 : Bool) (x9 : List Int) (x10 : List Int) (x11 : List body_frame)
structure body_checker_block.R where
  a0 : List api_FuncType
  a1 : List api_FuncType
  a2 : List api_Global
  a3 : Bool
  a4 : Bool
  a5 : Bool
  a6 : List Int
  a7 : List Int
  a8 : List body_frame
inductive body_checker_block.L where
structure body_checker_block.Fns where
  body_checker_blocks_f : Int → Int → Int → Int → Int → Int → (List Int) → (List api_Instr) → (List api_Instr) → (List api_FuncType) → (List api_FuncType) → (List api_Global) → Bool → Bool → Bool → (List Int) → (List Int) → (List body_frame) → Option body_checker_blocks.R
  body_checker_blocks_go : body_checker_blocks.L → Option body_checker_blocks.R
  body_checker_list_f : (List api_Instr) → (List api_FuncType) → (List api_FuncType) → (List api_Global) → Bool → Bool → Bool → (List Int) → (List Int) → (List body_frame) → Option body_checker_list.R
  body_checker_list_go : body_checker_list.L → Option body_checker_list.R
  body_checker_block_f : (List api_Instr) → (List Int) → (List Int) → (List api_FuncType) → (List api_FuncType) → (List api_Global) → Bool → Bool → Bool → (List Int) → (List Int) → (List body_frame) → Option body_checker_block.R
  body_checker_block_go : body_checker_block.L → Option body_checker_block.R
def body_checker_block.step (k : Nat) (r_ : body_checker_block.Fns) : body_checker_block.Fns where
  body_checker_blocks_f := fun (a0 : Int) (a1 : Int) (a2 : Int) (a3 : Int) (a4 : Int) (a5 : Int) (a6 : List Int) (a7 : List api_Instr) (a8 : List api_Instr) (a9 : List api_FuncType) (a10 : List api_FuncType) (a11 : List api_Global) (a12 : Bool) (a13 : Bool) (a14 : Bool) (a15 : List Int) (a16 : List Int) (a17 : List body_frame) =>
      (body_results.f k a1).bind fun r1 =>
      if a0 = (2 : Int) then
        (r_.body_checker_block_f a7 r1 r1 a9 a10 a11 a12 a13 a14 a15 a16 a17).bind fun r2 =>
        (body_checker_put.f k r1 r2.a0 r2.a1 r2.a2 r2.a3 r2.a4 r2.a5 r2.a6 r2.a7 r2.a8).bind fun r3 =>
        some ⟨r3.a0, r3.a1, r3.a2, r3.a3, r3.a4, r3.a5, r3.a6, r3.a8, r3.a7⟩
      else
        if a0 = (3 : Int) then
          (r_.body_checker_block_f a7 [] r1 a9 a10 a11 a12 a13 a14 a15 a16 a17).bind fun r4 =>
          (body_checker_put.f k r1 r4.a0 r4.a1 r4.a2 r4.a3 r4.a4 r4.a5 r4.a6 r4.a7 r4.a8).bind fun r5 =>
          some ⟨r5.a0, r5.a1, r5.a2, r5.a3, r5.a4, r5.a5, r5.a6, r5.a8, r5.a7⟩
        else
          (body_checker_take.f k (127 : Int) a9 a10 a11 a12 a13 a14 a15 a16 a17).bind fun r6 =>
          if (r1.length : Int) = (0 : Int) then
            (body_checker_must.f k true r6.a0 r6.a1 r6.a2 r6.a3 r6.a4 r6.a5 r6.a6 r6.a8 r6.a7).bind fun r7 =>
            (r_.body_checker_block_f a7 r1 r1 r7.a0 r7.a1 r7.a2 r7.a3 r7.a4 r7.a5 r7.a6 r7.a7 r7.a8).bind fun r8 =>
            (r_.body_checker_block_f a8 r1 r1 r8.a0 r8.a1 r8.a2 r8.a3 r8.a4 r8.a5 r8.a6 r8.a7 r8.a8).bind fun r9 =>
            (body_checker_put.f k r1 r9.a0 r9.a1 r9.a2 r9.a3 r9.a4 r9.a5 r9.a6 r9.a7 r9.a8).bind fun r10 =>
            some ⟨r10.a0, r10.a1, r10.a2, r10.a3, r10.a4, r10.a5, r10.a6, r10.a8, r10.a7⟩
          else
            (body_checker_must.f k (decide ((a8.length : Int) > (0 : Int))) r6.a0 r6.a1 r6.a2 r6.a3 r6.a4 r6.a5 r6.a6 r6.a8 r6.a7).bind fun r11 =>
            (r_.body_checker_block_f a7 r1 r1 r11.a0 r11.a1 r11.a2 r11.a3 r11.a4 r11.a5 r11.a6 r11.a7 r11.a8).bind fun r12 =>
            (r_.body_checker_block_f a8 r1 r1 r12.a0 r12.a1 r12.a2 r12.a3 r12.a4 r12.a5 r12.a6 r12.a7 r12.a8).bind fun r13 =>
            (body_checker_put.f k r1 r13.a0 r13.a1 r13.a2 r13.a3 r13.a4 r13.a5 r13.a6 r13.a7 r13.a8).bind fun r14 =>
            some ⟨r14.a0, r14.a1, r14.a2, r14.a3, r14.a4, r14.a5, r14.a6, r14.a8, r14.a7⟩
  body_checker_blocks_go := fun _ => none
  body_checker_list_f := fun (a0 : List api_Instr) (a1 : List api_FuncType) (a2 : List api_FuncType) (a3 : List api_Global) (a4 : Bool) (a5 : Bool) (a6 : Bool) (a7 : List Int) (a8 : List Int) (a9 : List body_frame) =>
      r_.body_checker_list_go (.s1 a0 (a0.length : Int) (0 : Int) a1 a2 a3 a4 a5 a6 a7 a9 a8)
  body_checker_list_go := fun l => match l with
      | .s1 x0 x1 x2 x3 x4 x5 x6 x7 x8 x9 x10 x11 =>
        if x2 < x1 then
          inB x2 x0.length <|
          if x8 = true then
            some (.r0 x3 x4 x5 x6 x7 x8 x9 x10 x11)
          else
            (body_kind.f k ((x0.getD x2.toNat z_api_Instr).Op)).bind fun r => match r with
            | .r0 =>
              (body_kind_1.f k ((x0.getD x2.toNat z_api_Instr).Op) ((x0.getD x2.toNat z_api_Instr).Type_) ((x0.getD x2.toNat z_api_Instr).Index) ((x0.getD x2.toNat z_api_Instr).Align) ((x0.getD x2.toNat z_api_Instr).Offset) ((x0.getD x2.toNat z_api_Instr).Val) ((x0.getD x2.toNat z_api_Instr).Labels) ((x0.getD x2.toNat z_api_Instr).Body) ((x0.getD x2.toNat z_api_Instr).Else) x3 x4 x5 x6 x7 x8 x9 x11 x10).bind fun r15 =>
              r_.body_checker_list_go (.s1 x0 x1 (IntKind.i64.wrap (x2 + (1 : Int))) r15.a0 r15.a1 r15.a2 r15.a3 r15.a4 r15.a5 r15.a6 r15.a8 r15.a7)
            | .r1 =>
              (r_.body_checker_blocks_f ((x0.getD x2.toNat z_api_Instr).Op) ((x0.getD x2.toNat z_api_Instr).Type_) ((x0.getD x2.toNat z_api_Instr).Index) ((x0.getD x2.toNat z_api_Instr).Align) ((x0.getD x2.toNat z_api_Instr).Offset) ((x0.getD x2.toNat z_api_Instr).Val) ((x0.getD x2.toNat z_api_Instr).Labels) ((x0.getD x2.toNat z_api_Instr).Body) ((x0.getD x2.toNat z_api_Instr).Else) x3 x4 x5 x6 x7 x8 x9 x11 x10).bind fun r16 =>
              r_.body_checker_list_go (.s1_1 x0 x1 (IntKind.i64.wrap (x2 + (1 : Int))) r16.a0 r16.a1 r16.a2 r16.a3 r16.a4 r16.a5 r16.a6 r16.a7 r16.a8)
            | .r2 =>
              (body_checker_branches.f k ((x0.getD x2.toNat z_api_Instr).Op) ((x0.getD x2.toNat z_api_Instr).Type_) ((x0.getD x2.toNat z_api_Instr).Index) ((x0.getD x2.toNat z_api_Instr).Align) ((x0.getD x2.toNat z_api_Instr).Offset) ((x0.getD x2.toNat z_api_Instr).Val) ((x0.getD x2.toNat z_api_Instr).Labels) ((x0.getD x2.toNat z_api_Instr).Body) ((x0.getD x2.toNat z_api_Instr).Else) x3 x4 x5 x6 x7 x8 x9 x11 x10).bind fun r17 =>
              r_.body_checker_list_go (.s1 x0 x1 (IntKind.i64.wrap (x2 + (1 : Int))) r17.a0 r17.a1 r17.a2 r17.a3 r17.a4 r17.a5 r17.a6 r17.a7 r17.a8)
            | .r3 =>
              (body_checker_calls.f k ((x0.getD x2.toNat z_api_Instr).Op) ((x0.getD x2.toNat z_api_Instr).Type_) ((x0.getD x2.toNat z_api_Instr).Index) ((x0.getD x2.toNat z_api_Instr).Align) ((x0.getD x2.toNat z_api_Instr).Offset) ((x0.getD x2.toNat z_api_Instr).Val) ((x0.getD x2.toNat z_api_Instr).Labels) ((x0.getD x2.toNat z_api_Instr).Body) ((x0.getD x2.toNat z_api_Instr).Else) x3 x4 x5 x6 x7 x8 x9 x11 x10).bind fun r18 =>
              r_.body_checker_list_go (.s1 x0 x1 (IntKind.i64.wrap (x2 + (1 : Int))) r18.a0 r18.a1 r18.a2 r18.a3 r18.a4 r18.a5 r18.a6 r18.a7 r18.a8)
            | .r4 =>
              (body_checker_picks.f k ((x0.getD x2.toNat z_api_Instr).Op) ((x0.getD x2.toNat z_api_Instr).Type_) ((x0.getD x2.toNat z_api_Instr).Index) ((x0.getD x2.toNat z_api_Instr).Align) ((x0.getD x2.toNat z_api_Instr).Offset) ((x0.getD x2.toNat z_api_Instr).Val) ((x0.getD x2.toNat z_api_Instr).Labels) ((x0.getD x2.toNat z_api_Instr).Body) ((x0.getD x2.toNat z_api_Instr).Else) x3 x4 x5 x6 x7 x8 x9 x11 x10).bind fun r19 =>
              r_.body_checker_list_go (.s1 x0 x1 (IntKind.i64.wrap (x2 + (1 : Int))) r19.a0 r19.a1 r19.a2 r19.a3 r19.a4 r19.a5 r19.a6 r19.a7 r19.a8)
            | .r5 =>
              (body_checker_places.f k ((x0.getD x2.toNat z_api_Instr).Op) ((x0.getD x2.toNat z_api_Instr).Type_) ((x0.getD x2.toNat z_api_Instr).Index) ((x0.getD x2.toNat z_api_Instr).Align) ((x0.getD x2.toNat z_api_Instr).Offset) ((x0.getD x2.toNat z_api_Instr).Val) ((x0.getD x2.toNat z_api_Instr).Labels) ((x0.getD x2.toNat z_api_Instr).Body) ((x0.getD x2.toNat z_api_Instr).Else) x3 x4 x5 x6 x7 x8 x9 x11 x10).bind fun r20 =>
              r_.body_checker_list_go (.s1 x0 x1 (IntKind.i64.wrap (x2 + (1 : Int))) r20.a0 r20.a1 r20.a2 r20.a3 r20.a4 r20.a5 r20.a6 r20.a7 r20.a8)
            | .r6 =>
              (body_checker_memories.f k ((x0.getD x2.toNat z_api_Instr).Op) ((x0.getD x2.toNat z_api_Instr).Type_) ((x0.getD x2.toNat z_api_Instr).Index) ((x0.getD x2.toNat z_api_Instr).Align) ((x0.getD x2.toNat z_api_Instr).Offset) ((x0.getD x2.toNat z_api_Instr).Val) ((x0.getD x2.toNat z_api_Instr).Labels) ((x0.getD x2.toNat z_api_Instr).Body) ((x0.getD x2.toNat z_api_Instr).Else) x3 x4 x5 x6 x7 x8 x9 x11 x10).bind fun r21 =>
              r_.body_checker_list_go (.s1 x0 x1 (IntKind.i64.wrap (x2 + (1 : Int))) r21.a0 r21.a1 r21.a2 r21.a3 r21.a4 r21.a5 r21.a6 r21.a7 r21.a8)
            | .r7 =>
              (body_checker_numbers.f k ((x0.getD x2.toNat z_api_Instr).Op) ((x0.getD x2.toNat z_api_Instr).Type_) ((x0.getD x2.toNat z_api_Instr).Index) ((x0.getD x2.toNat z_api_Instr).Align) ((x0.getD x2.toNat z_api_Instr).Offset) ((x0.getD x2.toNat z_api_Instr).Val) ((x0.getD x2.toNat z_api_Instr).Labels) ((x0.getD x2.toNat z_api_Instr).Body) ((x0.getD x2.toNat z_api_Instr).Else) x3 x4 x5 x6 x7 x8 x9 x11 x10).bind fun r22 =>
              r_.body_checker_list_go (.s1 x0 x1 (IntKind.i64.wrap (x2 + (1 : Int))) r22.a0 r22.a1 r22.a2 r22.a3 r22.a4 r22.a5 r22.a6 r22.a7 r22.a8)
        else
          some (.r0 x3 x4 x5 x6 x7 x8 x9 x10 x11)
      | .s1_1 x0 x1 x2 x3 x4 x5 x6 x7 x8 x9 x10 x11 =>
        if x2 < x1 then
          inB x2 x0.length <|
          if x8 = true then
            some (.r1 x3 x4 x5 x6 x7 x8 x9 x10 x11)
          else
            (body_kind.f k ((x0.getD x2.toNat z_api_Instr).Op)).bind fun r => match r with
            | .r0 =>
              (body_kind_1.f k ((x0.getD x2.toNat z_api_Instr).Op) ((x0.getD x2.toNat z_api_Instr).Type_) ((x0.getD x2.toNat z_api_Instr).Index) ((x0.getD x2.toNat z_api_Instr).Align) ((x0.getD x2.toNat z_api_Instr).Offset) ((x0.getD x2.toNat z_api_Instr).Val) ((x0.getD x2.toNat z_api_Instr).Labels) ((x0.getD x2.toNat z_api_Instr).Body) ((x0.getD x2.toNat z_api_Instr).Else) x3 x4 x5 x6 x7 x8 x9 x10 x11).bind fun r23 =>
              r_.body_checker_list_go (.s1_1 x0 x1 (IntKind.i64.wrap (x2 + (1 : Int))) r23.a0 r23.a1 r23.a2 r23.a3 r23.a4 r23.a5 r23.a6 r23.a7 r23.a8)
            | .r1 =>
              (r_.body_checker_blocks_f ((x0.getD x2.toNat z_api_Instr).Op) ((x0.getD x2.toNat z_api_Instr).Type_) ((x0.getD x2.toNat z_api_Instr).Index) ((x0.getD x2.toNat z_api_Instr).Align) ((x0.getD x2.toNat z_api_Instr).Offset) ((x0.getD x2.toNat z_api_Instr).Val) ((x0.getD x2.toNat z_api_Instr).Labels) ((x0.getD x2.toNat z_api_Instr).Body) ((x0.getD x2.toNat z_api_Instr).Else) x3 x4 x5 x6 x7 x8 x9 x10 x11).bind fun r24 =>
              r_.body_checker_list_go (.s1_1 x0 x1 (IntKind.i64.wrap (x2 + (1 : Int))) r24.a0 r24.a1 r24.a2 r24.a3 r24.a4 r24.a5 r24.a6 r24.a7 r24.a8)
            | .r2 =>
              (body_checker_branches.f k ((x0.getD x2.toNat z_api_Instr).Op) ((x0.getD x2.toNat z_api_Instr).Type_) ((x0.getD x2.toNat z_api_Instr).Index) ((x0.getD x2.toNat z_api_Instr).Align) ((x0.getD x2.toNat z_api_Instr).Offset) ((x0.getD x2.toNat z_api_Instr).Val) ((x0.getD x2.toNat z_api_Instr).Labels) ((x0.getD x2.toNat z_api_Instr).Body) ((x0.getD x2.toNat z_api_Instr).Else) x3 x4 x5 x6 x7 x8 x9 x10 x11).bind fun r25 =>
              r_.body_checker_list_go (.s1_1 x0 x1 (IntKind.i64.wrap (x2 + (1 : Int))) r25.a0 r25.a1 r25.a2 r25.a3 r25.a4 r25.a5 r25.a6 r25.a8 r25.a7)
            | .r3 =>
              (body_checker_calls.f k ((x0.getD x2.toNat z_api_Instr).Op) ((x0.getD x2.toNat z_api_Instr).Type_) ((x0.getD x2.toNat z_api_Instr).Index) ((x0.getD x2.toNat z_api_Instr).Align) ((x0.getD x2.toNat z_api_Instr).Offset) ((x0.getD x2.toNat z_api_Instr).Val) ((x0.getD x2.toNat z_api_Instr).Labels) ((x0.getD x2.toNat z_api_Instr).Body) ((x0.getD x2.toNat z_api_Instr).Else) x3 x4 x5 x6 x7 x8 x9 x10 x11).bind fun r26 =>
              r_.body_checker_list_go (.s1_1 x0 x1 (IntKind.i64.wrap (x2 + (1 : Int))) r26.a0 r26.a1 r26.a2 r26.a3 r26.a4 r26.a5 r26.a6 r26.a8 r26.a7)
            | .r4 =>
              (body_checker_picks.f k ((x0.getD x2.toNat z_api_Instr).Op) ((x0.getD x2.toNat z_api_Instr).Type_) ((x0.getD x2.toNat z_api_Instr).Index) ((x0.getD x2.toNat z_api_Instr).Align) ((x0.getD x2.toNat z_api_Instr).Offset) ((x0.getD x2.toNat z_api_Instr).Val) ((x0.getD x2.toNat z_api_Instr).Labels) ((x0.getD x2.toNat z_api_Instr).Body) ((x0.getD x2.toNat z_api_Instr).Else) x3 x4 x5 x6 x7 x8 x9 x10 x11).bind fun r27 =>
              r_.body_checker_list_go (.s1_1 x0 x1 (IntKind.i64.wrap (x2 + (1 : Int))) r27.a0 r27.a1 r27.a2 r27.a3 r27.a4 r27.a5 r27.a6 r27.a8 r27.a7)
            | .r5 =>
              (body_checker_places.f k ((x0.getD x2.toNat z_api_Instr).Op) ((x0.getD x2.toNat z_api_Instr).Type_) ((x0.getD x2.toNat z_api_Instr).Index) ((x0.getD x2.toNat z_api_Instr).Align) ((x0.getD x2.toNat z_api_Instr).Offset) ((x0.getD x2.toNat z_api_Instr).Val) ((x0.getD x2.toNat z_api_Instr).Labels) ((x0.getD x2.toNat z_api_Instr).Body) ((x0.getD x2.toNat z_api_Instr).Else) x3 x4 x5 x6 x7 x8 x9 x10 x11).bind fun r28 =>
              r_.body_checker_list_go (.s1_1 x0 x1 (IntKind.i64.wrap (x2 + (1 : Int))) r28.a0 r28.a1 r28.a2 r28.a3 r28.a4 r28.a5 r28.a6 r28.a8 r28.a7)
            | .r6 =>
              (body_checker_memories.f k ((x0.getD x2.toNat z_api_Instr).Op) ((x0.getD x2.toNat z_api_Instr).Type_) ((x0.getD x2.toNat z_api_Instr).Index) ((x0.getD x2.toNat z_api_Instr).Align) ((x0.getD x2.toNat z_api_Instr).Offset) ((x0.getD x2.toNat z_api_Instr).Val) ((x0.getD x2.toNat z_api_Instr).Labels) ((x0.getD x2.toNat z_api_Instr).Body) ((x0.getD x2.toNat z_api_Instr).Else) x3 x4 x5 x6 x7 x8 x9 x10 x11).bind fun r29 =>
              r_.body_checker_list_go (.s1_1 x0 x1 (IntKind.i64.wrap (x2 + (1 : Int))) r29.a0 r29.a1 r29.a2 r29.a3 r29.a4 r29.a5 r29.a6 r29.a8 r29.a7)
            | .r7 =>
              (body_checker_numbers.f k ((x0.getD x2.toNat z_api_Instr).Op) ((x0.getD x2.toNat z_api_Instr).Type_) ((x0.getD x2.toNat z_api_Instr).Index) ((x0.getD x2.toNat z_api_Instr).Align) ((x0.getD x2.toNat z_api_Instr).Offset) ((x0.getD x2.toNat z_api_Instr).Val) ((x0.getD x2.toNat z_api_Instr).Labels) ((x0.getD x2.toNat z_api_Instr).Body) ((x0.getD x2.toNat z_api_Instr).Else) x3 x4 x5 x6 x7 x8 x9 x10 x11).bind fun r30 =>
              r_.body_checker_list_go (.s1_1 x0 x1 (IntKind.i64.wrap (x2 + (1 : Int))) r30.a0 r30.a1 r30.a2 r30.a3 r30.a4 r30.a5 r30.a6 r30.a8 r30.a7)
        else
          some (.r1 x3 x4 x5 x6 x7 x8 x9 x10 x11)
  body_checker_block_f := fun (a0 : List api_Instr) (a1 : List Int) (a2 : List Int) (a3 : List api_FuncType) (a4 : List api_FuncType) (a5 : List api_Global) (a6 : Bool) (a7 : Bool) (a8 : Bool) (a9 : List Int) (a10 : List Int) (a11 : List body_frame) =>
      if a11.length + [(⟨a1, a2, (a10.length : Int), false⟩ : body_frame)].length ≤ 2199023255552 then
      (r_.body_checker_list_f a0 a3 a4 a5 a6 a7 a8 a9 a10 (a11 ++ [(⟨a1, a2, (a10.length : Int), false⟩ : body_frame)])).bind fun r => match r with
      | .r0 r31_0 r31_1 r31_2 r31_3 r31_4 r31_5 r31_6 r31_7 r31_8 =>
        (body_checker_takes.f k a2 r31_0 r31_1 r31_2 r31_3 r31_4 r31_5 r31_6 r31_8 r31_7).bind fun r32 =>
        (body_checker_top.f k r32.a0 r32.a1 r32.a2 r32.a3 r32.a4 r32.a5 r32.a6 r32.a8 r32.a7).bind fun r33 =>
        (body_checker_must.f k (decide ((r33.a8.length : Int) = ((r33.a9.getD r33.a0 z_body_frame).high_))) r33.a1 r33.a2 r33.a3 r33.a4 r33.a5 r33.a6 r33.a7 r33.a8 r33.a9).bind fun r34 =>
        if 0 ≤ (if (r34.a7.length : Int) < ((r33.a9.getD r33.a0 z_body_frame).high_) then (r34.a7.length : Int) else (r33.a9.getD r33.a0 z_body_frame).high_) then
        if (if (r34.a7.length : Int) < ((r33.a9.getD r33.a0 z_body_frame).high_) then (r34.a7.length : Int) else (r33.a9.getD r33.a0 z_body_frame).high_) ≤ (r34.a7.length : Int) then
        if 0 ≤ (IntKind.i64.wrap ((r34.a8.length : Int) - (1 : Int))) then
        if (IntKind.i64.wrap ((r34.a8.length : Int) - (1 : Int))) ≤ (r34.a8.length : Int) then
        some ⟨r34.a0, r34.a1, r34.a2, r34.a3, r34.a4, r34.a5, r34.a6, r34.a7.take (if (r34.a7.length : Int) < ((r33.a9.getD r33.a0 z_body_frame).high_) then (r34.a7.length : Int) else (r33.a9.getD r33.a0 z_body_frame).high_).toNat, r34.a8.take (IntKind.i64.wrap ((r34.a8.length : Int) - (1 : Int))).toNat⟩
        else none
        else none
        else none
        else none
      | .r1 r35_0 r35_1 r35_2 r35_3 r35_4 r35_5 r35_6 r35_7 r35_8 =>
        (body_checker_takes.f k a2 r35_0 r35_1 r35_2 r35_3 r35_4 r35_5 r35_6 r35_7 r35_8).bind fun r36 =>
        (body_checker_top.f k r36.a0 r36.a1 r36.a2 r36.a3 r36.a4 r36.a5 r36.a6 r36.a8 r36.a7).bind fun r37 =>
        (body_checker_must.f k (decide ((r37.a8.length : Int) = ((r37.a9.getD r37.a0 z_body_frame).high_))) r37.a1 r37.a2 r37.a3 r37.a4 r37.a5 r37.a6 r37.a7 r37.a8 r37.a9).bind fun r38 =>
        if 0 ≤ (if (r38.a7.length : Int) < ((r37.a9.getD r37.a0 z_body_frame).high_) then (r38.a7.length : Int) else (r37.a9.getD r37.a0 z_body_frame).high_) then
        if (if (r38.a7.length : Int) < ((r37.a9.getD r37.a0 z_body_frame).high_) then (r38.a7.length : Int) else (r37.a9.getD r37.a0 z_body_frame).high_) ≤ (r38.a7.length : Int) then
        if 0 ≤ (IntKind.i64.wrap ((r38.a8.length : Int) - (1 : Int))) then
        if (IntKind.i64.wrap ((r38.a8.length : Int) - (1 : Int))) ≤ (r38.a8.length : Int) then
        some ⟨r38.a0, r38.a1, r38.a2, r38.a3, r38.a4, r38.a5, r38.a6, r38.a7.take (if (r38.a7.length : Int) < ((r37.a9.getD r37.a0 z_body_frame).high_) then (r38.a7.length : Int) else (r37.a9.getD r37.a0 z_body_frame).high_).toNat, r38.a8.take (IntKind.i64.wrap ((r38.a8.length : Int) - (1 : Int))).toNat⟩
        else none
        else none
        else none
        else none
      else none
  body_checker_block_go := fun _ => none
def body_checker_block.fns : Nat → body_checker_block.Fns
  | 0 => ⟨fun _ _ _ _ _ _ _ _ _ _ _ _ _ _ _ _ _ _ => none, fun _ => none, fun _ _ _ _ _ _ _ _ _ _ => none, fun _ => none, fun _ _ _ _ _ _ _ _ _ _ _ _ => none, fun _ => none⟩
  | k + 1 => body_checker_block.step k (body_checker_block.fns k)
def body_checker_blocks.f (k : Nat) (a0 : Int) (a1 : Int) (a2 : Int) (a3 : Int) (a4 : Int) (a5 : Int) (a6 : List Int) (a7 : List api_Instr) (a8 : List api_Instr) (a9 : List api_FuncType) (a10 : List api_FuncType) (a11 : List api_Global) (a12 : Bool) (a13 : Bool) (a14 : Bool) (a15 : List Int) (a16 : List Int) (a17 : List body_frame) : Option body_checker_blocks.R := (body_checker_block.fns k).body_checker_blocks_f a0 a1 a2 a3 a4 a5 a6 a7 a8 a9 a10 a11 a12 a13 a14 a15 a16 a17
def body_checker_blocks.go (k : Nat) (l : body_checker_blocks.L) : Option body_checker_blocks.R := (body_checker_block.fns k).body_checker_blocks_go l
def body_checker_list.f (k : Nat) (a0 : List api_Instr) (a1 : List api_FuncType) (a2 : List api_FuncType) (a3 : List api_Global) (a4 : Bool) (a5 : Bool) (a6 : Bool) (a7 : List Int) (a8 : List Int) (a9 : List body_frame) : Option body_checker_list.R := (body_checker_block.fns k).body_checker_list_f a0 a1 a2 a3 a4 a5 a6 a7 a8 a9
def body_checker_list.go (k : Nat) (l : body_checker_list.L) : Option body_checker_list.R := (body_checker_block.fns k).body_checker_list_go l
def body_checker_block.f (k : Nat) (a0 : List api_Instr) (a1 : List Int) (a2 : List Int) (a3 : List api_FuncType) (a4 : List api_FuncType) (a5 : List api_Global) (a6 : Bool) (a7 : Bool) (a8 : Bool) (a9 : List Int) (a10 : List Int) (a11 : List body_frame) : Option body_checker_block.R := (body_checker_block.fns k).body_checker_block_f a0 a1 a2 a3 a4 a5 a6 a7 a8 a9 a10 a11
def body_checker_block.go (k : Nat) (l : body_checker_block.L) : Option body_checker_block.R := (body_checker_block.fns k).body_checker_block_go l
abbrev body_Check.R : Type := Int
inductive body_Check.L where
def body_Check.go : Nat → body_Check.L → Option body_Check.R := fun _ _ => none
def body_Check.f (k : Nat) (a0 : List api_FuncType) (a1 : List api_FuncType) (a2 : List api_Global) (a3 : Bool) (a4 : Bool) (a5 : List Int) (a6 : List Int) (a7 : List Int) (a8 : List api_Instr) : Option body_Check.R :=
  (body_may.f k a0).bind fun r1 =>
  if (!r1) = true then
    some (100 : Int)
  else
    (body_may.f k a1).bind fun r2 =>
    if (!r2) = true then
      some (100 : Int)
    else
      (body_may.f k [(⟨a5, a6⟩ : api_FuncType)]).bind fun r3 =>
      if (!r3) = true then
        some (100 : Int)
      else
        (body_typed.f k a7).bind fun r4 =>
        if (!r4) = true then
          some (100 : Int)
        else
          (code_Check.f k a8).bind fun r5 =>
          if ¬ r5 = (0 : Int) then
            some (100 : Int)
          else
            (slices_ContainsFunc_api_Global_api_Global.f k a2).bind fun r6 =>
            if r6 = true then
              some (100 : Int)
            else
              (slices_Concat_int_int.f k [a5, a7]).bind fun r7 =>
              if (r7.length : Int) > (64 : Int) then
                some (101 : Int)
              else
                (body_checker_block.f k a8 a6 a6 a0 a1 a2 a3 a4 false r7 [] []).bind fun r8 =>
                if r8.a5 = true then
                  some (101 : Int)
                else
                  some (0 : Int)
abbrev gangwaylaw8_num.R : Type := Int
inductive gangwaylaw8_num.L where
def gangwaylaw8_num.go : Nat → gangwaylaw8_num.L → Option gangwaylaw8_num.R := fun _ _ => none
def gangwaylaw8_num.f (k : Nat) (a0 : Int) : Option gangwaylaw8_num.R :=
  some a0
abbrev gangwaylaw8_wakes.R : Type := Bool
inductive gangwaylaw8_wakes.L where
def gangwaylaw8_wakes.go : Nat → gangwaylaw8_wakes.L → Option gangwaylaw8_wakes.R := fun _ _ => none
def gangwaylaw8_wakes.f (k : Nat) : Option gangwaylaw8_wakes.R :=
  (body_Check.f k [] [] [] false false [] [] [] [(⟨(65 : Int), 0, 0, 0, 0, (1 : Int), [], [], []⟩ : api_Instr), (⟨(26 : Int), 0, 0, 0, 0, 0, [], [], []⟩ : api_Instr)]).bind fun r1 =>
  (gangwaylaw8_num.f k r1).bind fun r2 =>
  if r2 = (0 : Int) then
    if 0 ≤ (1 : Int) then
    if (1 : Int) ≤ ([(⟨(65 : Int), 0, 0, 0, 0, (1 : Int), [], [], []⟩ : api_Instr), (⟨(26 : Int), 0, 0, 0, 0, 0, [], [], []⟩ : api_Instr)].length : Int) then
    (body_Check.f k [] [] [] false false [] [] [] ([(⟨(65 : Int), 0, 0, 0, 0, (1 : Int), [], [], []⟩ : api_Instr), (⟨(26 : Int), 0, 0, 0, 0, 0, [], [], []⟩ : api_Instr)].drop (1 : Int).toNat)).bind fun r3 =>
    (gangwaylaw8_num.f k r3).bind fun r4 =>
    some (decide (r4 = (101 : Int)))
    else none
    else none
  else
    some false
abbrev gangwayref0_CopyNumbers.R : Type := List Int
inductive gangwayref0_CopyNumbers.L where
  | s3 (x0 : List Int) (x1 : Int) (x2 : List Int)
def gangwayref0_CopyNumbers.go : Nat → gangwayref0_CopyNumbers.L → Option gangwayref0_CopyNumbers.R
  | 0, _ => none
  | k + 1, .s3 x0 x1 x2 =>
    if x1 < (x0.length : Int) then
      inB x1 x0.length <|
      if x2.length + [x0.getD x1.toNat (0 : Int)].length ≤ 17592186044416 then
      gangwayref0_CopyNumbers.go k (.s3 x0 (IntKind.i64.wrap (x1 + (1 : Int))) (x2 ++ [x0.getD x1.toNat (0 : Int)]))
      else none
    else
      some x2
def gangwayref0_CopyNumbers.f (k : Nat) (a0 : List Int) : Option gangwayref0_CopyNumbers.R :=
  gangwayref0_CopyNumbers.go k (.s3 a0 (0 : Int) [])
structure gangwayref7_checker_top.R where
  a0 : Nat
  a1 : List api_FuncType
  a2 : List api_FuncType
  a3 : List api_Global
  a4 : Bool
  a5 : Bool
  a6 : Bool
  a7 : List Int
  a8 : List Int
  a9 : List gangwayref7_frame
inductive gangwayref7_checker_top.L where
def gangwayref7_checker_top.go : Nat → gangwayref7_checker_top.L → Option gangwayref7_checker_top.R := fun _ _ => none
def gangwayref7_checker_top.f (k : Nat) (a0 : List api_FuncType) (a1 : List api_FuncType) (a2 : List api_Global) (a3 : Bool) (a4 : Bool) (a5 : Bool) (a6 : List Int) (a7 : List Int) (a8 : List gangwayref7_frame) : Option gangwayref7_checker_top.R :=
  inB (IntKind.i64.wrap ((a8.length : Int) - (1 : Int))) a8.length <|
  some ⟨(IntKind.i64.wrap ((a8.length : Int) - (1 : Int))).toNat, a0, a1, a2, a3, a4, a5, a6, a7, a8⟩
structure gangwayref7_checker_die.R where
  a0 : List api_FuncType
  a1 : List api_FuncType
  a2 : List api_Global
  a3 : Bool
  a4 : Bool
  a5 : Bool
  a6 : List Int
  a7 : List gangwayref7_frame
  a8 : List Int
inductive gangwayref7_checker_die.L where
def gangwayref7_checker_die.go : Nat → gangwayref7_checker_die.L → Option gangwayref7_checker_die.R := fun _ _ => none
def gangwayref7_checker_die.f (k : Nat) (a0 : List api_FuncType) (a1 : List api_FuncType) (a2 : List api_Global) (a3 : Bool) (a4 : Bool) (a5 : Bool) (a6 : List Int) (a7 : List Int) (a8 : List gangwayref7_frame) : Option gangwayref7_checker_die.R :=
  (gangwayref7_checker_top.f k a0 a1 a2 a3 a4 a5 a6 a7 a8).bind fun r1 =>
  if 0 ≤ ((r1.a9.getD r1.a0 z_gangwayref7_frame).height_) then
  if ((r1.a9.getD r1.a0 z_gangwayref7_frame).height_) ≤ (r1.a8.length : Int) then
  some ⟨r1.a1, r1.a2, r1.a3, r1.a4, r1.a5, r1.a6, r1.a7, r1.a9.set r1.a0 (⟨(r1.a9.getD r1.a0 z_gangwayref7_frame).label_, (r1.a9.getD r1.a0 z_gangwayref7_frame).result_, (r1.a9.getD r1.a0 z_gangwayref7_frame).height_, true⟩ : gangwayref7_frame), r1.a8.take ((r1.a9.getD r1.a0 z_gangwayref7_frame).height_).toNat⟩
  else none
  else none
abbrev gangwayref7_result.R : Type := List Int
inductive gangwayref7_result.L where
def gangwayref7_result.go : Nat → gangwayref7_result.L → Option gangwayref7_result.R := fun _ _ => none
def gangwayref7_result.f (k : Nat) (a0 : Int) : Option gangwayref7_result.R :=
  if a0 = (64 : Int) then
    some []
  else
    some [a0]
structure gangwayref7_checker_put.R where
  a0 : List api_FuncType
  a1 : List api_FuncType
  a2 : List api_Global
  a3 : Bool
  a4 : Bool
  a5 : Bool
  a6 : List Int
  a7 : List gangwayref7_frame
  a8 : List Int
inductive gangwayref7_checker_put.L where
def gangwayref7_checker_put.go : Nat → gangwayref7_checker_put.L → Option gangwayref7_checker_put.R := fun _ _ => none
def gangwayref7_checker_put.f (k : Nat) (a0 : Int) (a1 : List api_FuncType) (a2 : List api_FuncType) (a3 : List api_Global) (a4 : Bool) (a5 : Bool) (a6 : Bool) (a7 : List Int) (a8 : List Int) (a9 : List gangwayref7_frame) : Option gangwayref7_checker_put.R :=
  if a8.length + [a0].length ≤ 17592186044416 then
  some ⟨a1, a2, a3, a4, a5, a6, a7, a9, a8 ++ [a0]⟩
  else none
structure gangwayref7_checker_puts.R where
  a0 : List api_FuncType
  a1 : List api_FuncType
  a2 : List api_Global
  a3 : Bool
  a4 : Bool
  a5 : Bool
  a6 : List Int
  a7 : List gangwayref7_frame
  a8 : List Int
inductive gangwayref7_checker_puts.L where
  | s1 (x0 : List Int) (x1 : Int) (x2 : List api_FuncType) (x3 : List api_FuncType) (x4 : List api_Global) (x5 : Bool) (x6 : Bool) (x7 : Bool) (x8 : List Int) (x9 : List gangwayref7_frame) (x10 : List Int)
def gangwayref7_checker_puts.go : Nat → gangwayref7_checker_puts.L → Option gangwayref7_checker_puts.R
  | 0, _ => none
  | k + 1, .s1 x0 x1 x2 x3 x4 x5 x6 x7 x8 x9 x10 =>
    if x1 < (x0.length : Int) then
      inB x1 x0.length <|
      (gangwayref7_checker_put.f k (x0.getD x1.toNat (0 : Int)) x2 x3 x4 x5 x6 x7 x8 x10 x9).bind fun r1 =>
      gangwayref7_checker_puts.go k (.s1 x0 (IntKind.i64.wrap (x1 + (1 : Int))) r1.a0 r1.a1 r1.a2 r1.a3 r1.a4 r1.a5 r1.a6 r1.a7 r1.a8)
    else
      some ⟨x2, x3, x4, x5, x6, x7, x8, x9, x10⟩
def gangwayref7_checker_puts.f (k : Nat) (a0 : List Int) (a1 : List api_FuncType) (a2 : List api_FuncType) (a3 : List api_Global) (a4 : Bool) (a5 : Bool) (a6 : Bool) (a7 : List Int) (a8 : List Int) (a9 : List gangwayref7_frame) : Option gangwayref7_checker_puts.R :=
  gangwayref7_checker_puts.go k (.s1 a0 (0 : Int) a1 a2 a3 a4 a5 a6 a7 a9 a8)
structure gangwayref7_checker_take.R where
  a0 : Int
  a1 : List api_FuncType
  a2 : List api_FuncType
  a3 : List api_Global
  a4 : Bool
  a5 : Bool
  a6 : Bool
  a7 : List Int
  a8 : List gangwayref7_frame
  a9 : List Int
inductive gangwayref7_checker_take.L where
def gangwayref7_checker_take.go : Nat → gangwayref7_checker_take.L → Option gangwayref7_checker_take.R := fun _ _ => none
def gangwayref7_checker_take.f (k : Nat) (a0 : Int) (a1 : List api_FuncType) (a2 : List api_FuncType) (a3 : List api_Global) (a4 : Bool) (a5 : Bool) (a6 : Bool) (a7 : List Int) (a8 : List Int) (a9 : List gangwayref7_frame) : Option gangwayref7_checker_take.R :=
  (gangwayref7_checker_top.f k a1 a2 a3 a4 a5 a6 a7 a8 a9).bind fun r1 =>
  if (r1.a8.length : Int) = ((r1.a9.getD r1.a0 z_gangwayref7_frame).height_) then
    if (!((r1.a9.getD r1.a0 z_gangwayref7_frame).dead_)) = true then
      some ⟨a0, r1.a1, r1.a2, r1.a3, r1.a4, r1.a5, true, r1.a7, r1.a9, r1.a8⟩
    else
      some ⟨a0, r1.a1, r1.a2, r1.a3, r1.a4, r1.a5, r1.a6, r1.a7, r1.a9, r1.a8⟩
  else
    inB (IntKind.i64.wrap ((r1.a8.length : Int) - (1 : Int))) r1.a8.length <|
    if 0 ≤ (IntKind.i64.wrap ((r1.a8.length : Int) - (1 : Int))) then
    if (IntKind.i64.wrap ((r1.a8.length : Int) - (1 : Int))) ≤ (r1.a8.length : Int) then
    if ¬ (r1.a8.getD ((IntKind.i64.wrap ((r1.a8.length : Int) - (1 : Int))).toNat) (0 : Int)) = a0 then
      if ¬ (r1.a8.getD ((IntKind.i64.wrap ((r1.a8.length : Int) - (1 : Int))).toNat) (0 : Int)) = (0 : Int) then
        if ¬ a0 = (0 : Int) then
          if (r1.a8.getD ((IntKind.i64.wrap ((r1.a8.length : Int) - (1 : Int))).toNat) (0 : Int)) = (0 : Int) then
            some ⟨a0, r1.a1, r1.a2, r1.a3, r1.a4, r1.a5, true, r1.a7, r1.a9, r1.a8.take (IntKind.i64.wrap ((r1.a8.length : Int) - (1 : Int))).toNat⟩
          else
            some ⟨r1.a8.getD ((IntKind.i64.wrap ((r1.a8.length : Int) - (1 : Int))).toNat) (0 : Int), r1.a1, r1.a2, r1.a3, r1.a4, r1.a5, true, r1.a7, r1.a9, r1.a8.take (IntKind.i64.wrap ((r1.a8.length : Int) - (1 : Int))).toNat⟩
        else
          if (r1.a8.getD ((IntKind.i64.wrap ((r1.a8.length : Int) - (1 : Int))).toNat) (0 : Int)) = (0 : Int) then
            some ⟨a0, r1.a1, r1.a2, r1.a3, r1.a4, r1.a5, r1.a6, r1.a7, r1.a9, r1.a8.take (IntKind.i64.wrap ((r1.a8.length : Int) - (1 : Int))).toNat⟩
          else
            some ⟨r1.a8.getD ((IntKind.i64.wrap ((r1.a8.length : Int) - (1 : Int))).toNat) (0 : Int), r1.a1, r1.a2, r1.a3, r1.a4, r1.a5, r1.a6, r1.a7, r1.a9, r1.a8.take (IntKind.i64.wrap ((r1.a8.length : Int) - (1 : Int))).toNat⟩
      else
        if (r1.a8.getD ((IntKind.i64.wrap ((r1.a8.length : Int) - (1 : Int))).toNat) (0 : Int)) = (0 : Int) then
          some ⟨a0, r1.a1, r1.a2, r1.a3, r1.a4, r1.a5, r1.a6, r1.a7, r1.a9, r1.a8.take (IntKind.i64.wrap ((r1.a8.length : Int) - (1 : Int))).toNat⟩
        else
          some ⟨r1.a8.getD ((IntKind.i64.wrap ((r1.a8.length : Int) - (1 : Int))).toNat) (0 : Int), r1.a1, r1.a2, r1.a3, r1.a4, r1.a5, r1.a6, r1.a7, r1.a9, r1.a8.take (IntKind.i64.wrap ((r1.a8.length : Int) - (1 : Int))).toNat⟩
    else
      if (r1.a8.getD ((IntKind.i64.wrap ((r1.a8.length : Int) - (1 : Int))).toNat) (0 : Int)) = (0 : Int) then
        some ⟨a0, r1.a1, r1.a2, r1.a3, r1.a4, r1.a5, r1.a6, r1.a7, r1.a9, r1.a8.take (IntKind.i64.wrap ((r1.a8.length : Int) - (1 : Int))).toNat⟩
      else
        some ⟨r1.a8.getD ((IntKind.i64.wrap ((r1.a8.length : Int) - (1 : Int))).toNat) (0 : Int), r1.a1, r1.a2, r1.a3, r1.a4, r1.a5, r1.a6, r1.a7, r1.a9, r1.a8.take (IntKind.i64.wrap ((r1.a8.length : Int) - (1 : Int))).toNat⟩
    else none
    else none
structure gangwayref7_checker_takes.R where
  a0 : List api_FuncType
  a1 : List api_FuncType
  a2 : List api_Global
  a3 : Bool
  a4 : Bool
  a5 : Bool
  a6 : List Int
  a7 : List gangwayref7_frame
  a8 : List Int
inductive gangwayref7_checker_takes.L where
  | s1 (x0 : List Int) (x1 : Int) (x2 : List api_FuncType) (x3 : List api_FuncType) (x4 : List api_Global) (x5 : Bool) (x6 : Bool) (x7 : Bool) (x8 : List Int) (x9 : List gangwayref7_frame) (x10 : List Int)
def gangwayref7_checker_takes.go : Nat → gangwayref7_checker_takes.L → Option gangwayref7_checker_takes.R
  | 0, _ => none
  | k + 1, .s1 x0 x1 x2 x3 x4 x5 x6 x7 x8 x9 x10 =>
    if x1 ≥ (0 : Int) then
      inB x1 x0.length <|
      (gangwayref7_checker_take.f k (x0.getD x1.toNat (0 : Int)) x2 x3 x4 x5 x6 x7 x8 x10 x9).bind fun r1 =>
      gangwayref7_checker_takes.go k (.s1 x0 (IntKind.i64.wrap (x1 - (1 : Int))) r1.a1 r1.a2 r1.a3 r1.a4 r1.a5 r1.a6 r1.a7 r1.a8 r1.a9)
    else
      some ⟨x2, x3, x4, x5, x6, x7, x8, x9, x10⟩
def gangwayref7_checker_takes.f (k : Nat) (a0 : List Int) (a1 : List api_FuncType) (a2 : List api_FuncType) (a3 : List api_Global) (a4 : Bool) (a5 : Bool) (a6 : Bool) (a7 : List Int) (a8 : List Int) (a9 : List gangwayref7_frame) : Option gangwayref7_checker_takes.R :=
  gangwayref7_checker_takes.go k (.s1 a0 (IntKind.i64.wrap ((a0.length : Int) - (1 : Int))) a1 a2 a3 a4 a5 a6 a7 a9 a8)
inductive gangwayref7_checker_label.R where
  | r0 (a0 : Bool) (a1 : List api_FuncType) (a2 : List api_FuncType) (a3 : List api_Global) (a4 : Bool) (a5 : Bool) (a6 : Bool) (a7 : List Int) (a8 : List Int) (a9 : List gangwayref7_frame) (a10 : List Int)
  | r1 (a0 : List Int) (a1 : Bool) (a2 : List api_FuncType) (a3 : List api_FuncType) (a4 : List api_Global) (a5 : Bool) (a6 : Bool) (a7 : Bool) (a8 : List Int) (a9 : List Int) (a10 : List gangwayref7_frame)
inductive gangwayref7_checker_label.L where
def gangwayref7_checker_label.go : Nat → gangwayref7_checker_label.L → Option gangwayref7_checker_label.R := fun _ _ => none
def gangwayref7_checker_label.f (k : Nat) (a0 : Int) (a1 : List api_FuncType) (a2 : List api_FuncType) (a3 : List api_Global) (a4 : Bool) (a5 : Bool) (a6 : Bool) (a7 : List Int) (a8 : List Int) (a9 : List gangwayref7_frame) : Option gangwayref7_checker_label.R :=
  if a0 ≥ (a9.length : Int) then
    some (.r0 false a1 a2 a3 a4 a5 true a7 a8 a9 [])
  else
    inB (IntKind.i64.wrap ((IntKind.i64.wrap ((a9.length : Int) - (1 : Int))) - a0)) a9.length <|
    some (.r1 ((a9.getD ((IntKind.i64.wrap ((IntKind.i64.wrap ((a9.length : Int) - (1 : Int))) - a0)).toNat) z_gangwayref7_frame).label_) true a1 a2 a3 a4 a5 a6 a7 a8 a9)
abbrev gangwayref0_EqNumbers.R : Type := Bool
inductive gangwayref0_EqNumbers.L where
  | s4 (x0 : List Int) (x1 : List Int) (x2 : Int)
def gangwayref0_EqNumbers.go : Nat → gangwayref0_EqNumbers.L → Option gangwayref0_EqNumbers.R
  | 0, _ => none
  | k + 1, .s4 x0 x1 x2 =>
    if x2 < (x0.length : Int) then
      inB x2 x0.length <|
      inB x2 x1.length <|
      if ¬ (x0.getD x2.toNat (0 : Int)) = (x1.getD x2.toNat (0 : Int)) then
        some false
      else
        gangwayref0_EqNumbers.go k (.s4 x0 x1 (IntKind.i64.wrap (x2 + (1 : Int))))
    else
      some true
def gangwayref0_EqNumbers.f (k : Nat) (a0 : List Int) (a1 : List Int) : Option gangwayref0_EqNumbers.R :=
  if ¬ (a0.length : Int) = (a1.length : Int) then
    some false
  else
    gangwayref0_EqNumbers.go k (.s4 a0 a1 (0 : Int))
structure gangwayref7_checker_branch.R where
  a0 : List api_FuncType
  a1 : List api_FuncType
  a2 : List api_Global
  a3 : Bool
  a4 : Bool
  a5 : Bool
  a6 : List Int
  a7 : List gangwayref7_frame
  a8 : List Int
inductive gangwayref7_checker_branch.L where
  | s6 (x0 : Int) (x1 : List api_FuncType) (x2 : List api_FuncType) (x3 : List api_Global) (x4 : Bool) (x5 : Bool) (x6 : Bool) (x7 : List Int) (x8 : List gangwayref7_frame) (x9 : List Int) (x10 : Int) (x11 : Int) (x12 : Int) (x13 : Int) (x14 : Int) (x15 : Int) (x16 : List Int) (x17 : List api_Instr) (x18 : List api_Instr) (x19 : List Int)
  | s6_1 (x0 : List Int) (x1 : Int) (x2 : List api_FuncType) (x3 : List api_FuncType) (x4 : List api_Global) (x5 : Bool) (x6 : Bool) (x7 : Bool) (x8 : List Int) (x9 : List gangwayref7_frame) (x10 : List Int) (x11 : Int) (x12 : Int) (x13 : Int) (x14 : Int) (x15 : Int) (x16 : Int) (x17 : List Int) (x18 : List api_Instr) (x19 : List api_Instr)
def gangwayref7_checker_branch.go : Nat → gangwayref7_checker_branch.L → Option gangwayref7_checker_branch.R
  | 0, _ => none
  | k + 1, .s6 x0 x1 x2 x3 x4 x5 x6 x7 x8 x9 x10 x11 x12 x13 x14 x15 x16 x17 x18 x19 =>
    if x0 < (x16.length : Int) then
      inB x0 x16.length <|
      (gangwayref7_checker_label.f k (x16.getD x0.toNat (0 : Int)) x1 x2 x3 x4 x5 x6 x7 x9 x8).bind fun r => match r with
      | .r0 r1_0 r1_1 r1_2 r1_3 r1_4 r1_5 r1_6 r1_7 r1_8 r1_9 r1_10 =>
        if (!r1_0) = true then
          some ⟨r1_1, r1_2, r1_3, r1_4, r1_5, true, r1_7, r1_9, r1_8⟩
        else
          (gangwayref0_EqNumbers.f k r1_10 x19).bind fun r2 =>
          if (!r2) = true then
            some ⟨r1_1, r1_2, r1_3, r1_4, r1_5, true, r1_7, r1_9, r1_8⟩
          else
            gangwayref7_checker_branch.go k (.s6 (IntKind.i64.wrap (x0 + (1 : Int))) r1_1 r1_2 r1_3 r1_4 r1_5 r1_6 r1_7 r1_9 r1_8 x10 x11 x12 x13 x14 x15 x16 x17 x18 x19)
      | .r1 r3_0 r3_1 r3_2 r3_3 r3_4 r3_5 r3_6 r3_7 r3_8 r3_9 r3_10 =>
        if (!r3_1) = true then
          some ⟨r3_2, r3_3, r3_4, r3_5, r3_6, true, r3_8, r3_10, r3_9⟩
        else
          (gangwayref0_EqNumbers.f k r3_0 x19).bind fun r4 =>
          if (!r4) = true then
            some ⟨r3_2, r3_3, r3_4, r3_5, r3_6, true, r3_8, r3_10, r3_9⟩
          else
            gangwayref7_checker_branch.go k (.s6 (IntKind.i64.wrap (x0 + (1 : Int))) r3_2 r3_3 r3_4 r3_5 r3_6 r3_7 r3_8 r3_10 r3_9 x10 x11 x12 x13 x14 x15 x16 x17 x18 x19)
    else
      (gangwayref7_checker_takes.f k x19 x1 x2 x3 x4 x5 x6 x7 x9 x8).bind fun r5 =>
      if x10 = (13 : Int) then
        (gangwayref7_checker_puts.f k x19 r5.a0 r5.a1 r5.a2 r5.a3 r5.a4 r5.a5 r5.a6 r5.a8 r5.a7).bind fun r6 =>
        some ⟨r6.a0, r6.a1, r6.a2, r6.a3, r6.a4, r6.a5, r6.a6, r6.a7, r6.a8⟩
      else
        (gangwayref7_checker_die.f k r5.a0 r5.a1 r5.a2 r5.a3 r5.a4 r5.a5 r5.a6 r5.a8 r5.a7).bind fun r7 =>
        some ⟨r7.a0, r7.a1, r7.a2, r7.a3, r7.a4, r7.a5, r7.a6, r7.a7, r7.a8⟩
  | k + 1, .s6_1 x0 x1 x2 x3 x4 x5 x6 x7 x8 x9 x10 x11 x12 x13 x14 x15 x16 x17 x18 x19 =>
    if x1 < (x17.length : Int) then
      inB x1 x17.length <|
      (gangwayref7_checker_label.f k (x17.getD x1.toNat (0 : Int)) x2 x3 x4 x5 x6 x7 x8 x10 x9).bind fun r => match r with
      | .r0 r8_0 r8_1 r8_2 r8_3 r8_4 r8_5 r8_6 r8_7 r8_8 r8_9 r8_10 =>
        if (!r8_0) = true then
          some ⟨r8_1, r8_2, r8_3, r8_4, r8_5, true, r8_7, r8_9, r8_8⟩
        else
          (gangwayref0_EqNumbers.f k r8_10 x0).bind fun r9 =>
          if (!r9) = true then
            some ⟨r8_1, r8_2, r8_3, r8_4, r8_5, true, r8_7, r8_9, r8_8⟩
          else
            gangwayref7_checker_branch.go k (.s6_1 x0 (IntKind.i64.wrap (x1 + (1 : Int))) r8_1 r8_2 r8_3 r8_4 r8_5 r8_6 r8_7 r8_9 r8_8 x11 x12 x13 x14 x15 x16 x17 x18 x19)
      | .r1 r10_0 r10_1 r10_2 r10_3 r10_4 r10_5 r10_6 r10_7 r10_8 r10_9 r10_10 =>
        if (!r10_1) = true then
          some ⟨r10_2, r10_3, r10_4, r10_5, r10_6, true, r10_8, r10_10, r10_9⟩
        else
          (gangwayref0_EqNumbers.f k r10_0 x0).bind fun r11 =>
          if (!r11) = true then
            some ⟨r10_2, r10_3, r10_4, r10_5, r10_6, true, r10_8, r10_10, r10_9⟩
          else
            gangwayref7_checker_branch.go k (.s6_1 x0 (IntKind.i64.wrap (x1 + (1 : Int))) r10_2 r10_3 r10_4 r10_5 r10_6 r10_7 r10_8 r10_10 r10_9 x11 x12 x13 x14 x15 x16 x17 x18 x19)
    else
      (gangwayref7_checker_takes.f k x0 x2 x3 x4 x5 x6 x7 x8 x10 x9).bind fun r12 =>
      if x11 = (13 : Int) then
        (gangwayref7_checker_puts.f k x0 r12.a0 r12.a1 r12.a2 r12.a3 r12.a4 r12.a5 r12.a6 r12.a8 r12.a7).bind fun r13 =>
        some ⟨r13.a0, r13.a1, r13.a2, r13.a3, r13.a4, r13.a5, r13.a6, r13.a7, r13.a8⟩
      else
        (gangwayref7_checker_die.f k r12.a0 r12.a1 r12.a2 r12.a3 r12.a4 r12.a5 r12.a6 r12.a8 r12.a7).bind fun r14 =>
        some ⟨r14.a0, r14.a1, r14.a2, r14.a3, r14.a4, r14.a5, r14.a6, r14.a7, r14.a8⟩
def gangwayref7_checker_branch.f (k : Nat) (a0 : Int) (a1 : Int) (a2 : Int) (a3 : Int) (a4 : Int) (a5 : Int) (a6 : List Int) (a7 : List api_Instr) (a8 : List api_Instr) (a9 : List api_FuncType) (a10 : List api_FuncType) (a11 : List api_Global) (a12 : Bool) (a13 : Bool) (a14 : Bool) (a15 : List Int) (a16 : List Int) (a17 : List gangwayref7_frame) : Option gangwayref7_checker_branch.R :=
  (gangwayref7_checker_label.f k a2 a9 a10 a11 a12 a13 a14 a15 a16 a17).bind fun r => match r with
  | .r0 r1_0 r1_1 r1_2 r1_3 r1_4 r1_5 r1_6 r1_7 r1_8 r1_9 r1_10 =>
    if (!r1_0) = true then
      some ⟨r1_1, r1_2, r1_3, r1_4, r1_5, r1_6, r1_7, r1_9, r1_8⟩
    else
      if ¬ a0 = (12 : Int) then
        (gangwayref7_checker_take.f k (127 : Int) r1_1 r1_2 r1_3 r1_4 r1_5 r1_6 r1_7 r1_8 r1_9).bind fun r2 =>
        gangwayref7_checker_branch.go k (.s6 (0 : Int) r2.a1 r2.a2 r2.a3 r2.a4 r2.a5 r2.a6 r2.a7 r2.a8 r2.a9 a0 a1 a2 a3 a4 a5 a6 a7 a8 r1_10)
      else
        gangwayref7_checker_branch.go k (.s6 (0 : Int) r1_1 r1_2 r1_3 r1_4 r1_5 r1_6 r1_7 r1_9 r1_8 a0 a1 a2 a3 a4 a5 a6 a7 a8 r1_10)
  | .r1 r3_0 r3_1 r3_2 r3_3 r3_4 r3_5 r3_6 r3_7 r3_8 r3_9 r3_10 =>
    if (!r3_1) = true then
      some ⟨r3_2, r3_3, r3_4, r3_5, r3_6, r3_7, r3_8, r3_10, r3_9⟩
    else
      if ¬ a0 = (12 : Int) then
        (gangwayref7_checker_take.f k (127 : Int) r3_2 r3_3 r3_4 r3_5 r3_6 r3_7 r3_8 r3_9 r3_10).bind fun r4 =>
        gangwayref7_checker_branch.go k (.s6_1 r3_0 (0 : Int) r4.a1 r4.a2 r4.a3 r4.a4 r4.a5 r4.a6 r4.a7 r4.a8 r4.a9 a0 a1 a2 a3 a4 a5 a6 a7 a8)
      else
        gangwayref7_checker_branch.go k (.s6_1 r3_0 (0 : Int) r3_2 r3_3 r3_4 r3_5 r3_6 r3_7 r3_8 r3_10 r3_9 a0 a1 a2 a3 a4 a5 a6 a7 a8)
structure gangwayref7_checker_need.R where
  a0 : Bool
  a1 : List api_FuncType
  a2 : List api_FuncType
  a3 : List api_Global
  a4 : Bool
  a5 : Bool
  a6 : Bool
  a7 : List Int
  a8 : List Int
  a9 : List gangwayref7_frame
inductive gangwayref7_checker_need.L where
def gangwayref7_checker_need.go : Nat → gangwayref7_checker_need.L → Option gangwayref7_checker_need.R := fun _ _ => none
def gangwayref7_checker_need.f (k : Nat) (a0 : Bool) (a1 : List api_FuncType) (a2 : List api_FuncType) (a3 : List api_Global) (a4 : Bool) (a5 : Bool) (a6 : Bool) (a7 : List Int) (a8 : List Int) (a9 : List gangwayref7_frame) : Option gangwayref7_checker_need.R :=
  if (!a0) = true then
    some ⟨a0, a1, a2, a3, a4, a5, true, a7, a8, a9⟩
  else
    some ⟨a0, a1, a2, a3, a4, a5, a6, a7, a8, a9⟩
structure gangwayref7_checker_call.R where
  a0 : List api_FuncType
  a1 : List api_FuncType
  a2 : List api_Global
  a3 : Bool
  a4 : Bool
  a5 : Bool
  a6 : List Int
  a7 : List gangwayref7_frame
  a8 : List Int
inductive gangwayref7_checker_call.L where
def gangwayref7_checker_call.go : Nat → gangwayref7_checker_call.L → Option gangwayref7_checker_call.R := fun _ _ => none
def gangwayref7_checker_call.f (k : Nat) (a0 : List Int) (a1 : List Int) (a2 : List api_FuncType) (a3 : List api_FuncType) (a4 : List api_Global) (a5 : Bool) (a6 : Bool) (a7 : Bool) (a8 : List Int) (a9 : List Int) (a10 : List gangwayref7_frame) : Option gangwayref7_checker_call.R :=
  (gangwayref7_checker_takes.f k a0 a2 a3 a4 a5 a6 a7 a8 a9 a10).bind fun r1 =>
  (gangwayref7_checker_puts.f k a1 r1.a0 r1.a1 r1.a2 r1.a3 r1.a4 r1.a5 r1.a6 r1.a8 r1.a7).bind fun r2 =>
  some ⟨r2.a0, r2.a1, r2.a2, r2.a3, r2.a4, r2.a5, r2.a6, r2.a7, r2.a8⟩
structure gangwayref7_checker_variable.R where
  a0 : List api_FuncType
  a1 : List api_FuncType
  a2 : List api_Global
  a3 : Bool
  a4 : Bool
  a5 : Bool
  a6 : List Int
  a7 : List gangwayref7_frame
  a8 : List Int
inductive gangwayref7_checker_variable.L where
def gangwayref7_checker_variable.go : Nat → gangwayref7_checker_variable.L → Option gangwayref7_checker_variable.R := fun _ _ => none
def gangwayref7_checker_variable.f (k : Nat) (a0 : Int) (a1 : Int) (a2 : Int) (a3 : Int) (a4 : Int) (a5 : Int) (a6 : List Int) (a7 : List api_Instr) (a8 : List api_Instr) (a9 : List api_FuncType) (a10 : List api_FuncType) (a11 : List api_Global) (a12 : Bool) (a13 : Bool) (a14 : Bool) (a15 : List Int) (a16 : List Int) (a17 : List gangwayref7_frame) : Option gangwayref7_checker_variable.R :=
  if a0 ≥ (35 : Int) then
    (gangwayref7_checker_need.f k (decide (a2 < (a11.length : Int))) a9 a10 a11 a12 a13 a14 a15 a16 a17).bind fun r1 =>
    if (!r1.a0) = true then
      some ⟨r1.a1, r1.a2, r1.a3, r1.a4, r1.a5, r1.a6, r1.a7, r1.a9, r1.a8⟩
    else
      inB a2 r1.a3.length <|
      if a0 = (35 : Int) then
        (gangwayref7_checker_put.f k ((r1.a3.getD a2.toNat z_api_Global).Type_) r1.a1 r1.a2 r1.a3 r1.a4 r1.a5 r1.a6 r1.a7 r1.a8 r1.a9).bind fun r2 =>
        some ⟨r2.a0, r2.a1, r2.a2, r2.a3, r2.a4, r2.a5, r2.a6, r2.a7, r2.a8⟩
      else
        (gangwayref7_checker_need.f k ((r1.a3.getD a2.toNat z_api_Global).Mut) r1.a1 r1.a2 r1.a3 r1.a4 r1.a5 r1.a6 r1.a7 r1.a8 r1.a9).bind fun r3 =>
        if r3.a0 = true then
          (gangwayref7_checker_take.f k ((r1.a3.getD a2.toNat z_api_Global).Type_) r3.a1 r3.a2 r3.a3 r3.a4 r3.a5 r3.a6 r3.a7 r3.a8 r3.a9).bind fun r4 =>
          some ⟨r4.a1, r4.a2, r4.a3, r4.a4, r4.a5, r4.a6, r4.a7, r4.a8, r4.a9⟩
        else
          some ⟨r3.a1, r3.a2, r3.a3, r3.a4, r3.a5, r3.a6, r3.a7, r3.a9, r3.a8⟩
  else
    (gangwayref7_checker_need.f k (decide (a2 < (a15.length : Int))) a9 a10 a11 a12 a13 a14 a15 a16 a17).bind fun r5 =>
    if (!r5.a0) = true then
      some ⟨r5.a1, r5.a2, r5.a3, r5.a4, r5.a5, r5.a6, r5.a7, r5.a9, r5.a8⟩
    else
      inB a2 r5.a7.length <|
      if ¬ a0 = (32 : Int) then
        (gangwayref7_checker_take.f k (r5.a7.getD a2.toNat (0 : Int)) r5.a1 r5.a2 r5.a3 r5.a4 r5.a5 r5.a6 r5.a7 r5.a8 r5.a9).bind fun r6 =>
        if ¬ a0 = (33 : Int) then
          (gangwayref7_checker_put.f k (r5.a7.getD a2.toNat (0 : Int)) r6.a1 r6.a2 r6.a3 r6.a4 r6.a5 r6.a6 r6.a7 r6.a9 r6.a8).bind fun r7 =>
          some ⟨r7.a0, r7.a1, r7.a2, r7.a3, r7.a4, r7.a5, r7.a6, r7.a7, r7.a8⟩
        else
          some ⟨r6.a1, r6.a2, r6.a3, r6.a4, r6.a5, r6.a6, r6.a7, r6.a8, r6.a9⟩
      else
        if ¬ a0 = (33 : Int) then
          (gangwayref7_checker_put.f k (r5.a7.getD a2.toNat (0 : Int)) r5.a1 r5.a2 r5.a3 r5.a4 r5.a5 r5.a6 r5.a7 r5.a8 r5.a9).bind fun r8 =>
          some ⟨r8.a0, r8.a1, r8.a2, r8.a3, r8.a4, r8.a5, r8.a6, r8.a7, r8.a8⟩
        else
          some ⟨r5.a1, r5.a2, r5.a3, r5.a4, r5.a5, r5.a6, r5.a7, r5.a9, r5.a8⟩
abbrev gangwayref7_Width.R : Type := Int × Int
inductive gangwayref7_Width.L where
def gangwayref7_Width.go : Nat → gangwayref7_Width.L → Option gangwayref7_Width.R := fun _ _ => none
def gangwayref7_Width.f (k : Nat) (a0 : Int) : Option gangwayref7_Width.R :=
  if a0 = (40 : Int) then
    some ((4 : Int), (127 : Int))
  else
    if a0 = (54 : Int) then
      some ((4 : Int), (127 : Int))
    else
      if a0 = (41 : Int) then
        some ((8 : Int), (126 : Int))
      else
        if a0 = (55 : Int) then
          some ((8 : Int), (126 : Int))
        else
          if a0 = (44 : Int) then
            some ((1 : Int), (127 : Int))
          else
            if a0 = (45 : Int) then
              some ((1 : Int), (127 : Int))
            else
              if a0 = (58 : Int) then
                some ((1 : Int), (127 : Int))
              else
                if a0 = (46 : Int) then
                  some ((2 : Int), (127 : Int))
                else
                  if a0 = (47 : Int) then
                    some ((2 : Int), (127 : Int))
                  else
                    if a0 = (59 : Int) then
                      some ((2 : Int), (127 : Int))
                    else
                      if a0 = (48 : Int) then
                        some ((1 : Int), (126 : Int))
                      else
                        if a0 = (49 : Int) then
                          some ((1 : Int), (126 : Int))
                        else
                          if a0 = (60 : Int) then
                            some ((1 : Int), (126 : Int))
                          else
                            if a0 = (50 : Int) then
                              some ((2 : Int), (126 : Int))
                            else
                              if a0 = (51 : Int) then
                                some ((2 : Int), (126 : Int))
                              else
                                if a0 = (61 : Int) then
                                  some ((2 : Int), (126 : Int))
                                else
                                  some ((4 : Int), (126 : Int))
structure gangwayref7_checker_access.R where
  a0 : List api_FuncType
  a1 : List api_FuncType
  a2 : List api_Global
  a3 : Bool
  a4 : Bool
  a5 : Bool
  a6 : List Int
  a7 : List gangwayref7_frame
  a8 : List Int
inductive gangwayref7_checker_access.L where
def gangwayref7_checker_access.go : Nat → gangwayref7_checker_access.L → Option gangwayref7_checker_access.R := fun _ _ => none
def gangwayref7_checker_access.f (k : Nat) (a0 : Int) (a1 : Int) (a2 : Int) (a3 : Int) (a4 : Int) (a5 : Int) (a6 : List Int) (a7 : List api_Instr) (a8 : List api_Instr) (a9 : List api_FuncType) (a10 : List api_FuncType) (a11 : List api_Global) (a12 : Bool) (a13 : Bool) (a14 : Bool) (a15 : List Int) (a16 : List Int) (a17 : List gangwayref7_frame) : Option gangwayref7_checker_access.R :=
  (gangwayref7_checker_need.f k a13 a9 a10 a11 a12 a13 a14 a15 a16 a17).bind fun r1 =>
  if (!r1.a0) = true then
    some ⟨r1.a1, r1.a2, r1.a3, r1.a4, r1.a5, r1.a6, r1.a7, r1.a9, r1.a8⟩
  else
    if a0 = (63 : Int) then
      (gangwayref7_checker_put.f k (127 : Int) r1.a1 r1.a2 r1.a3 r1.a4 r1.a5 r1.a6 r1.a7 r1.a8 r1.a9).bind fun r2 =>
      some ⟨r2.a0, r2.a1, r2.a2, r2.a3, r2.a4, r2.a5, r2.a6, r2.a7, r2.a8⟩
    else
      if a0 = (64 : Int) then
        (gangwayref7_checker_take.f k (127 : Int) r1.a1 r1.a2 r1.a3 r1.a4 r1.a5 r1.a6 r1.a7 r1.a8 r1.a9).bind fun r3 =>
        (gangwayref7_checker_put.f k (127 : Int) r3.a1 r3.a2 r3.a3 r3.a4 r3.a5 r3.a6 r3.a7 r3.a9 r3.a8).bind fun r4 =>
        some ⟨r4.a0, r4.a1, r4.a2, r4.a3, r4.a4, r4.a5, r4.a6, r4.a7, r4.a8⟩
      else
        (gangwayref7_Width.f k a0).bind fun r5 =>
        if a3 < (4 : Int) then
          if 0 ≤ a3 then
          (gangwayref7_checker_need.f k (decide ((IntKind.i64.wrap ((1 : Int) * 2 ^ (min a3.toNat IntKind.i64.bits))) ≤ r5.1)) r1.a1 r1.a2 r1.a3 r1.a4 r1.a5 r1.a6 r1.a7 r1.a8 r1.a9).bind fun r6 =>
          if (!r6.a0) = true then
            some ⟨r6.a1, r6.a2, r6.a3, r6.a4, r6.a5, r6.a6, r6.a7, r6.a9, r6.a8⟩
          else
            if a0 ≥ (54 : Int) then
              (gangwayref7_checker_take.f k r5.2 r6.a1 r6.a2 r6.a3 r6.a4 r6.a5 r6.a6 r6.a7 r6.a8 r6.a9).bind fun r7 =>
              (gangwayref7_checker_take.f k (127 : Int) r7.a1 r7.a2 r7.a3 r7.a4 r7.a5 r7.a6 r7.a7 r7.a9 r7.a8).bind fun r8 =>
              some ⟨r8.a1, r8.a2, r8.a3, r8.a4, r8.a5, r8.a6, r8.a7, r8.a8, r8.a9⟩
            else
              (gangwayref7_checker_take.f k (127 : Int) r6.a1 r6.a2 r6.a3 r6.a4 r6.a5 r6.a6 r6.a7 r6.a8 r6.a9).bind fun r9 =>
              (gangwayref7_checker_put.f k r5.2 r9.a1 r9.a2 r9.a3 r9.a4 r9.a5 r9.a6 r9.a7 r9.a9 r9.a8).bind fun r10 =>
              some ⟨r10.a0, r10.a1, r10.a2, r10.a3, r10.a4, r10.a5, r10.a6, r10.a7, r10.a8⟩
          else none
        else
          (gangwayref7_checker_need.f k false r1.a1 r1.a2 r1.a3 r1.a4 r1.a5 r1.a6 r1.a7 r1.a8 r1.a9).bind fun r11 =>
          if (!r11.a0) = true then
            some ⟨r11.a1, r11.a2, r11.a3, r11.a4, r11.a5, r11.a6, r11.a7, r11.a9, r11.a8⟩
          else
            if a0 ≥ (54 : Int) then
              (gangwayref7_checker_take.f k r5.2 r11.a1 r11.a2 r11.a3 r11.a4 r11.a5 r11.a6 r11.a7 r11.a8 r11.a9).bind fun r12 =>
              (gangwayref7_checker_take.f k (127 : Int) r12.a1 r12.a2 r12.a3 r12.a4 r12.a5 r12.a6 r12.a7 r12.a9 r12.a8).bind fun r13 =>
              some ⟨r13.a1, r13.a2, r13.a3, r13.a4, r13.a5, r13.a6, r13.a7, r13.a8, r13.a9⟩
            else
              (gangwayref7_checker_take.f k (127 : Int) r11.a1 r11.a2 r11.a3 r11.a4 r11.a5 r11.a6 r11.a7 r11.a8 r11.a9).bind fun r14 =>
              (gangwayref7_checker_put.f k r5.2 r14.a1 r14.a2 r14.a3 r14.a4 r14.a5 r14.a6 r14.a7 r14.a9 r14.a8).bind fun r15 =>
              some ⟨r15.a0, r15.a1, r15.a2, r15.a3, r15.a4, r15.a5, r15.a6, r15.a7, r15.a8⟩
structure gangwayref7_checker_number.R where
  a0 : List api_FuncType
  a1 : List api_FuncType
  a2 : List api_Global
  a3 : Bool
  a4 : Bool
  a5 : Bool
  a6 : List Int
  a7 : List gangwayref7_frame
  a8 : List Int
inductive gangwayref7_checker_number.L where
  | s20 (x0 : Int) (x1 : Int) (x2 : Int) (x3 : Int) (x4 : List api_FuncType) (x5 : List api_FuncType) (x6 : List api_Global) (x7 : Bool) (x8 : Bool) (x9 : Bool) (x10 : List Int) (x11 : List gangwayref7_frame) (x12 : List Int)
  | s7 (x0 : Int) (x1 : Int) (x2 : Int) (x3 : Int) (x4 : List api_FuncType) (x5 : List api_FuncType) (x6 : List api_Global) (x7 : Bool) (x8 : Bool) (x9 : Bool) (x10 : List Int) (x11 : List gangwayref7_frame) (x12 : List Int)
  | s11 (x0 : Int) (x1 : Int) (x2 : Int) (x3 : Int) (x4 : List api_FuncType) (x5 : List api_FuncType) (x6 : List api_Global) (x7 : Bool) (x8 : Bool) (x9 : Bool) (x10 : List Int) (x11 : List gangwayref7_frame) (x12 : List Int)
  | s13 (x0 : Int) (x1 : Int) (x2 : Int) (x3 : Int) (x4 : List api_FuncType) (x5 : List api_FuncType) (x6 : List api_Global) (x7 : Bool) (x8 : Bool) (x9 : Bool) (x10 : List Int) (x11 : List gangwayref7_frame) (x12 : List Int)
  | s15 (x0 : Int) (x1 : Int) (x2 : Int) (x3 : Int) (x4 : List api_FuncType) (x5 : List api_FuncType) (x6 : List api_Global) (x7 : Bool) (x8 : Bool) (x9 : Bool) (x10 : List Int) (x11 : List gangwayref7_frame) (x12 : List Int)
def gangwayref7_checker_number.go : Nat → gangwayref7_checker_number.L → Option gangwayref7_checker_number.R
  | 0, _ => none
  | k + 1, .s20 x0 x1 x2 x3 x4 x5 x6 x7 x8 x9 x10 x11 x12 =>
    if x3 < x1 then
      (gangwayref7_checker_take.f k x0 x4 x5 x6 x7 x8 x9 x10 x12 x11).bind fun r1 =>
      gangwayref7_checker_number.go k (.s20 x0 x1 x2 (IntKind.i64.wrap (x3 + (1 : Int))) r1.a1 r1.a2 r1.a3 r1.a4 r1.a5 r1.a6 r1.a7 r1.a8 r1.a9)
    else
      (gangwayref7_checker_put.f k x2 x4 x5 x6 x7 x8 x9 x10 x12 x11).bind fun r2 =>
      some ⟨r2.a0, r2.a1, r2.a2, r2.a3, r2.a4, r2.a5, r2.a6, r2.a7, r2.a8⟩
  | k + 1, .s7 x0 x1 x2 x3 x4 x5 x6 x7 x8 x9 x10 x11 x12 =>
    if x0 = (80 : Int) then
      gangwayref7_checker_number.go k (.s20 (126 : Int) (1 : Int) x3 (0 : Int) x4 x5 x6 x7 x8 x9 x10 x11 x12)
    else
      if x0 ≥ (81 : Int) then
        if x0 ≤ (90 : Int) then
          gangwayref7_checker_number.go k (.s20 (126 : Int) x2 x3 (0 : Int) x4 x5 x6 x7 x8 x9 x10 x11 x12)
        else
          gangwayref7_checker_number.go k (.s11 x0 x1 x2 x3 x4 x5 x6 x7 x8 x9 x10 x11 x12)
      else
        gangwayref7_checker_number.go k (.s11 x0 x1 x2 x3 x4 x5 x6 x7 x8 x9 x10 x11 x12)
  | k + 1, .s11 x0 x1 x2 x3 x4 x5 x6 x7 x8 x9 x10 x11 x12 =>
    if x0 ≥ (121 : Int) then
      if x0 ≤ (123 : Int) then
        gangwayref7_checker_number.go k (.s20 (126 : Int) (1 : Int) (126 : Int) (0 : Int) x4 x5 x6 x7 x8 x9 x10 x11 x12)
      else
        gangwayref7_checker_number.go k (.s13 x0 x1 x2 x3 x4 x5 x6 x7 x8 x9 x10 x11 x12)
    else
      gangwayref7_checker_number.go k (.s13 x0 x1 x2 x3 x4 x5 x6 x7 x8 x9 x10 x11 x12)
  | k + 1, .s13 x0 x1 x2 x3 x4 x5 x6 x7 x8 x9 x10 x11 x12 =>
    if x0 ≥ (124 : Int) then
      if x0 ≤ (138 : Int) then
        gangwayref7_checker_number.go k (.s20 (126 : Int) x2 (126 : Int) (0 : Int) x4 x5 x6 x7 x8 x9 x10 x11 x12)
      else
        gangwayref7_checker_number.go k (.s15 x0 x1 x2 x3 x4 x5 x6 x7 x8 x9 x10 x11 x12)
    else
      gangwayref7_checker_number.go k (.s15 x0 x1 x2 x3 x4 x5 x6 x7 x8 x9 x10 x11 x12)
  | k + 1, .s15 x0 x1 x2 x3 x4 x5 x6 x7 x8 x9 x10 x11 x12 =>
    if x0 = (167 : Int) then
      gangwayref7_checker_number.go k (.s20 (126 : Int) (1 : Int) x3 (0 : Int) x4 x5 x6 x7 x8 x9 x10 x11 x12)
    else
      if x0 = (172 : Int) then
        gangwayref7_checker_number.go k (.s20 x1 (1 : Int) (126 : Int) (0 : Int) x4 x5 x6 x7 x8 x9 x10 x11 x12)
      else
        if x0 = (173 : Int) then
          gangwayref7_checker_number.go k (.s20 x1 (1 : Int) (126 : Int) (0 : Int) x4 x5 x6 x7 x8 x9 x10 x11 x12)
        else
          gangwayref7_checker_number.go k (.s20 x1 x2 x3 (0 : Int) x4 x5 x6 x7 x8 x9 x10 x11 x12)
def gangwayref7_checker_number.f (k : Nat) (a0 : Int) (a1 : List api_FuncType) (a2 : List api_FuncType) (a3 : List api_Global) (a4 : Bool) (a5 : Bool) (a6 : Bool) (a7 : List Int) (a8 : List Int) (a9 : List gangwayref7_frame) : Option gangwayref7_checker_number.R :=
  if a0 = (65 : Int) then
    gangwayref7_checker_number.go k (.s20 (127 : Int) (0 : Int) (127 : Int) (0 : Int) a1 a2 a3 a4 a5 a6 a7 a9 a8)
  else
    if a0 = (66 : Int) then
      gangwayref7_checker_number.go k (.s20 (127 : Int) (0 : Int) (126 : Int) (0 : Int) a1 a2 a3 a4 a5 a6 a7 a9 a8)
    else
      if a0 = (69 : Int) then
        gangwayref7_checker_number.go k (.s20 (127 : Int) (1 : Int) (127 : Int) (0 : Int) a1 a2 a3 a4 a5 a6 a7 a9 a8)
      else
        if a0 ≥ (103 : Int) then
          if a0 ≤ (105 : Int) then
            gangwayref7_checker_number.go k (.s20 (127 : Int) (1 : Int) (127 : Int) (0 : Int) a1 a2 a3 a4 a5 a6 a7 a9 a8)
          else
            gangwayref7_checker_number.go k (.s7 a0 (127 : Int) (2 : Int) (127 : Int) a1 a2 a3 a4 a5 a6 a7 a9 a8)
        else
          gangwayref7_checker_number.go k (.s7 a0 (127 : Int) (2 : Int) (127 : Int) a1 a2 a3 a4 a5 a6 a7 a9 a8)
end Go.Proofs.Ytnlnjcgoodgmbaa.Den
