import Derived.Test.YtnlnjcgoodgmbaaF
set_option linter.unusedVariables false
set_option maxRecDepth 10000
namespace Go.Proofs.Ytnlnjcgoodgmbaa.Den
open Go Go.Proofs.YtnlnjcgoodgmbaaM Go.Proofs.YtnlnjcgoodgmbaaM.Tys Go.Proofs.YtnlnjcgoodgmbaaM.Tab
inductive gangwayref7_checker_instr.R where
  | r0 (a0 : List api_FuncType) (a1 : List api_FuncType) (a2 : List api_Global) (a3 : Bool) (a4 : Bool) (a5 : Bool) (a6 : List Int) (a7 : List gangwayref7_frame) (a8 : List Int)
  | r1 (a0 : List api_FuncType) (a1 : List api_FuncType) (a2 : List api_Global) (a3 : Bool) (a4 : Bool) (a5 : Bool) (a6 : List Int) (a7 : List Int) (a8 : List gangwayref7_frame)
inductive gangwayref7_checker_instr.L where
  | s6 (x0 : List api_FuncType) (x1 : List api_FuncType) (x2 : List api_Global) (x3 : Bool) (x4 : Bool) (x5 : Bool) (x6 : List Int) (x7 : List gangwayref7_frame) (x8 : List Int) (x9 : Int) (x10 : Int) (x11 : Int) (x12 : Int) (x13 : Int) (x14 : Int) (x15 : List Int) (x16 : List api_Instr) (x17 : List api_Instr)
  | s11 (x0 : List api_FuncType) (x1 : List api_FuncType) (x2 : List api_Global) (x3 : Bool) (x4 : Bool) (x5 : Bool) (x6 : List Int) (x7 : List gangwayref7_frame) (x8 : List Int) (x9 : Int) (x10 : Int) (x11 : Int) (x12 : Int) (x13 : Int) (x14 : Int) (x15 : List Int) (x16 : List api_Instr) (x17 : List api_Instr)
  | s22 (x0 : List api_FuncType) (x1 : List api_FuncType) (x2 : List api_Global) (x3 : Bool) (x4 : Bool) (x5 : Bool) (x6 : List Int) (x7 : List gangwayref7_frame) (x8 : List Int) (x9 : Int) (x10 : Int) (x11 : Int) (x12 : Int) (x13 : Int) (x14 : Int) (x15 : List Int) (x16 : List api_Instr) (x17 : List api_Instr)
structure gangwayref7_checker_block.R where
  a0 : List api_FuncType
  a1 : List api_FuncType
  a2 : List api_Global
  a3 : Bool
  a4 : Bool
  a5 : Bool
  a6 : List Int
  a7 : List Int
  a8 : List gangwayref7_frame
inductive gangwayref7_checker_block.L where
  | s2 (x0 : List Int) (x1 : List api_Instr) (x2 : Int) (x3 : List api_FuncType) (x4 : List api_FuncType) (x5 : List api_Global) (x6 : Bool) (x7 : Bool) (x8 : Bool) (x9 : List Int) (x10 : List Int) (x11 : List gangwayref7_frame)
structure gangwayref7_checker_block.Fns where
  gangwayref7_checker_instr_f : Int → Int → Int → Int → Int → Int → (List Int) → (List api_Instr) → (List api_Instr) → (List api_FuncType) → (List api_FuncType) → (List api_Global) → Bool → Bool → Bool → (List Int) → (List Int) → (List gangwayref7_frame) → Option gangwayref7_checker_instr.R
  gangwayref7_checker_instr_go : gangwayref7_checker_instr.L → Option gangwayref7_checker_instr.R
  gangwayref7_checker_block_f : (List Int) → (List Int) → (List api_Instr) → (List api_FuncType) → (List api_FuncType) → (List api_Global) → Bool → Bool → Bool → (List Int) → (List Int) → (List gangwayref7_frame) → Option gangwayref7_checker_block.R
  gangwayref7_checker_block_go : gangwayref7_checker_block.L → Option gangwayref7_checker_block.R
def gangwayref7_checker_block.step (k : Nat) (r_ : gangwayref7_checker_block.Fns) : gangwayref7_checker_block.Fns where
  gangwayref7_checker_instr_f := fun (a0 : Int) (a1 : Int) (a2 : Int) (a3 : Int) (a4 : Int) (a5 : Int) (a6 : List Int) (a7 : List api_Instr) (a8 : List api_Instr) (a9 : List api_FuncType) (a10 : List api_FuncType) (a11 : List api_Global) (a12 : Bool) (a13 : Bool) (a14 : Bool) (a15 : List Int) (a16 : List Int) (a17 : List gangwayref7_frame) =>
      if a0 = (0 : Int) then
        (gangwayref7_checker_die.f k a9 a10 a11 a12 a13 a14 a15 a16 a17).bind fun r1 =>
        some (.r0 r1.a0 r1.a1 r1.a2 r1.a3 r1.a4 r1.a5 r1.a6 r1.a7 r1.a8)
      else
        if a0 = (1 : Int) then
          some (.r0 a9 a10 a11 a12 a13 a14 a15 a17 a16)
        else
          if a0 = (2 : Int) then
            r_.gangwayref7_checker_instr_go (.s6 a9 a10 a11 a12 a13 a14 a15 a17 a16 a0 a1 a2 a3 a4 a5 a6 a7 a8)
          else
            if a0 = (3 : Int) then
              r_.gangwayref7_checker_instr_go (.s6 a9 a10 a11 a12 a13 a14 a15 a17 a16 a0 a1 a2 a3 a4 a5 a6 a7 a8)
            else
              r_.gangwayref7_checker_instr_go (.s11 a9 a10 a11 a12 a13 a14 a15 a17 a16 a0 a1 a2 a3 a4 a5 a6 a7 a8)
  gangwayref7_checker_instr_go := fun l => match l with
      | .s6 x0 x1 x2 x3 x4 x5 x6 x7 x8 x9 x10 x11 x12 x13 x14 x15 x16 x17 =>
        (gangwayref7_result.f k x10).bind fun r2 =>
        if x9 = (3 : Int) then
          (gangwayref7_result.f k x10).bind fun r3 =>
          (r_.gangwayref7_checker_block_f [] r3 x16 x0 x1 x2 x3 x4 x5 x6 x8 x7).bind fun r4 =>
          (gangwayref7_result.f k x10).bind fun r5 =>
          (gangwayref7_checker_puts.f k r5 r4.a0 r4.a1 r4.a2 r4.a3 r4.a4 r4.a5 r4.a6 r4.a7 r4.a8).bind fun r6 =>
          some (.r1 r6.a0 r6.a1 r6.a2 r6.a3 r6.a4 r6.a5 r6.a6 r6.a8 r6.a7)
        else
          (gangwayref7_result.f k x10).bind fun r7 =>
          (r_.gangwayref7_checker_block_f r2 r7 x16 x0 x1 x2 x3 x4 x5 x6 x8 x7).bind fun r8 =>
          (gangwayref7_result.f k x10).bind fun r9 =>
          (gangwayref7_checker_puts.f k r9 r8.a0 r8.a1 r8.a2 r8.a3 r8.a4 r8.a5 r8.a6 r8.a7 r8.a8).bind fun r10 =>
          some (.r1 r10.a0 r10.a1 r10.a2 r10.a3 r10.a4 r10.a5 r10.a6 r10.a8 r10.a7)
      | .s11 x0 x1 x2 x3 x4 x5 x6 x7 x8 x9 x10 x11 x12 x13 x14 x15 x16 x17 =>
        if x9 = (4 : Int) then
          (gangwayref7_checker_take.f k (127 : Int) x0 x1 x2 x3 x4 x5 x6 x8 x7).bind fun r11 =>
          (gangwayref7_result.f k x10).bind fun r12 =>
          (gangwayref7_result.f k x10).bind fun r13 =>
          (r_.gangwayref7_checker_block_f r12 r13 x16 r11.a1 r11.a2 r11.a3 r11.a4 r11.a5 r11.a6 r11.a7 r11.a9 r11.a8).bind fun r14 =>
          if (!r14.a5) = true then
            (gangwayref7_result.f k x10).bind fun r15 =>
            (gangwayref7_result.f k x10).bind fun r16 =>
            (r_.gangwayref7_checker_block_f r15 r16 x17 r14.a0 r14.a1 r14.a2 r14.a3 r14.a4 r14.a5 r14.a6 r14.a7 r14.a8).bind fun r17 =>
            (gangwayref7_result.f k x10).bind fun r18 =>
            (gangwayref7_checker_puts.f k r18 r17.a0 r17.a1 r17.a2 r17.a3 r17.a4 r17.a5 r17.a6 r17.a7 r17.a8).bind fun r19 =>
            some (.r1 r19.a0 r19.a1 r19.a2 r19.a3 r19.a4 r19.a5 r19.a6 r19.a8 r19.a7)
          else
            (gangwayref7_result.f k x10).bind fun r20 =>
            (gangwayref7_checker_puts.f k r20 r14.a0 r14.a1 r14.a2 r14.a3 r14.a4 r14.a5 r14.a6 r14.a7 r14.a8).bind fun r21 =>
            some (.r1 r21.a0 r21.a1 r21.a2 r21.a3 r21.a4 r21.a5 r21.a6 r21.a8 r21.a7)
        else
          if x9 = (15 : Int) then
            inB (0 : Int) x7.length <|
            (gangwayref7_checker_takes.f k ((x7.getD ((0 : Int).toNat) z_gangwayref7_frame).label_) x0 x1 x2 x3 x4 x5 x6 x8 x7).bind fun r22 =>
            (gangwayref7_checker_die.f k r22.a0 r22.a1 r22.a2 r22.a3 r22.a4 r22.a5 r22.a6 r22.a8 r22.a7).bind fun r23 =>
            some (.r0 r23.a0 r23.a1 r23.a2 r23.a3 r23.a4 r23.a5 r23.a6 r23.a7 r23.a8)
          else
            if x9 ≥ (12 : Int) then
              if x9 ≤ (14 : Int) then
                (gangwayref7_checker_branch.f k x9 x10 x11 x12 x13 x14 x15 x16 x17 x0 x1 x2 x3 x4 x5 x6 x8 x7).bind fun r24 =>
                some (.r0 r24.a0 r24.a1 r24.a2 r24.a3 r24.a4 r24.a5 r24.a6 r24.a7 r24.a8)
              else
                r_.gangwayref7_checker_instr_go (.s22 x0 x1 x2 x3 x4 x5 x6 x7 x8 x9 x10 x11 x12 x13 x14 x15 x16 x17)
            else
              r_.gangwayref7_checker_instr_go (.s22 x0 x1 x2 x3 x4 x5 x6 x7 x8 x9 x10 x11 x12 x13 x14 x15 x16 x17)
      | .s22 x0 x1 x2 x3 x4 x5 x6 x7 x8 x9 x10 x11 x12 x13 x14 x15 x16 x17 =>
        if x9 = (16 : Int) then
          (gangwayref7_checker_need.f k (decide (x11 < (x0.length : Int))) x0 x1 x2 x3 x4 x5 x6 x8 x7).bind fun r25 =>
          if r25.a0 = true then
            inB x11 r25.a1.length <|
            (gangwayref7_checker_call.f k ((r25.a1.getD x11.toNat z_api_FuncType).Params) ((r25.a1.getD x11.toNat z_api_FuncType).Results) r25.a1 r25.a2 r25.a3 r25.a4 r25.a5 r25.a6 r25.a7 r25.a8 r25.a9).bind fun r26 =>
            some (.r0 r26.a0 r26.a1 r26.a2 r26.a3 r26.a4 r26.a5 r26.a6 r26.a7 r26.a8)
          else
            some (.r0 r25.a1 r25.a2 r25.a3 r25.a4 r25.a5 r25.a6 r25.a7 r25.a9 r25.a8)
        else
          if x9 = (17 : Int) then
            if x3 = true then
              (gangwayref7_checker_need.f k (decide (x11 < (x1.length : Int))) x0 x1 x2 x3 x4 x5 x6 x8 x7).bind fun r27 =>
              if r27.a0 = true then
                (gangwayref7_checker_take.f k (127 : Int) r27.a1 r27.a2 r27.a3 r27.a4 r27.a5 r27.a6 r27.a7 r27.a8 r27.a9).bind fun r28 =>
                inB x11 r28.a2.length <|
                (gangwayref7_checker_call.f k ((r28.a2.getD x11.toNat z_api_FuncType).Params) ((r28.a2.getD x11.toNat z_api_FuncType).Results) r28.a1 r28.a2 r28.a3 r28.a4 r28.a5 r28.a6 r28.a7 r28.a9 r28.a8).bind fun r29 =>
                some (.r0 r29.a0 r29.a1 r29.a2 r29.a3 r29.a4 r29.a5 r29.a6 r29.a7 r29.a8)
              else
                some (.r0 r27.a1 r27.a2 r27.a3 r27.a4 r27.a5 r27.a6 r27.a7 r27.a9 r27.a8)
            else
              (gangwayref7_checker_need.f k false x0 x1 x2 x3 x4 x5 x6 x8 x7).bind fun r30 =>
              if r30.a0 = true then
                (gangwayref7_checker_take.f k (127 : Int) r30.a1 r30.a2 r30.a3 r30.a4 r30.a5 r30.a6 r30.a7 r30.a8 r30.a9).bind fun r31 =>
                inB x11 r31.a2.length <|
                (gangwayref7_checker_call.f k ((r31.a2.getD x11.toNat z_api_FuncType).Params) ((r31.a2.getD x11.toNat z_api_FuncType).Results) r31.a1 r31.a2 r31.a3 r31.a4 r31.a5 r31.a6 r31.a7 r31.a9 r31.a8).bind fun r32 =>
                some (.r0 r32.a0 r32.a1 r32.a2 r32.a3 r32.a4 r32.a5 r32.a6 r32.a7 r32.a8)
              else
                some (.r0 r30.a1 r30.a2 r30.a3 r30.a4 r30.a5 r30.a6 r30.a7 r30.a9 r30.a8)
          else
            if x9 = (26 : Int) then
              (gangwayref7_checker_take.f k (0 : Int) x0 x1 x2 x3 x4 x5 x6 x8 x7).bind fun r33 =>
              some (.r0 r33.a1 r33.a2 r33.a3 r33.a4 r33.a5 r33.a6 r33.a7 r33.a8 r33.a9)
            else
              if x9 = (27 : Int) then
                (gangwayref7_checker_take.f k (127 : Int) x0 x1 x2 x3 x4 x5 x6 x8 x7).bind fun r34 =>
                (gangwayref7_checker_take.f k (0 : Int) r34.a1 r34.a2 r34.a3 r34.a4 r34.a5 r34.a6 r34.a7 r34.a9 r34.a8).bind fun r35 =>
                (gangwayref7_checker_take.f k r35.a0 r35.a1 r35.a2 r35.a3 r35.a4 r35.a5 r35.a6 r35.a7 r35.a9 r35.a8).bind fun r36 =>
                (gangwayref7_checker_put.f k r36.a0 r36.a1 r36.a2 r36.a3 r36.a4 r36.a5 r36.a6 r36.a7 r36.a9 r36.a8).bind fun r37 =>
                some (.r0 r37.a0 r37.a1 r37.a2 r37.a3 r37.a4 r37.a5 r37.a6 r37.a7 r37.a8)
              else
                if x9 ≥ (32 : Int) then
                  if x9 ≤ (36 : Int) then
                    (gangwayref7_checker_variable.f k x9 x10 x11 x12 x13 x14 x15 x16 x17 x0 x1 x2 x3 x4 x5 x6 x8 x7).bind fun r38 =>
                    some (.r0 r38.a0 r38.a1 r38.a2 r38.a3 r38.a4 r38.a5 r38.a6 r38.a7 r38.a8)
                  else
                    if x9 ≥ (40 : Int) then
                      if x9 ≤ (64 : Int) then
                        (gangwayref7_checker_access.f k x9 x10 x11 x12 x13 x14 x15 x16 x17 x0 x1 x2 x3 x4 x5 x6 x8 x7).bind fun r39 =>
                        some (.r0 r39.a0 r39.a1 r39.a2 r39.a3 r39.a4 r39.a5 r39.a6 r39.a7 r39.a8)
                      else
                        (gangwayref7_checker_number.f k x9 x0 x1 x2 x3 x4 x5 x6 x8 x7).bind fun r40 =>
                        some (.r0 r40.a0 r40.a1 r40.a2 r40.a3 r40.a4 r40.a5 r40.a6 r40.a7 r40.a8)
                    else
                      (gangwayref7_checker_number.f k x9 x0 x1 x2 x3 x4 x5 x6 x8 x7).bind fun r41 =>
                      some (.r0 r41.a0 r41.a1 r41.a2 r41.a3 r41.a4 r41.a5 r41.a6 r41.a7 r41.a8)
                else
                  if x9 ≥ (40 : Int) then
                    if x9 ≤ (64 : Int) then
                      (gangwayref7_checker_access.f k x9 x10 x11 x12 x13 x14 x15 x16 x17 x0 x1 x2 x3 x4 x5 x6 x8 x7).bind fun r42 =>
                      some (.r0 r42.a0 r42.a1 r42.a2 r42.a3 r42.a4 r42.a5 r42.a6 r42.a7 r42.a8)
                    else
                      (gangwayref7_checker_number.f k x9 x0 x1 x2 x3 x4 x5 x6 x8 x7).bind fun r43 =>
                      some (.r0 r43.a0 r43.a1 r43.a2 r43.a3 r43.a4 r43.a5 r43.a6 r43.a7 r43.a8)
                  else
                    (gangwayref7_checker_number.f k x9 x0 x1 x2 x3 x4 x5 x6 x8 x7).bind fun r44 =>
                    some (.r0 r44.a0 r44.a1 r44.a2 r44.a3 r44.a4 r44.a5 r44.a6 r44.a7 r44.a8)
  gangwayref7_checker_block_f := fun (a0 : List Int) (a1 : List Int) (a2 : List api_Instr) (a3 : List api_FuncType) (a4 : List api_FuncType) (a5 : List api_Global) (a6 : Bool) (a7 : Bool) (a8 : Bool) (a9 : List Int) (a10 : List Int) (a11 : List gangwayref7_frame) =>
      if a11.length + [(⟨a0, a1, (a10.length : Int), false⟩ : gangwayref7_frame)].length ≤ 2199023255552 then
      r_.gangwayref7_checker_block_go (.s2 a1 a2 (0 : Int) a3 a4 a5 a6 a7 a8 a9 a10 (a11 ++ [(⟨a0, a1, (a10.length : Int), false⟩ : gangwayref7_frame)]))
      else none
  gangwayref7_checker_block_go := fun l => match l with
      | .s2 x0 x1 x2 x3 x4 x5 x6 x7 x8 x9 x10 x11 =>
        if x2 < (x1.length : Int) then
          if (!x8) = true then
            inB x2 x1.length <|
            (r_.gangwayref7_checker_instr_f ((x1.getD x2.toNat z_api_Instr).Op) ((x1.getD x2.toNat z_api_Instr).Type_) ((x1.getD x2.toNat z_api_Instr).Index) ((x1.getD x2.toNat z_api_Instr).Align) ((x1.getD x2.toNat z_api_Instr).Offset) ((x1.getD x2.toNat z_api_Instr).Val) ((x1.getD x2.toNat z_api_Instr).Labels) ((x1.getD x2.toNat z_api_Instr).Body) ((x1.getD x2.toNat z_api_Instr).Else) x3 x4 x5 x6 x7 x8 x9 x10 x11).bind fun r => match r with
            | .r0 r45_0 r45_1 r45_2 r45_3 r45_4 r45_5 r45_6 r45_7 r45_8 =>
              r_.gangwayref7_checker_block_go (.s2 x0 x1 (IntKind.i64.wrap (x2 + (1 : Int))) r45_0 r45_1 r45_2 r45_3 r45_4 r45_5 r45_6 r45_8 r45_7)
            | .r1 r46_0 r46_1 r46_2 r46_3 r46_4 r46_5 r46_6 r46_7 r46_8 =>
              r_.gangwayref7_checker_block_go (.s2 x0 x1 (IntKind.i64.wrap (x2 + (1 : Int))) r46_0 r46_1 r46_2 r46_3 r46_4 r46_5 r46_6 r46_7 r46_8)
          else
            (gangwayref7_checker_takes.f k x0 x3 x4 x5 x6 x7 x8 x9 x10 x11).bind fun r47 =>
            (gangwayref7_checker_top.f k r47.a0 r47.a1 r47.a2 r47.a3 r47.a4 r47.a5 r47.a6 r47.a8 r47.a7).bind fun r48 =>
            if ¬ (r47.a8.length : Int) = ((r48.a9.getD r48.a0 z_gangwayref7_frame).height_) then
              some ⟨r48.a1, r48.a2, r48.a3, r48.a4, r48.a5, true, r48.a7, r48.a8, r48.a9⟩
            else
              if (!r48.a6) = true then
                if 0 ≤ (IntKind.i64.wrap ((r48.a9.length : Int) - (1 : Int))) then
                if (IntKind.i64.wrap ((r48.a9.length : Int) - (1 : Int))) ≤ (r48.a9.length : Int) then
                some ⟨r48.a1, r48.a2, r48.a3, r48.a4, r48.a5, r48.a6, r48.a7, r48.a8, r48.a9.take (IntKind.i64.wrap ((r48.a9.length : Int) - (1 : Int))).toNat⟩
                else none
                else none
              else
                some ⟨r48.a1, r48.a2, r48.a3, r48.a4, r48.a5, r48.a6, r48.a7, r48.a8, r48.a9⟩
        else
          (gangwayref7_checker_takes.f k x0 x3 x4 x5 x6 x7 x8 x9 x10 x11).bind fun r49 =>
          (gangwayref7_checker_top.f k r49.a0 r49.a1 r49.a2 r49.a3 r49.a4 r49.a5 r49.a6 r49.a8 r49.a7).bind fun r50 =>
          if ¬ (r49.a8.length : Int) = ((r50.a9.getD r50.a0 z_gangwayref7_frame).height_) then
            some ⟨r50.a1, r50.a2, r50.a3, r50.a4, r50.a5, true, r50.a7, r50.a8, r50.a9⟩
          else
            if (!r50.a6) = true then
              if 0 ≤ (IntKind.i64.wrap ((r50.a9.length : Int) - (1 : Int))) then
              if (IntKind.i64.wrap ((r50.a9.length : Int) - (1 : Int))) ≤ (r50.a9.length : Int) then
              some ⟨r50.a1, r50.a2, r50.a3, r50.a4, r50.a5, r50.a6, r50.a7, r50.a8, r50.a9.take (IntKind.i64.wrap ((r50.a9.length : Int) - (1 : Int))).toNat⟩
              else none
              else none
            else
              some ⟨r50.a1, r50.a2, r50.a3, r50.a4, r50.a5, r50.a6, r50.a7, r50.a8, r50.a9⟩
def gangwayref7_checker_block.fns : Nat → gangwayref7_checker_block.Fns
  | 0 => ⟨fun _ _ _ _ _ _ _ _ _ _ _ _ _ _ _ _ _ _ => none, fun _ => none, fun _ _ _ _ _ _ _ _ _ _ _ _ => none, fun _ => none⟩
  | k + 1 => gangwayref7_checker_block.step k (gangwayref7_checker_block.fns k)
def gangwayref7_checker_instr.f (k : Nat) (a0 : Int) (a1 : Int) (a2 : Int) (a3 : Int) (a4 : Int) (a5 : Int) (a6 : List Int) (a7 : List api_Instr) (a8 : List api_Instr) (a9 : List api_FuncType) (a10 : List api_FuncType) (a11 : List api_Global) (a12 : Bool) (a13 : Bool) (a14 : Bool) (a15 : List Int) (a16 : List Int) (a17 : List gangwayref7_frame) : Option gangwayref7_checker_instr.R := (gangwayref7_checker_block.fns k).gangwayref7_checker_instr_f a0 a1 a2 a3 a4 a5 a6 a7 a8 a9 a10 a11 a12 a13 a14 a15 a16 a17
def gangwayref7_checker_instr.go (k : Nat) (l : gangwayref7_checker_instr.L) : Option gangwayref7_checker_instr.R := (gangwayref7_checker_block.fns k).gangwayref7_checker_instr_go l
def gangwayref7_checker_block.f (k : Nat) (a0 : List Int) (a1 : List Int) (a2 : List api_Instr) (a3 : List api_FuncType) (a4 : List api_FuncType) (a5 : List api_Global) (a6 : Bool) (a7 : Bool) (a8 : Bool) (a9 : List Int) (a10 : List Int) (a11 : List gangwayref7_frame) : Option gangwayref7_checker_block.R := (gangwayref7_checker_block.fns k).gangwayref7_checker_block_f a0 a1 a2 a3 a4 a5 a6 a7 a8 a9 a10 a11
def gangwayref7_checker_block.go (k : Nat) (l : gangwayref7_checker_block.L) : Option gangwayref7_checker_block.R := (gangwayref7_checker_block.fns k).gangwayref7_checker_block_go l
theorem gangwayref7_checker_block.go_s2 (k : Nat) (x0 : List Int) (x1 : List api_Instr) (x2 : Int) (x3 : List api_FuncType) (x4 : List api_FuncType) (x5 : List api_Global) (x6 : Bool) (x7 : Bool) (x8 : Bool) (x9 : List Int) (x10 : List Int) (x11 : List gangwayref7_frame) : gangwayref7_checker_block.go (k + 1) (.s2 x0 x1 x2 x3 x4 x5 x6 x7 x8 x9 x10 x11) =
    if x2 < (x1.length : Int) then
      if (!x8) = true then
        inB x2 x1.length <|
        (gangwayref7_checker_instr.f k ((x1.getD x2.toNat z_api_Instr).Op) ((x1.getD x2.toNat z_api_Instr).Type_) ((x1.getD x2.toNat z_api_Instr).Index) ((x1.getD x2.toNat z_api_Instr).Align) ((x1.getD x2.toNat z_api_Instr).Offset) ((x1.getD x2.toNat z_api_Instr).Val) ((x1.getD x2.toNat z_api_Instr).Labels) ((x1.getD x2.toNat z_api_Instr).Body) ((x1.getD x2.toNat z_api_Instr).Else) x3 x4 x5 x6 x7 x8 x9 x10 x11).bind fun r => match r with
        | .r0 r1_0 r1_1 r1_2 r1_3 r1_4 r1_5 r1_6 r1_7 r1_8 =>
          gangwayref7_checker_block.go k (.s2 x0 x1 (IntKind.i64.wrap (x2 + (1 : Int))) r1_0 r1_1 r1_2 r1_3 r1_4 r1_5 r1_6 r1_8 r1_7)
        | .r1 r2_0 r2_1 r2_2 r2_3 r2_4 r2_5 r2_6 r2_7 r2_8 =>
          gangwayref7_checker_block.go k (.s2 x0 x1 (IntKind.i64.wrap (x2 + (1 : Int))) r2_0 r2_1 r2_2 r2_3 r2_4 r2_5 r2_6 r2_7 r2_8)
      else
        (gangwayref7_checker_takes.f k x0 x3 x4 x5 x6 x7 x8 x9 x10 x11).bind fun r3 =>
        (gangwayref7_checker_top.f k r3.a0 r3.a1 r3.a2 r3.a3 r3.a4 r3.a5 r3.a6 r3.a8 r3.a7).bind fun r4 =>
        if ¬ (r3.a8.length : Int) = ((r4.a9.getD r4.a0 z_gangwayref7_frame).height_) then
          some ⟨r4.a1, r4.a2, r4.a3, r4.a4, r4.a5, true, r4.a7, r4.a8, r4.a9⟩
        else
          if (!r4.a6) = true then
            if 0 ≤ (IntKind.i64.wrap ((r4.a9.length : Int) - (1 : Int))) then
            if (IntKind.i64.wrap ((r4.a9.length : Int) - (1 : Int))) ≤ (r4.a9.length : Int) then
            some ⟨r4.a1, r4.a2, r4.a3, r4.a4, r4.a5, r4.a6, r4.a7, r4.a8, r4.a9.take (IntKind.i64.wrap ((r4.a9.length : Int) - (1 : Int))).toNat⟩
            else none
            else none
          else
            some ⟨r4.a1, r4.a2, r4.a3, r4.a4, r4.a5, r4.a6, r4.a7, r4.a8, r4.a9⟩
    else
      (gangwayref7_checker_takes.f k x0 x3 x4 x5 x6 x7 x8 x9 x10 x11).bind fun r5 =>
      (gangwayref7_checker_top.f k r5.a0 r5.a1 r5.a2 r5.a3 r5.a4 r5.a5 r5.a6 r5.a8 r5.a7).bind fun r6 =>
      if ¬ (r5.a8.length : Int) = ((r6.a9.getD r6.a0 z_gangwayref7_frame).height_) then
        some ⟨r6.a1, r6.a2, r6.a3, r6.a4, r6.a5, true, r6.a7, r6.a8, r6.a9⟩
      else
        if (!r6.a6) = true then
          if 0 ≤ (IntKind.i64.wrap ((r6.a9.length : Int) - (1 : Int))) then
          if (IntKind.i64.wrap ((r6.a9.length : Int) - (1 : Int))) ≤ (r6.a9.length : Int) then
          some ⟨r6.a1, r6.a2, r6.a3, r6.a4, r6.a5, r6.a6, r6.a7, r6.a8, r6.a9.take (IntKind.i64.wrap ((r6.a9.length : Int) - (1 : Int))).toNat⟩
          else none
          else none
        else
          some ⟨r6.a1, r6.a2, r6.a3, r6.a4, r6.a5, r6.a6, r6.a7, r6.a8, r6.a9⟩ := rfl
abbrev gangwayref7_Body.R : Type := Bool
inductive gangwayref7_Body.L where
def gangwayref7_Body.go : Nat → gangwayref7_Body.L → Option gangwayref7_Body.R := fun _ _ => none
def gangwayref7_Body.f (k : Nat) (a0 : List api_FuncType) (a1 : List api_FuncType) (a2 : List api_Global) (a3 : Bool) (a4 : Bool) (a5 : List Int) (a6 : List Int) (a7 : List Int) (a8 : List api_Instr) : Option gangwayref7_Body.R :=
  (gangwayref0_CopyNumbers.f k a5).bind fun r1 =>
  if r1.length + a7.length ≤ 17592186044416 then
  if ((r1 ++ a7).length : Int) > (64 : Int) then
    some false
  else
    (gangwayref7_checker_block.f k a6 a6 a8 a0 a1 a2 a3 a4 false (r1 ++ a7) [] []).bind fun r2 =>
    some (!r2.a5)
  else none
abbrev gangwaylaw8_BodyOps.R : Type := Bool
inductive gangwaylaw8_BodyOps.L where
  | s4 (x0 : List gangwaylaw8_Ask) (x1 : List Int) (x2 : Int) (x3 : Bool) (x4 : Bool) (x5 : List api_FuncType) (x6 : List api_FuncType) (x7 : List api_Global)
  | s11 (x0 : List gangwaylaw8_Ask) (x1 : List Int) (x2 : Int) (x3 : Int) (x4 : Bool) (x5 : Bool) (x6 : List api_FuncType) (x7 : List api_FuncType) (x8 : List api_Global) (x9 : Int) (x10 : Int) (x11 : Int) (x12 : Int) (x13 : Int) (x14 : Int) (x15 : List Int) (x16 : List api_Instr) (x17 : List api_Instr)
  | s15 (x0 : List gangwaylaw8_Ask) (x1 : List Int) (x2 : Int) (x3 : Int) (x4 : Int) (x5 : Bool) (x6 : Bool) (x7 : List api_FuncType) (x8 : List api_FuncType) (x9 : List api_Global) (x10 : Int) (x11 : Int) (x12 : Int) (x13 : Int) (x14 : Int) (x15 : Int) (x16 : List Int) (x17 : List api_Instr) (x18 : List api_Instr) (x19 : List api_Instr)
  | s20 (x0 : List gangwaylaw8_Ask) (x1 : List Int) (x2 : Int) (x3 : Int) (x4 : Int) (x5 : Bool) (x6 : Bool) (x7 : List api_FuncType) (x8 : List api_FuncType) (x9 : List api_Global) (x10 : Int) (x11 : Int) (x12 : Int) (x13 : Int) (x14 : Int) (x15 : Int) (x16 : List Int) (x17 : List api_Instr) (x18 : List api_Instr) (x19 : List api_Instr)
def gangwaylaw8_BodyOps.go : Nat → gangwaylaw8_BodyOps.L → Option gangwaylaw8_BodyOps.R
  | 0, _ => none
  | k + 1, .s4 x0 x1 x2 x3 x4 x5 x6 x7 =>
    if x2 < (256 : Int) then
      (gangwayref5_May.f k [(⟨x2, 0, 0, 0, 0, 0, [], [], []⟩ : api_Instr)] (1 : Int)).bind fun r1 =>
      if (!r1) = true then
        (gangwayref5_May.f k [(⟨x2, (64 : Int), 0, 0, 0, 0, [], [], []⟩ : api_Instr)] (1 : Int)).bind fun r2 =>
        if (!r2) = true then
          gangwaylaw8_BodyOps.go k (.s4 x0 x1 (IntKind.i64.wrap (x2 + (1 : Int))) x3 x4 x5 x6 x7)
        else
          gangwaylaw8_BodyOps.go k (.s11 x0 x1 x2 (0 : Int) x3 x4 x5 x6 x7 x2 (64 : Int) 0 0 0 0 [] [] [])
      else
        gangwaylaw8_BodyOps.go k (.s11 x0 x1 x2 (0 : Int) x3 x4 x5 x6 x7 x2 0 0 0 0 0 [] [] [])
    else
      if (x0.length : Int) ≥ (0 : Int) then
        (gangwaylaw8_wakes.f k).bind fun r3 =>
        some r3
      else
        some false
  | k + 1, .s11 x0 x1 x2 x3 x4 x5 x6 x7 x8 x9 x10 x11 x12 x13 x14 x15 x16 x17 =>
    if x3 < (15 : Int) then
      gangwaylaw8_BodyOps.go k (.s15 x0 x1 x2 x3 (IntKind.i64.wrap (x3 + (1 : Int))) x4 x5 x6 x7 x8 x9 x10 x11 x12 x13 x14 x15 x16 x17 [])
    else
      gangwaylaw8_BodyOps.go k (.s4 x0 x1 (IntKind.i64.wrap (x2 + (1 : Int))) x4 x5 x6 x7 x8)
  | k + 1, .s15 x0 x1 x2 x3 x4 x5 x6 x7 x8 x9 x10 x11 x12 x13 x14 x15 x16 x17 x18 x19 =>
    if x4 > (1 : Int) then
      if (2 : Int) = 0 then
        none
      else
        if x19.length + [(⟨IntKind.i64.wrap ((65 : Int) + (x4.tmod (2 : Int))), 0, 0, 0, 0, 0, [], [], []⟩ : api_Instr)].length ≤ 1172812402961 then
        if (2 : Int) = 0 then
          none
        else
          gangwaylaw8_BodyOps.go k (.s15 x0 x1 x2 x3 (IntKind.i64.wrap (x4.tdiv (2 : Int))) x5 x6 x7 x8 x9 x10 x11 x12 x13 x14 x15 x16 x17 x18 (x19 ++ [(⟨IntKind.i64.wrap ((65 : Int) + (x4.tmod (2 : Int))), 0, 0, 0, 0, 0, [], [], []⟩ : api_Instr)]))
        else none
    else
      if x19.length + [(⟨x10, x11, x12, x13, x14, x15, x16, x17, x18⟩ : api_Instr)].length ≤ 1172812402961 then
      gangwaylaw8_BodyOps.go k (.s20 x0 x1 x2 x3 (0 : Int) x5 x6 x7 x8 x9 x10 x11 x12 x13 x14 x15 x16 x17 x18 (x19 ++ [(⟨x10, x11, x12, x13, x14, x15, x16, x17, x18⟩ : api_Instr)]))
      else none
  | k + 1, .s20 x0 x1 x2 x3 x4 x5 x6 x7 x8 x9 x10 x11 x12 x13 x14 x15 x16 x17 x18 x19 =>
    if x4 < (3 : Int) then
      if x4 > (0 : Int) then
        inB (IntKind.i64.wrap (x4 - (1 : Int))) x1.length <|
        (body_Check.f k x7 x8 x9 true true [] [x1.getD (IntKind.i64.wrap (x4 - (1 : Int))).toNat (0 : Int)] x1 x19).bind fun r4 =>
        (gangwaylaw8_num.f k r4).bind fun r5 =>
        (gangwayref7_Body.f k x7 x8 x9 x5 x6 [] [x1.getD (IntKind.i64.wrap (x4 - (1 : Int))).toNat (0 : Int)] x1 x19).bind fun r6 =>
        if (!((decide (r5 = (0 : Int))) == r6)) = true then
          some false
        else
          gangwaylaw8_BodyOps.go k (.s20 x0 x1 x2 x3 (IntKind.i64.wrap (x4 + (1 : Int))) x5 x6 x7 x8 x9 x10 x11 x12 x13 x14 x15 x16 x17 x18 x19)
      else
        (body_Check.f k x7 x8 x9 true true [] [] x1 x19).bind fun r7 =>
        (gangwaylaw8_num.f k r7).bind fun r8 =>
        (gangwayref7_Body.f k x7 x8 x9 x5 x6 [] [] x1 x19).bind fun r9 =>
        if (!((decide (r8 = (0 : Int))) == r9)) = true then
          some false
        else
          gangwaylaw8_BodyOps.go k (.s20 x0 x1 x2 x3 (IntKind.i64.wrap (x4 + (1 : Int))) x5 x6 x7 x8 x9 x10 x11 x12 x13 x14 x15 x16 x17 x18 x19)
    else
      gangwaylaw8_BodyOps.go k (.s11 x0 x1 x2 (IntKind.i64.wrap (x3 + (1 : Int))) x5 x6 x7 x8 x9 x10 x11 x12 x13 x14 x15 x16 x17 x18)
def gangwaylaw8_BodyOps.f (k : Nat) (a0 : List gangwaylaw8_Ask) : Option gangwaylaw8_BodyOps.R :=
  gangwaylaw8_BodyOps.go k (.s4 a0 [(127 : Int), (126 : Int)] (0 : Int) true true [(⟨[(127 : Int), (126 : Int)], [(126 : Int)]⟩ : api_FuncType)] [(⟨[(126 : Int)], []⟩ : api_FuncType)] [(⟨(126 : Int), true, (⟨0, 0, 0, 0, 0, 0, [], [], []⟩ : api_Instr)⟩ : api_Global), (⟨(127 : Int), false, (⟨0, 0, 0, 0, 0, 0, [], [], []⟩ : api_Instr)⟩ : api_Global)])
end Go.Proofs.Ytnlnjcgoodgmbaa.Den
