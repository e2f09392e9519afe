/- Printed by a copy of the printer that was turned for this claim: functions as plain Lean functions, with proofs that their calls come to these; or words that such proofs use. -/
import Derived.Test.YtlahigmoljflkaaPAllx0
import Derived.Test.YtlahigmoljflkaaPAllx7
import Derived.Test.YtlahigmoljflkaaPAllx9
namespace Go.Proofs.Ytlahigmoljflkaa.PAll
open Go.RowKit Go.Proofs.YtlahigmoljflkaaW.PrintWords Go.Proofs.YtlahigmoljflkaaW.PrintLast Go.Proofs.YtlahigmoljflkaaW.PrintMore
attribute [local go_sem] max2_int min2_int max_two min_two max_three min_three max_four min_four   -- for this text's walks alone
set_option linter.unusedVariables false
set_option linter.unusedSimpArgs false

def gangwayref5_reader_number.f (k : Nat) (s0_0 : List Int) (s0_1 : Int) (s0_2 : Bool) : Option (Int × Int × Bool) := if s0_2 = true then (some (0, s0_1, s0_2)) else (if 0 ≤ s0_1 then (if s0_1 ≤ (s0_0.length : Int) then ((gangwayref1_Uint.f k (s0_0.drop (s0_1 : Int).toNat) 32).bind fun bt248 => (if bt248.2 = 0 then (some (0, s0_1, true)) else (some (wrap64 (bt248.1), wrap64 (s0_1 + bt248.2), s0_2)))) else (none)) else (none))
theorem gangwayref5_reader_number.mono : ∀ a0 a1 a2 k, LeO (gangwayref5_reader_number.f k a0 a1 a2) (gangwayref5_reader_number.f (k + 1) a0 a1 a2) := by
  intro a0 a1 a2 k
  unfold gangwayref5_reader_number.f
  repeat' first
      | (with_reducible exact gangwayref1_Uint.mono _ _ _)
      | (with_reducible exact LeO.refl _)
      | (with_reducible exact LeO.none _)
      | (with_reducible refine LeO.ite ?_ ?_)
      | (with_reducible refine LeO.bind ?_ (fun _ => ?_))
      | exact gangwayref1_Uint.mono _ _ _
      | exact LeO.none _
      | refine LeO.ite ?_ ?_
      | refine LeO.bind ?_ (fun _ => ?_)
set_option maxHeartbeats 8000000 in
set_option maxRecDepth 100000 in
theorem gangwayref5_reader_number.calls (k : Nat) (g : Nat) (s0_0 : List Int) (s0_1 : Int) (s0_2 : Bool) (r1 : Int) (r2 : Int) (r3 : Bool) (w0 w : World) (hI : IsS57 w0 w g s0_0 s0_1 s0_2) (hB : Below w0.heap.size w0 w) (h : gangwayref5_reader_number.f k s0_0 s0_1 s0_2 = some (r1, r2, r3)) :
    Calls Try.prog 54 #[.pointer (some ⟨g, 0, none⟩)] w fun e w' => e = .returned (.int .i64 r1) ∧ IsS57 w0 w' g s0_0 r2 r3 ∧ Below w0.heap.size w0 w' ∧ KeepBut w w' g none := by
  have HI0 := Aside0.mk hI
  have HK := Aside0.mk (KeepBut.refl w g none)
  have HL := Aside0.mk hB.size
  clear hI
  have HW0 := Aside0.mk hB.size
  have HB := Aside0.mk hB
  clear hB
  have H : (if s0_2 = true then (some (0, s0_1, s0_2)) else (if 0 ≤ s0_1 then (if s0_1 ≤ (s0_0.length : Int) then ((gangwayref1_Uint.f k (s0_0.drop (s0_1 : Int).toNat) 32).bind fun bt248 => (if bt248.2 = 0 then (some (0, s0_1, true)) else (some (wrap64 (bt248.1), wrap64 (s0_1 + bt248.2), s0_2)))) else (none)) else (none))) = some (r1, r2, r3) := h
  clear h
  by_cases c2 : s0_2 = true
  · subst c2
    have H1 : (some (0, s0_1, true)) = some (r1, r2, r3) := by rw [if_pos rfl] at H; exact H
    clear H
    have H := H1
    clear H1
    simp only [Option.some.injEq, Prod.mk.injEq] at H
    obtain ⟨rfl, rfl, rfl⟩ := H
    obtain ⟨ASz3_0, cSz3_0, HGz3, hgz3, HSz3_0⟩ := HI0.out
    have hcz3_0 := cellS57_0 HGz3
    have hcz3_1 := cellS57_1 HGz3
    have hcz3_2 := cellS57_2 HGz3
    have hfz3_1 := blk_frozen HGz3 1
    have hfz3_2 := blk_frozen HGz3 2
    clear HGz3 hgz3
    go_enter Try.func54, Try.ntmps54
    go_wp2
    repeat (go_quiet (fail); try go_wp2)
    go_ret
    exact ⟨by first | rfl | (simp [errW_none, errW_some] <;> rfl) | (simp [*, errW_none, errW_some] <;> rfl), by repeat (first | (with_reducible first | exact HI0.out | apply IsS57.alloc | apply IsS57.drewN | apply IsS57.drew | apply IsS57.set_1 | apply IsS57.set_2) | exact HI0.out), by repeat (first | (with_reducible first | exact HB.out | apply below_alloc | apply pw_below_drewN | apply below_drew1 | refine below_set ?_ (IsS57.ge HI0.out)) | exact HB.out), by repeat (first | (with_reducible first | exact HK.out | apply KeepBut.set_ | apply keep_drewN | apply keep_drew | apply keep_alloc) | exact HK.out)⟩
  · replace c2 := Bool.eq_false_iff.mpr c2
    subst c2
    have H1 : (if 0 ≤ s0_1 then (if s0_1 ≤ (s0_0.length : Int) then ((gangwayref1_Uint.f k (s0_0.drop (s0_1 : Int).toNat) 32).bind fun bt248 => (if bt248.2 = 0 then (some (0, s0_1, true)) else (some (wrap64 (bt248.1), wrap64 (s0_1 + bt248.2), false)))) else (none)) else (none)) = some (r1, r2, r3) := by rw [if_neg (show ¬ (false = true) by decide)] at H; exact H
    clear H
    have H := H1
    clear H1
    by_cases c4 : 0 ≤ s0_1
    · rw [if_pos c4] at H
      have c4b0 := eq_true c4
      have c4b1 : decide (0 ≤ s0_1) = true := decide_eq_true c4
      clear c4
      by_cases c5 : s0_1 ≤ (s0_0.length : Int)
      · rw [if_pos c5] at H
        have c5b0 := eq_true c5
        have c5b1 : decide (s0_1 ≤ (s0_0.length : Int)) = true := decide_eq_true c5
        clear c5
        obtain ⟨y244, hy244⟩ : ∃ y_ : List Int, y_ = (s0_0.drop (s0_1 : Int).toNat) := ⟨_, rfl⟩
        replace H : ((gangwayref1_Uint.f k y244 32).bind fun bt248 => (if bt248.2 = 0 then (some (0, s0_1, true)) else (some (wrap64 (bt248.1), wrap64 (s0_1 + bt248.2), false)))) = some (r1, r2, r3) := by first | (rw [hy244]; with_reducible exact H) | (have H2_ := (Option.bind_some _ _).symm.trans H; rw [hy244]; with_reducible exact H2_) | (have H2_ := (Option.bind_some _ _).symm.trans H; with_reducible exact H2_) | with_reducible exact H | (rw [hy244]; exact H) | exact H
        have Ny244 := Aside0.mk hy244
        clear hy244
        replace H := Option.bind_eq_some_iff.mp H
        obtain ⟨⟨t248, t249⟩, A60, H⟩ := H
        replace H : (if t249 = 0 then (some (0, s0_1, true)) else (some (wrap64 (t248), wrap64 (s0_1 + t249), false))) = some (r1, r2, r3) := H
        have A6 := Aside0.mk A60
        clear A60
        by_cases c7 : t249 = 0
        · rw [if_pos c7] at H
          have c7b0 : (t249 == 0) = true := beq_iff_eq.mpr c7
          have c7b1 : (t249 != 0) = false := bne_eq_false_iff_eq.mpr c7
          clear c7
          simp only [Option.some.injEq, Prod.mk.injEq] at H
          obtain ⟨rfl, rfl, rfl⟩ := H
          obtain ⟨ASz8_0, cSz8_0, HGz8, hgz8, HSz8_0⟩ := HI0.out
          have hcz8_0 := cellS57_0 HGz8
          have hcz8_1 := cellS57_1 HGz8
          have hcz8_2 := cellS57_2 HGz8
          have hfz8_1 := blk_frozen HGz8 1
          have hfz8_2 := blk_frozen HGz8 2
          clear HGz8 hgz8
          have q9 : (s0_1 : Int) ≤ ((s0_0.length : Int) : Int) := of_decide_eq_true (by first | (with_reducible assumption) | assumption)
          obtain ⟨i09, hi09, _, hsz9, _⟩ := info_parts info5
          have hroom9 : s0_0.length ≤ cSz8_0 := HSz8_0.1
          have hC9 : Kd.C (Kd.int .u8) _ ASz8_0 s0_0.length s0_0 := (Kd.C_below HSz8_0.2 HB.out)
          have q09 : (0 : Int) ≤ (s0_1 : Int) := of_decide_eq_true (by first | (with_reducible assumption) | assumption)
          have hcut9 := cut_from (P := Try.prog) 24 5 .i64 Try.underlying24 hi09 1 hsz9 ASz8_0 s0_0.length cSz8_0 s0_1 q09 q9
          have hr9 := Kd.C_drop (m := (s0_1 : Int).toNat) (c := cSz8_0) hC9 (by omega) hroom9
          obtain ⟨A9, hA9⟩ : ∃ A1, A1 = (if cSz8_0 = (s0_1 : Int).toNat then ASz8_0 else (ASz8_0 : Option Addr).map (·.add ((s0_1 : Int).toNat * 1))) := ⟨_, rfl⟩
          obtain ⟨c9, hc9⟩ : ∃ c1, c1 = cSz8_0 - (s0_1 : Int).toNat := ⟨_, rfl⟩
          have hy9 : y244.length = s0_0.length - (s0_1 : Int).toNat := (by rw [Ny244.out, List.length_drop] <;> omega)
          rw [show (s0_0).drop (s0_1 : Int).toNat = y244 from Ny244.out.symm] at hr9
          replace hr9 : Kd.C (Kd.int .u8) _ A9 y244.length y244 := (by rw [hA9]; exact hr9)
          rw [← hy9, ← hA9, ← hc9] at hcut9
          have HR247 := Aside0.mk hr9
          have HC247 := Aside0.mk (show y244.length ≤ c9 from by rw [hy9, hc9]; exact Nat.sub_le_sub_right hroom9 _)
          clear hr9 hC9 hroom9 hi09 hsz9 hc9
          have KY9 := Aside0.mk hy9
          have KA9 := Aside0.mk hA9
          clear hy9 hA9
          replace q9 := eq_true q9
          go_enter Try.func54, Try.ntmps54
          go_wp2_with (first | (go_at_call 66; (with_reducible refine (gangwayref1_Uint.calls k _ _ y244 32 t248 t249 _ ?side1 ?side2 A6.out).mono ?_); (case side1 => repeat (first | exact (by repeat (first | (with_reducible exact HR247.out) | (with_reducible refine Kd.C_alloc ?_ _) | (with_reducible refine Kd.C_drewN ?_ _) | (with_reducible refine Kd.C_drew ?_) | exact HR247.out)) | (with_reducible refine Kd.C_alloc ?_ _) | (with_reducible refine Kd.C_drewN ?_ _) | (with_reducible refine Kd.C_drew ?_))); (case side2 => exact HC247.out); rintro e w' ⟨rfl, ⟨nd, rfl⟩⟩; (try first | exact ⟨rfl, _, World.drewN_drewN _ _ _⟩ | exact ⟨rfl, _, Eq.trans (World.drewN_drewN _ _ _) (congrArg (World.drewN _) (Nat.add_assoc _ _ _))⟩)))
          repeat (go_quiet (first | (go_at_call 66; (with_reducible refine (gangwayref1_Uint.calls k _ _ y244 32 t248 t249 _ ?side1 ?side2 A6.out).mono ?_); (case side1 => repeat (first | exact (by repeat (first | (with_reducible exact HR247.out) | (with_reducible refine Kd.C_alloc ?_ _) | (with_reducible refine Kd.C_drewN ?_ _) | (with_reducible refine Kd.C_drew ?_) | exact HR247.out)) | (with_reducible refine Kd.C_alloc ?_ _) | (with_reducible refine Kd.C_drewN ?_ _) | (with_reducible refine Kd.C_drew ?_))); (case side2 => exact HC247.out); rintro e w' ⟨rfl, ⟨nd, rfl⟩⟩; (try first | exact ⟨rfl, _, World.drewN_drewN _ _ _⟩ | exact ⟨rfl, _, Eq.trans (World.drewN_drewN _ _ _) (congrArg (World.drewN _) (Nat.add_assoc _ _ _))⟩))); try go_wp2_with (first | (go_at_call 66; (with_reducible refine (gangwayref1_Uint.calls k _ _ y244 32 t248 t249 _ ?side1 ?side2 A6.out).mono ?_); (case side1 => repeat (first | exact (by repeat (first | (with_reducible exact HR247.out) | (with_reducible refine Kd.C_alloc ?_ _) | (with_reducible refine Kd.C_drewN ?_ _) | (with_reducible refine Kd.C_drew ?_) | exact HR247.out)) | (with_reducible refine Kd.C_alloc ?_ _) | (with_reducible refine Kd.C_drewN ?_ _) | (with_reducible refine Kd.C_drew ?_))); (case side2 => exact HC247.out); rintro e w' ⟨rfl, ⟨nd, rfl⟩⟩; (try first | exact ⟨rfl, _, World.drewN_drewN _ _ _⟩ | exact ⟨rfl, _, Eq.trans (World.drewN_drewN _ _ _) (congrArg (World.drewN _) (Nat.add_assoc _ _ _))⟩))))
          go_ret
          exact ⟨by first | rfl | (simp [errW_none, errW_some] <;> rfl) | (simp [*, errW_none, errW_some] <;> rfl), by repeat (first | (with_reducible first | exact HI0.out | apply IsS57.alloc | apply IsS57.drewN | apply IsS57.drew | apply IsS57.set_1 | apply IsS57.set_2) | exact HI0.out), by repeat (first | (with_reducible first | exact HB.out | apply below_alloc | apply pw_below_drewN | apply below_drew1 | refine below_set ?_ (IsS57.ge HI0.out)) | exact HB.out), by repeat (first | (with_reducible first | exact HK.out | apply KeepBut.set_ | apply keep_drewN | apply keep_drew | apply keep_alloc) | exact HK.out)⟩
        · rw [if_neg c7] at H
          have c7b0 : (t249 == 0) = false := beq_eq_false_iff_ne.mpr c7
          have c7b1 : (t249 != 0) = true := bne_iff_ne.mpr c7
          simp only [Option.some.injEq, Prod.mk.injEq] at H
          obtain ⟨rfl, rfl, rfl⟩ := H
          obtain ⟨ASz10_0, cSz10_0, HGz10, hgz10, HSz10_0⟩ := HI0.out
          have hcz10_0 := cellS57_0 HGz10
          have hcz10_1 := cellS57_1 HGz10
          have hcz10_2 := cellS57_2 HGz10
          have hfz10_1 := blk_frozen HGz10 1
          have hfz10_2 := blk_frozen HGz10 2
          clear HGz10 hgz10
          have q11 : (s0_1 : Int) ≤ ((s0_0.length : Int) : Int) := of_decide_eq_true (by first | (with_reducible assumption) | assumption)
          obtain ⟨i011, hi011, _, hsz11, _⟩ := info_parts info5
          have hroom11 : s0_0.length ≤ cSz10_0 := HSz10_0.1
          have hC11 : Kd.C (Kd.int .u8) _ ASz10_0 s0_0.length s0_0 := (Kd.C_below HSz10_0.2 HB.out)
          have q011 : (0 : Int) ≤ (s0_1 : Int) := of_decide_eq_true (by first | (with_reducible assumption) | assumption)
          have hcut11 := cut_from (P := Try.prog) 24 5 .i64 Try.underlying24 hi011 1 hsz11 ASz10_0 s0_0.length cSz10_0 s0_1 q011 q11
          have hr11 := Kd.C_drop (m := (s0_1 : Int).toNat) (c := cSz10_0) hC11 (by omega) hroom11
          obtain ⟨A11, hA11⟩ : ∃ A1, A1 = (if cSz10_0 = (s0_1 : Int).toNat then ASz10_0 else (ASz10_0 : Option Addr).map (·.add ((s0_1 : Int).toNat * 1))) := ⟨_, rfl⟩
          obtain ⟨c11, hc11⟩ : ∃ c1, c1 = cSz10_0 - (s0_1 : Int).toNat := ⟨_, rfl⟩
          have hy11 : y244.length = s0_0.length - (s0_1 : Int).toNat := (by rw [Ny244.out, List.length_drop] <;> omega)
          rw [show (s0_0).drop (s0_1 : Int).toNat = y244 from Ny244.out.symm] at hr11
          replace hr11 : Kd.C (Kd.int .u8) _ A11 y244.length y244 := (by rw [hA11]; exact hr11)
          rw [← hy11, ← hA11, ← hc11] at hcut11
          have HR247 := Aside0.mk hr11
          have HC247 := Aside0.mk (show y244.length ≤ c11 from by rw [hy11, hc11]; exact Nat.sub_le_sub_right hroom11 _)
          clear hr11 hC11 hroom11 hi011 hsz11 hc11
          have KY11 := Aside0.mk hy11
          have KA11 := Aside0.mk hA11
          clear hy11 hA11
          replace q11 := eq_true q11
          go_enter Try.func54, Try.ntmps54
          go_wp2_with (first | (go_at_call 66; (with_reducible refine (gangwayref1_Uint.calls k _ _ y244 32 t248 t249 _ ?side1 ?side2 A6.out).mono ?_); (case side1 => repeat (first | exact (by repeat (first | (with_reducible exact HR247.out) | (with_reducible refine Kd.C_alloc ?_ _) | (with_reducible refine Kd.C_drewN ?_ _) | (with_reducible refine Kd.C_drew ?_) | exact HR247.out)) | (with_reducible refine Kd.C_alloc ?_ _) | (with_reducible refine Kd.C_drewN ?_ _) | (with_reducible refine Kd.C_drew ?_))); (case side2 => exact HC247.out); rintro e w' ⟨rfl, ⟨nd, rfl⟩⟩; (try first | exact ⟨rfl, _, World.drewN_drewN _ _ _⟩ | exact ⟨rfl, _, Eq.trans (World.drewN_drewN _ _ _) (congrArg (World.drewN _) (Nat.add_assoc _ _ _))⟩)))
          repeat (go_quiet (first | (go_at_call 66; (with_reducible refine (gangwayref1_Uint.calls k _ _ y244 32 t248 t249 _ ?side1 ?side2 A6.out).mono ?_); (case side1 => repeat (first | exact (by repeat (first | (with_reducible exact HR247.out) | (with_reducible refine Kd.C_alloc ?_ _) | (with_reducible refine Kd.C_drewN ?_ _) | (with_reducible refine Kd.C_drew ?_) | exact HR247.out)) | (with_reducible refine Kd.C_alloc ?_ _) | (with_reducible refine Kd.C_drewN ?_ _) | (with_reducible refine Kd.C_drew ?_))); (case side2 => exact HC247.out); rintro e w' ⟨rfl, ⟨nd, rfl⟩⟩; (try first | exact ⟨rfl, _, World.drewN_drewN _ _ _⟩ | exact ⟨rfl, _, Eq.trans (World.drewN_drewN _ _ _) (congrArg (World.drewN _) (Nat.add_assoc _ _ _))⟩))); try go_wp2_with (first | (go_at_call 66; (with_reducible refine (gangwayref1_Uint.calls k _ _ y244 32 t248 t249 _ ?side1 ?side2 A6.out).mono ?_); (case side1 => repeat (first | exact (by repeat (first | (with_reducible exact HR247.out) | (with_reducible refine Kd.C_alloc ?_ _) | (with_reducible refine Kd.C_drewN ?_ _) | (with_reducible refine Kd.C_drew ?_) | exact HR247.out)) | (with_reducible refine Kd.C_alloc ?_ _) | (with_reducible refine Kd.C_drewN ?_ _) | (with_reducible refine Kd.C_drew ?_))); (case side2 => exact HC247.out); rintro e w' ⟨rfl, ⟨nd, rfl⟩⟩; (try first | exact ⟨rfl, _, World.drewN_drewN _ _ _⟩ | exact ⟨rfl, _, Eq.trans (World.drewN_drewN _ _ _) (congrArg (World.drewN _) (Nat.add_assoc _ _ _))⟩))))
          go_ret
          exact ⟨by first | rfl | (simp [errW_none, errW_some] <;> rfl) | (simp [*, errW_none, errW_some] <;> rfl), by repeat (first | (with_reducible first | exact HI0.out | apply IsS57.alloc | apply IsS57.drewN | apply IsS57.drew | apply IsS57.set_1 | apply IsS57.set_2) | exact HI0.out), by repeat (first | (with_reducible first | exact HB.out | apply below_alloc | apply pw_below_drewN | apply below_drew1 | refine below_set ?_ (IsS57.ge HI0.out)) | exact HB.out), by repeat (first | (with_reducible first | exact HK.out | apply KeepBut.set_ | apply keep_drewN | apply keep_drew | apply keep_alloc) | exact HK.out)⟩
      · rw [if_neg c5] at H
        exact absurd H (by simp)
    · rw [if_neg c4] at H
      exact absurd H (by simp)

def gangwayref5_reader_is.f (s0_0 : List Int) (s0_1 : Int) (s0_2 : Bool) (a1 : Int) : Option (Int × Bool) := (gangwayref5_reader_byte.f s0_0 s0_1 s0_2).bind fun bt250 => (if bt250.1 = a1 then (some (bt250.2.1, bt250.2.2)) else (some (bt250.2.1, true)))
set_option maxHeartbeats 8000000 in
set_option maxRecDepth 100000 in
theorem gangwayref5_reader_is.calls (g : Nat) (s0_0 : List Int) (s0_1 : Int) (s0_2 : Bool) (a1 : Int) (r1 : Int) (r2 : Bool) (w0 w : World) (hI : IsS57 w0 w g s0_0 s0_1 s0_2) (hB : Below w0.heap.size w0 w) (h : gangwayref5_reader_is.f s0_0 s0_1 s0_2 a1 = some (r1, r2)) :
    Calls Try.prog 55 #[.pointer (some ⟨g, 0, none⟩), .int .i64 a1] w fun e w' => e = .returned (.tuple #[]) ∧ IsS57 w0 w' g s0_0 r1 r2 ∧ Below w0.heap.size w0 w' ∧ KeepBut w w' g none := by
  have HI0 := Aside0.mk hI
  have HK := Aside0.mk (KeepBut.refl w g none)
  have HL := Aside0.mk hB.size
  clear hI
  have HW0 := Aside0.mk hB.size
  have HB := Aside0.mk hB
  clear hB
  have H : ((gangwayref5_reader_byte.f s0_0 s0_1 s0_2).bind fun bt250 => (if bt250.1 = a1 then (some (bt250.2.1, bt250.2.2)) else (some (bt250.2.1, true)))) = some (r1, r2) := h
  clear h
  replace H := Option.bind_eq_some_iff.mp H
  obtain ⟨⟨t250, t251, t252⟩, A30, H⟩ := H
  replace H : (if t250 = a1 then (some (t251, t252)) else (some (t251, true))) = some (r1, r2) := H
  have A3 := Aside0.mk A30
  clear A30
  by_cases c4 : t250 = a1
  · rw [if_pos c4] at H
    have c4b0 : (t250 == a1) = true := beq_iff_eq.mpr c4
    have c4b1 : (t250 != a1) = false := bne_eq_false_iff_eq.mpr c4
    clear c4
    simp only [Option.some.injEq, Prod.mk.injEq] at H
    obtain ⟨rfl, rfl⟩ := H
    go_enter Try.func55, Try.ntmps55
    go_wp2_with (first | ((with_reducible refine gate_callee (f := 36) rfl ?_); refine goesL_ (some 5) rfl rfl Try.func36 (by kernel_rfl) rfl #[.pointer (some ⟨g, 0, none⟩)] rfl (by (try simp only [List.map_toArray, List.map_cons, List.map_nil]); first | done | rfl | (simp only [List.length_drop, List.length_take]; rfl)) ?_; (with_reducible refine (gangwayref5_reader_byte.calls g s0_0 s0_1 s0_2 t250 t251 t252 w0 _ ?side1 ?side2 A3.out).mono ?_); (case side1 => repeat (first | (with_reducible first | exact HI0.out | apply IsS57.alloc | apply IsS57.drewN | apply IsS57.drew | apply IsS57.set_1 | apply IsS57.set_2) | exact HI0.out)); (case side2 => repeat (first | (with_reducible first | exact HB.out | apply below_alloc | apply pw_below_drewN | apply below_drew1 | refine below_set ?_ (IsS57.ge HI0.out)) | exact HB.out)); rintro e w5 ⟨rfl, hi, hb, hk⟩; refine ⟨_, rfl, ?_⟩; have n0_ := Aside0.mk (KeepBut.trans (by repeat (first | (with_reducible first | exact HK.out | apply KeepBut.set_ | apply keep_drewN | apply keep_drew | apply keep_alloc) | exact HK.out)) hk (.inl rfl)); have n1_ := Aside0.mk (hb); have n2_ := Aside0.mk (hi); clear HK; clear HB; clear HI0; have HK := n0_; have HB := n1_; have HI0 := n2_; clear n0_ n1_ n2_; (try clear hb); (try clear hb2); (try clear hk); (try clear hi)))
    first | go_end0 | ((try simp only [Exit.inBlock, Exit.then]); refine bodyPost_ret (results_none rfl _ _ _) rfl ?_)
    exact ⟨by first | rfl | (simp [errW_none, errW_some] <;> rfl) | (simp [*, errW_none, errW_some] <;> rfl), by repeat (first | (with_reducible first | exact HI0.out | apply IsS57.alloc | apply IsS57.drewN | apply IsS57.drew | apply IsS57.set_1 | apply IsS57.set_2) | exact HI0.out), by repeat (first | (with_reducible first | exact HB.out | apply below_alloc | apply pw_below_drewN | apply below_drew1 | refine below_set ?_ (IsS57.ge HI0.out)) | exact HB.out), by repeat (first | (with_reducible first | exact HK.out | apply KeepBut.set_ | apply keep_drewN | apply keep_drew | apply keep_alloc) | exact HK.out)⟩
  · rw [if_neg c4] at H
    have c4b0 : (t250 == a1) = false := beq_eq_false_iff_ne.mpr c4
    have c4b1 : (t250 != a1) = true := bne_iff_ne.mpr c4
    simp only [Option.some.injEq, Prod.mk.injEq] at H
    obtain ⟨rfl, rfl⟩ := H
    go_enter Try.func55, Try.ntmps55
    go_wp2_with (first | ((with_reducible refine gate_callee (f := 36) rfl ?_); refine goesL_ (some 5) rfl rfl Try.func36 (by kernel_rfl) rfl #[.pointer (some ⟨g, 0, none⟩)] rfl (by (try simp only [List.map_toArray, List.map_cons, List.map_nil]); first | done | rfl | (simp only [List.length_drop, List.length_take]; rfl)) ?_; (with_reducible refine (gangwayref5_reader_byte.calls g s0_0 s0_1 s0_2 t250 t251 t252 w0 _ ?side1 ?side2 A3.out).mono ?_); (case side1 => repeat (first | (with_reducible first | exact HI0.out | apply IsS57.alloc | apply IsS57.drewN | apply IsS57.drew | apply IsS57.set_1 | apply IsS57.set_2) | exact HI0.out)); (case side2 => repeat (first | (with_reducible first | exact HB.out | apply below_alloc | apply pw_below_drewN | apply below_drew1 | refine below_set ?_ (IsS57.ge HI0.out)) | exact HB.out)); rintro e w6 ⟨rfl, hi, hb, hk⟩; refine ⟨_, rfl, ?_⟩; have n0_ := Aside0.mk (KeepBut.trans (by repeat (first | (with_reducible first | exact HK.out | apply KeepBut.set_ | apply keep_drewN | apply keep_drew | apply keep_alloc) | exact HK.out)) hk (.inl rfl)); have n1_ := Aside0.mk (hb); have n2_ := Aside0.mk (hi); clear HK; clear HB; clear HI0; have HK := n0_; have HB := n1_; have HI0 := n2_; clear n0_ n1_ n2_; (try clear hb); (try clear hb2); (try clear hk); (try clear hi); obtain ⟨ASz7_0, cSz7_0, HGz7, hgz7, HSz7_0⟩ := HI0.out; have hcz7_0 := cellS57_0 HGz7; have hcz7_1 := cellS57_1 HGz7; have hcz7_2 := cellS57_2 HGz7; have hfz7_1 := blk_frozen HGz7 1; have hfz7_2 := blk_frozen HGz7 2; clear HGz7 hgz7))
    first | go_end0 | ((try simp only [Exit.inBlock, Exit.then]); refine bodyPost_ret (results_none rfl _ _ _) rfl ?_)
    exact ⟨by first | rfl | (simp [errW_none, errW_some] <;> rfl) | (simp [*, errW_none, errW_some] <;> rfl), by repeat (first | (with_reducible first | exact HI0.out | apply IsS57.alloc | apply IsS57.drewN | apply IsS57.drew | apply IsS57.set_1 | apply IsS57.set_2) | exact HI0.out), by repeat (first | (with_reducible first | exact HB.out | apply below_alloc | apply pw_below_drewN | apply below_drew1 | refine below_set ?_ (IsS57.ge HI0.out)) | exact HB.out), by repeat (first | (with_reducible first | exact HK.out | apply KeepBut.set_ | apply keep_drewN | apply keep_drew | apply keep_alloc) | exact HK.out)⟩

theorem gangwayref1_Sint.eb {α : Type} [BEq α] [LawfulBEq α] {a b : α} (h : a = b) : (a == b) = true ∧ (a != b) = false := ⟨beq_iff_eq.mpr h, bne_eq_false_iff_eq.mpr h⟩
theorem gangwayref1_Sint.nb {α : Type} [BEq α] [LawfulBEq α] {a b : α} (h : ¬ a = b) : (a == b) = false ∧ (a != b) = true := ⟨beq_eq_false_iff_ne.mpr h, bne_iff_ne.mpr h⟩
theorem gangwayref1_Sint.e1 {α : Type _} (xs : List α) (i : Nat) (a : α) : xs.toArray.setIfInBounds i a = (xs.set i a).toArray := by simp
theorem gangwayref1_Sint.e2 {α : Type _} (x a : α) (xs : List α) : (x :: xs).set 0 a = a :: xs := rfl
theorem gangwayref1_Sint.e3 {α : Type _} (x a : α) (xs : List α) (n : Nat) : (x :: xs).set (n + 1) a = x :: xs.set n a := rfl
mutual
def gangwayref1_Sint.j0 : Nat → List Int → Int → Int → Int → Option (Int × Int)
 | 0, _, _, _, _ => none
 | k + 1, x0, x1, x6, x7 => gangwayref1_Sint.l0 k x0 x1 x6 x7 (wrap64 (x6 - 1))
def gangwayref1_Sint.l0 : Nat → List Int → Int → Int → Int → Int → Option (Int × Int)
 | 0, _, _, _, _, _ => none
 | k + 1, x0, x1, x6, x7, x8 => if x8 ≥ 0 then (if x7 > 72057594037927935 then (some (0, 0)) else (if x7 < (-72057594037927936) then (some (0, 0)) else (if 0 ≤ x8 then (if x8 < (x0.length : Int) then (gangwayref1_Sint.l0 k x0 x1 x6 (Go.bits .or .i64 (wrap64 (x7 * 128)) (wrap64 (Int.tmod (rd x0 x8) 128))) (wrap64 (x8 - 1))) else (none)) else (none)))) else (if x1 < 64 then (if 0 ≤ (wrap64 (x1 - 1)) then (if x7 < (shl .i64 (-1) (wrap64 (x1 - 1))) then (some (0, 0)) else (if x7 ≥ (shl .i64 1 (wrap64 (x1 - 1))) then (some (0, 0)) else (some (x7, x6)))) else (none)) else (some (x7, x6)))
end
def gangwayref1_Sint.f (k : Nat) (l0 : List Int) (a1 : Int) : Option (Int × Int) := (gangwayref1_size.f k l0 a1).bind fun t253 => (if t253 = 0 then (some (0, 0)) else (if 0 ≤ (wrap64 (t253 - 1)) then (if (wrap64 (t253 - 1)) < (l0.length : Int) then (if (Go.bits .and .u8 (rd l0 (wrap64 (t253 - 1))) 64) = 0 then (gangwayref1_Sint.j0 k l0 a1 t253 0) else (gangwayref1_Sint.j0 k l0 a1 t253 (-1))) else (none)) else (none)))
theorem gangwayref1_Sint.mono_l : ∀ k, (∀ y0 y1 y2 y3, LeO (gangwayref1_Sint.j0 k y0 y1 y2 y3) (gangwayref1_Sint.j0 (k + 1) y0 y1 y2 y3)) ∧ (∀ y0 y1 y2 y3 y4, LeO (gangwayref1_Sint.l0 k y0 y1 y2 y3 y4) (gangwayref1_Sint.l0 (k + 1) y0 y1 y2 y3 y4))
 | 0 => ⟨fun _ _ _ _ r h => by simp [gangwayref1_Sint.j0] at h, fun _ _ _ _ _ r h => by simp [gangwayref1_Sint.l0] at h⟩
 | k + 1 => by
  obtain ⟨ih0, ih1⟩ := gangwayref1_Sint.mono_l k; refine ⟨?_, ?_⟩ <;> (intros; (first | unfold gangwayref1_Sint.j0 | unfold gangwayref1_Sint.l0); repeat' first | (with_reducible apply ih0) | (with_reducible apply ih1) | (with_reducible exact gangwayref1_size.mono _ _ _) | (with_reducible exact LeO.refl _) | (with_reducible exact LeO.none _) | (with_reducible refine LeO.ite ?_ ?_) | (with_reducible refine LeO.bind ?_ (fun _ => ?_)) | apply ih0 | apply ih1 | exact gangwayref1_size.mono _ _ _ | exact LeO.none _ | refine LeO.ite ?_ ?_ | refine LeO.bind ?_ (fun _ => ?_))
theorem gangwayref1_Sint.mono : ∀ a0 a1 k, LeO (gangwayref1_Sint.f k a0 a1) (gangwayref1_Sint.f (k + 1) a0 a1) := by
 intro a0 a1 k; obtain ⟨ih0, ih1⟩ := gangwayref1_Sint.mono_l k
 unfold gangwayref1_Sint.f
 repeat' first
   | (with_reducible apply ih0)
   | (with_reducible apply ih1)
   | (with_reducible exact gangwayref1_size.mono _ _ _)
   | (with_reducible exact LeO.refl _)
   | (with_reducible exact LeO.none _)
   | (with_reducible refine LeO.ite ?_ ?_)
   | (with_reducible refine LeO.bind ?_ (fun _ => ?_))
   | apply ih0
   | apply ih1
   | exact gangwayref1_size.mono _ _ _
   | exact LeO.none _
   | refine LeO.ite ?_ ?_
   | refine LeO.bind ?_ (fun _ => ?_)
theorem gangwayref1_Sint.aa_0 {p : Prop} (h : p := by repeat (first | exact HR0.out | (with_reducible refine Kd.C_alloc ?_ _) | (with_reducible refine Kd.C_drewN ?_ _) | (with_reducible refine Kd.C_drew ?_))) : p := h
theorem gangwayref1_Sint.am_ {p : Prop} (h : p) : Aside0 p := Aside0.mk h
theorem gangwayref1_Sint.bm_ {α β : Type _} {o : Option α} {f : α → Option β} {b : β} (h : o.bind f = some b) : ∃ a, o = some a ∧ f a = some b := Option.bind_eq_some_iff.mp h
set_option maxHeartbeats 8000000 in
set_option maxRecDepth 100000 in
theorem gangwayref1_Sint.calls (k : Nat) (A0 : Option Addr) (c0 : Nat) (l0 : List Int) (a1 : Int) (r1 : Int) (r2 : Int) (w : World) (hr0 : Kd.C (Kd.int .u8) w A0 l0.length l0) (hc0 : l0.length ≤ c0) (h : gangwayref1_Sint.f k l0 a1 = some (r1, r2)) :
  Calls Try.prog 67 #[.slice A0 l0.length c0, .int .i64 a1] w fun e w' => e = .returned (.tuple #[.int .i64 r1, .int .i64 r2]) ∧ Drawn0 w w' := by
 have HR0 := am_ hr0; have HC0 := am_ hc0; clear hr0 hc0; have H : ((gangwayref1_size.f k l0 a1).bind fun t253 => (if t253 = 0 then (some (0, 0)) else (if 0 ≤ (wrap64 (t253 - 1)) then (if (wrap64 (t253 - 1)) < (l0.length : Int) then (if (Go.bits .and .u8 (rd l0 (wrap64 (t253 - 1))) 64) = 0 then (j0 k l0 a1 t253 0) else (j0 k l0 a1 t253 (-1))) else (none)) else (none)))) = some (r1, r2) := h; clear h; replace H := bm_ H; obtain ⟨t253, A30, H⟩ := H; replace H : (if t253 = 0 then (some (0, 0)) else (if 0 ≤ (wrap64 (t253 - 1)) then (if (wrap64 (t253 - 1)) < (l0.length : Int) then (if (Go.bits .and .u8 (rd l0 (wrap64 (t253 - 1))) 64) = 0 then (j0 k l0 a1 t253 0) else (j0 k l0 a1 t253 (-1))) else (none)) else (none))) = some (r1, r2) := H; have A3 := am_ A30; clear A30; by_cases c4 : t253 = 0
 ·rw [if_pos c4] at H; obtain ⟨c4b0, c4b1⟩ := eb c4; clear c4; simp only [Option.some.injEq, Prod.mk.injEq] at H; obtain ⟨rfl, rfl⟩ := H; go_enter Try.func67, Try.ntmps67
  go_wp2_with (first | ((with_reducible refine gate_callee (f := 73) rfl ?_); refine goesL_ (some 11) rfl rfl Try.func73 (by kernel_rfl) rfl #[.slice A0 l0.length c0, .int .i64 a1] rfl (by (try simp only [List.map_toArray, List.map_cons, List.map_nil]); first | done | rfl | (simp only [List.length_drop, List.length_take]; rfl)) ?_; (with_reducible refine (gangwayref1_size.calls k _ _ l0 a1 t253 _ ?side1 ?side2 A3.out).mono ?_); (case side1 => exact aa_0); (case side2 => exact HC0.out); rintro e w' ⟨rfl, ⟨nd, rfl⟩⟩; refine ⟨_, rfl, ?_⟩))
  go_ret2
  exact ⟨es_, dr_⟩
 rw [if_neg c4] at H; obtain ⟨c4b0, c4b1⟩ := nb c4; obtain ⟨ji5, hji5⟩ : ∃ j_ : Int, (wrap64 (t253 - 1)) = j_ := ⟨_, rfl⟩
 replace H : (if 0 ≤ (ji5) then (if (ji5) < (l0.length : Int) then (if (Go.bits .and .u8 (rd l0 (ji5)) 64) = 0 then (j0 k l0 a1 t253 0) else (j0 k l0 a1 t253 (-1))) else (none)) else (none)) = some (r1, r2) := by first | (rw [hji5] at H; exact H) | (simp only [hji5] at H ⊢; exact H)
 (try rw [hji5] at A3); have hji5w : (IntKind.i64.wrap (t253 - 1)) = ji5 := (i64_w _).trans hji5; by_cases c6 : 0 ≤ (ji5)
 rotate_left
 ·rw [if_neg c6] at H; exact absurd H (by simp)
 rw [if_pos c6] at H; have c6b0 : decide (0 ≤ (ji5)) = true := decide_eq_true c6; clear c6; by_cases c7 : (ji5) < (l0.length : Int)
 rotate_left
 ·rw [if_neg c7] at H; exact absurd H (by simp)
 rw [if_pos c7] at H; have c7b0 : decide ((ji5) < (l0.length : Int)) = true := decide_eq_true c7; clear c7; have HC8 := am_ H; clear H; go_enter Try.func67, Try.ntmps67
 go_upto_if 20 with (first | ((with_reducible refine gate_callee (f := 73) rfl ?_); refine goesL_ (some 11) rfl rfl Try.func73 (by kernel_rfl) rfl #[.slice A0 l0.length c0, .int .i64 a1] rfl (by (try simp only [List.map_toArray, List.map_cons, List.map_nil]); first | done | rfl | (simp only [List.length_drop, List.length_take]; rfl)) ?_; (with_reducible refine (gangwayref1_size.calls k _ _ l0 a1 t253 _ ?side1 ?side2 A3.out).mono ?_); (case side1 => exact aa_0); (case side2 => exact HC0.out); rintro e w' ⟨rfl, ⟨nd, rfl⟩⟩; refine ⟨_, rfl, ?_⟩; have p254 : 0 ≤ ((ji5) : Int) := of_decide_eq_true (by first | (with_reducible assumption) | assumption); have q254 : (ji5) < (l0.length : Int) := of_decide_eq_true (by first | (with_reducible assumption) | assumption); obtain ⟨ad254, e254, hx254_0⟩ := Kd.at_int HR0.out (ji5) p254 q254; cases e254; replace p254 := eq_true p254; replace q254 := eq_true q254))
 (try simp only [Act.put, e1, e2, e3])
 go_cut [7] (fun v7 wc => ∃ (kq : Nat) (x7_7 : Int), v7 = .int .i64 x7_7 ∧ Aside0 (j0 kq l0 a1 t253 x7_7 = some (r1, r2)) ∧ Aside0 (kq ≤ k) ∧ Drawn0 w wc)
 case first =>
  have H := HC8.out; clear HC8; by_cases c9 : (Go.bits .and .u8 (rd l0 (ji5)) 64) = 0
  ·rw [if_pos c9] at H; obtain ⟨c9b0, c9b1⟩ := eb c9; clear c9; (first | rw [c9b0] | (simp only [i64_w, i32_w]; rw [c9b0]) | skip); have H' := am_ H; clear H; go_wp2; go_meet
   case rel => exact ⟨_, (0), (es_), H', ⟨by first | omega | exact Nat.le_refl _⟩, dr_⟩
  rw [if_neg c9] at H; obtain ⟨c9b0, c9b1⟩ := nb c9; (first | rw [c9b0] | (simp only [i64_w, i32_w]; rw [c9b0]) | skip); have H' := am_ H; clear H; go_wp2; go_meet
  case rel => exact ⟨_, ((-1)), (es_), H', ⟨by first | omega | exact Nat.le_refl _⟩, dr_⟩
 case rest =>
 clear HC8; (try clear c4); (try clear c4b0); (try clear c4b1); (try clear c6b0); (try clear c7b0); (try clear hx254_0); (try clear p254); (try clear q254); obtain ⟨kq, x7_7, rfl, HA, HJ7, ⟨mc7, rfl⟩⟩ := hcut
 cases kq with
 | zero => exact absurd HA.out (by simp [j0])
 | succ kj7 =>
 have H := HA.out; clear HA; simp only [j0] at H; have H' := am_ H; clear H; go_wp2
 go_loopg [7, 8] kj7 (fun kq v7 v8 w' => ∃ (x7_2 : Int) (x8_2 : Int), v7 = .int .i64 x7_2 ∧ v8 = .int .i64 x8_2 ∧ Aside0 (gangwayref1_Sint.l0 kq l0 a1 t253 x7_2 x8_2 = some (r1, r2)) ∧ Aside0 (kq ≤ kj7) ∧ Drawn0 w w')
 case atStart => exact ⟨(x7_7), (wrap64 (t253 - 1)), (es_), (es_), H', ⟨Nat.le_refl _⟩, dr_⟩
 case round =>
 clear H'; obtain ⟨x7_2, x8_2, rfl, rfl, HA, HK2, ⟨m2, rfl⟩⟩ := hrel
 cases gk with
 | zero => exact absurd HA.out (by simp [gangwayref1_Sint.l0])
 | succ k2 =>
 have H := HA.out; clear HA; simp only [gangwayref1_Sint.l0] at H; by_cases c10 : x8_2 ≥ 0
 ·rw [if_pos c10] at H; have c10b0 : decide (0 ≤ x8_2) = true := decide_eq_true c10; clear c10; by_cases c11 : x7_2 > 72057594037927935
  ·rw [if_pos c11] at H; have c11b0 : decide (72057594037927935 < x7_2) = true := decide_eq_true c11; clear c11; simp only [Option.some.injEq, Prod.mk.injEq] at H; obtain ⟨rfl, rfl⟩ := H; go_wp2
   go_ret2
   exact ⟨by first | rfl | (simp; done) | (simp only [← hji5] <;> (first | rfl | simp)) | (simp [*]; done), dr_⟩
  rw [if_neg c11] at H; have c11b0 : decide (72057594037927935 < x7_2) = false := decide_eq_false c11; clear c11; by_cases c12 : x7_2 < (-72057594037927936)
  ·rw [if_pos c12] at H; have c12b0 : decide (x7_2 < (-72057594037927936)) = true := decide_eq_true c12; clear c12; simp only [Option.some.injEq, Prod.mk.injEq] at H; obtain ⟨rfl, rfl⟩ := H; go_wp2
   go_ret2
   exact ⟨by first | rfl | (simp; done) | (simp only [← hji5] <;> (first | rfl | simp)) | (simp [*]; done), dr_⟩
  rw [if_neg c12] at H; have c12b0 : decide (x7_2 < (-72057594037927936)) = false := decide_eq_false c12; clear c12; by_cases c13 : 0 ≤ x8_2
  rotate_left
  ·rw [if_neg c13] at H; exact absurd H (by simp)
  rw [if_pos c13] at H; have c13b0 : decide (0 ≤ x8_2) = true := decide_eq_true c13; clear c13; by_cases c14 : x8_2 < (l0.length : Int)
  rotate_left
  ·rw [if_neg c14] at H; exact absurd H (by simp)
  rw [if_pos c14] at H; have c14b0 : decide (x8_2 < (l0.length : Int)) = true := decide_eq_true c14; clear c14; have H' := am_ H; clear H; have p255 : 0 ≤ (x8_2 : Int) := of_decide_eq_true (by first | (with_reducible assumption) | assumption); have q255 : x8_2 < (l0.length : Int) := of_decide_eq_true (by first | (with_reducible assumption) | assumption); obtain ⟨ad255, e255, hx255_0⟩ := Kd.at_int HR0.out x8_2 p255 q255; obtain rfl : ad254 = ad255 := (by injection e255); replace p255 := eq_true p255; replace q255 := eq_true q255; go_wp2
  go_roundg k2
  case measure => have := HJ7.out; have := HK2.out; omega
  case rel => exact ⟨(Go.bits .or .i64 (wrap64 (x7_2 * 128)) (wrap64 (Int.tmod (rd l0 x8_2) 128))), (wrap64 (x8_2 - 1)), (es_), (es_), H', ⟨by have := HJ7.out; have := HK2.out; omega⟩, dr_⟩
 rw [if_neg c10] at H; have c10b0 : decide (0 ≤ x8_2) = false := decide_eq_false c10; clear c10; by_cases c15 : a1 < 64
 rotate_left
 ·rw [if_neg c15] at H; have c15b0 : decide (a1 < 64) = false := decide_eq_false c15; clear c15; simp only [Option.some.injEq, Prod.mk.injEq] at H; obtain ⟨rfl, rfl⟩ := H; go_wp2
  go_ret2
  exact ⟨by first | rfl | (simp; done) | (simp only [← hji5] <;> (first | rfl | simp)) | (simp [*]; done), dr_⟩
 rw [if_pos c15] at H; have c15b0 : decide (a1 < 64) = true := decide_eq_true c15; clear c15; obtain ⟨ji16, hji16⟩ : ∃ j_ : Int, (wrap64 (a1 - 1)) = j_ := ⟨_, rfl⟩
 replace H : (if 0 ≤ (ji16) then (if x7_2 < (shl .i64 (-1) (ji16)) then (some (0, 0)) else (if x7_2 ≥ (shl .i64 1 (ji16)) then (some (0, 0)) else (some (x7_2, t253)))) else (none)) = some (r1, r2) := by first | (rw [hji16] at H; exact H) | (simp only [hji16] at H ⊢; exact H)
 have hji16w : (IntKind.i64.wrap (a1 - 1)) = ji16 := (i64_w _).trans hji16; by_cases c17 : 0 ≤ (ji16)
 rotate_left
 ·rw [if_neg c17] at H; exact absurd H (by simp)
 rw [if_pos c17] at H; have c17b0 := eq_true c17; have c17b1 : decide (0 ≤ (ji16)) = true := decide_eq_true c17; clear c17; obtain ⟨ji18, hji18⟩ : ∃ j_ : Int, (shl .i64 (-1) (ji16)) = j_ := ⟨_, rfl⟩
 replace H : (if x7_2 < (ji18) then (some (0, 0)) else (if x7_2 ≥ (shl .i64 1 (ji16)) then (some (0, 0)) else (some (x7_2, t253)))) = some (r1, r2) := by first | (rw [hji18] at H; exact H) | (simp only [hji18] at H ⊢; exact H)
 have hji18_ : (IntKind.i64.wrap ((-1) * 2 ^ min (ji16).toNat 64)) = ji18 := hji18; have hji18z : (ji16) ≤ 64 → (IntKind.i64.wrap ((-1) * 2 ^ (ji16).toNat)) = ji18 := shl_small hji18; have hji18n : (IntKind.i64.wrap (-2 ^ min (ji16).toNat 64)) = ji18 := by have h_ := hji18_; rw [Int.neg_one_mul] at h_; exact h_
 have hji18nb : (ji16) ≤ 64 → (IntKind.i64.wrap (-2 ^ (ji16).toNat)) = ji18 := fun hle_ => by have h_ := hji18z hle_; rw [Int.neg_one_mul] at h_; exact h_
 have hji18nw : (wrap64 (-2 ^ min (ji16).toNat 64)) = ji18 := (i64_w _).symm.trans hji18n; have hji18nc : (ji16) ≤ 64 → (wrap64 (-2 ^ (ji16).toNat)) = ji18 := fun h_ => (i64_w _).symm.trans (hji18nb h_)
 have hji18y : (wrap64 ((-1) * 2 ^ min (ji16).toNat 64)) = ji18 := (i64_w _).symm.trans hji18_; have hji18x : (ji16) ≤ 64 → (wrap64 ((-1) * 2 ^ (ji16).toNat)) = ji18 := fun h_ => (i64_w _).symm.trans (hji18z h_)
 by_cases c19 : x7_2 < (ji18)
 ·rw [if_pos c19] at H; have c19b0 : decide (x7_2 < (ji18)) = true := decide_eq_true c19; clear c19; simp only [Option.some.injEq, Prod.mk.injEq] at H; obtain ⟨rfl, rfl⟩ := H; go_wp2
  go_ret2
  exact ⟨by first | rfl | (simp; done) | (simp only [← hji5, ← hji16, ← hji18] <;> (first | rfl | simp)) | (simp [*]; done), dr_⟩
 rw [if_neg c19] at H; have c19b0 : decide (x7_2 < (ji18)) = false := decide_eq_false c19; clear c19; have c20b0 := eq_true (of_decide_eq_true (by first | (with_reducible assumption) | assumption) : 0 ≤ (ji16)); obtain ⟨ji21, hji21⟩ : ∃ j_ : Int, (shl .i64 1 (ji16)) = j_ := ⟨_, rfl⟩
 replace H : (if x7_2 ≥ (ji21) then (some (0, 0)) else (some (x7_2, t253))) = some (r1, r2) := by first | (rw [hji21] at H; exact H) | (simp only [hji21] at H ⊢; exact H)
 have hji21_ : (IntKind.i64.wrap (1 * 2 ^ min (ji16).toNat 64)) = ji21 := hji21; have hji21z : (ji16) ≤ 64 → (IntKind.i64.wrap (1 * 2 ^ (ji16).toNat)) = ji21 := shl_small hji21; have hji21u : (IntKind.i64.wrap (2 ^ min (ji16).toNat 64)) = ji21 := by have h_ := hji21_; rw [Int.one_mul] at h_; exact h_
 have hji21v : (ji16) ≤ 64 → (IntKind.i64.wrap (2 ^ (ji16).toNat)) = ji21 := fun hle_ => by have h_ := hji21z hle_; rw [Int.one_mul] at h_; exact h_
 have hji21y : (wrap64 (1 * 2 ^ min (ji16).toNat 64)) = ji21 := (i64_w _).symm.trans hji21_; have hji21x : (ji16) ≤ 64 → (wrap64 (1 * 2 ^ (ji16).toNat)) = ji21 := fun h_ => (i64_w _).symm.trans (hji21z h_)
 by_cases c22 : x7_2 ≥ (ji21)
 ·rw [if_pos c22] at H; have c22b0 : decide ((ji21) ≤ x7_2) = true := decide_eq_true c22; clear c22; simp only [Option.some.injEq, Prod.mk.injEq] at H; obtain ⟨rfl, rfl⟩ := H; go_wp2
  go_ret2
  exact ⟨by first | rfl | (simp; done) | (simp only [← hji5, ← hji16, ← hji18, ← hji21] <;> (first | rfl | simp)) | (simp [*]; done), dr_⟩
 rw [if_neg c22] at H; have c22b0 : decide ((ji21) ≤ x7_2) = false := decide_eq_false c22; clear c22; simp only [Option.some.injEq, Prod.mk.injEq] at H; obtain ⟨rfl, rfl⟩ := H; go_wp2
 go_ret2
 exact ⟨by first | rfl | (simp; done) | (simp only [← hji5, ← hji16, ← hji18, ← hji21] <;> (first | rfl | simp)) | (simp [*]; done), dr_⟩
end Go.Proofs.Ytlahigmoljflkaa.PAll
