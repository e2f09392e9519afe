/- Printed by a copy of the printer that was turned for this claim: functions as plain Lean functions, with proofs that their calls come to these; or words that such proofs use. -/
import Derived.Test.YtlahigmoljflkaaPAllx0
import Derived.Test.YtlahigmoljflkaaPAllx7
import Derived.Test.YtlahigmoljflkaaPAllx8
import Derived.Test.YtlahigmoljflkaaPAllx10
namespace Go.Proofs.Ytlahigmoljflkaa.PAll
open Go.RowKit Go.Proofs.YtlahigmoljflkaaW.PrintWords Go.Proofs.YtlahigmoljflkaaW.PrintLast Go.Proofs.YtlahigmoljflkaaW.PrintMore
attribute [local go_sem] max2_int min2_int max_two min_two max_three min_three max_four min_four   -- for this text's walks alone
set_option linter.unusedVariables false
set_option linter.unusedSimpArgs false

def gangwayref5_reader_signed.f (k : Nat) (s0_0 : List Int) (s0_1 : Int) (s0_2 : Bool) (a1 : Int) : Option (Int × Int × Bool) := if s0_2 = true then (some (0, s0_1, s0_2)) else (if 0 ≤ s0_1 then (if s0_1 ≤ (s0_0.length : Int) then ((gangwayref1_Sint.f k (s0_0.drop (s0_1 : Int).toNat) a1).bind fun bt260 => (if bt260.2 = 0 then (some (0, s0_1, true)) else (some (bt260.1, wrap64 (s0_1 + bt260.2), s0_2)))) else (none)) else (none))
theorem gangwayref5_reader_signed.mono : ∀ a0 a1 a2 a3 k, LeO (gangwayref5_reader_signed.f k a0 a1 a2 a3) (gangwayref5_reader_signed.f (k + 1) a0 a1 a2 a3) := by
  intro a0 a1 a2 a3 k
  unfold gangwayref5_reader_signed.f
  repeat' first
      | (with_reducible exact gangwayref1_Sint.mono _ _ _)
      | (with_reducible exact LeO.refl _)
      | (with_reducible exact LeO.none _)
      | (with_reducible refine LeO.ite ?_ ?_)
      | (with_reducible refine LeO.bind ?_ (fun _ => ?_))
      | exact gangwayref1_Sint.mono _ _ _
      | exact LeO.none _
      | refine LeO.ite ?_ ?_
      | refine LeO.bind ?_ (fun _ => ?_)
set_option maxHeartbeats 8000000 in
set_option maxRecDepth 100000 in
theorem gangwayref5_reader_signed.calls (k : Nat) (g : Nat) (s0_0 : List Int) (s0_1 : Int) (s0_2 : Bool) (a1 : Int) (r1 : Int) (r2 : Int) (r3 : Bool) (w0 w : World) (hI : IsS57 w0 w g s0_0 s0_1 s0_2) (hB : Below w0.heap.size w0 w) (h : gangwayref5_reader_signed.f k s0_0 s0_1 s0_2 a1 = some (r1, r2, r3)) :
    Calls Try.prog 56 #[.pointer (some ⟨g, 0, none⟩), .int .i64 a1] w fun e w' => e = .returned (.int .i64 r1) ∧ IsS57 w0 w' g s0_0 r2 r3 ∧ Below w0.heap.size w0 w' ∧ KeepBut w w' g none := by
  have HI0 := Aside0.mk hI
  have HK := Aside0.mk (KeepBut.refl w g none)
  have HL := Aside0.mk hB.size
  clear hI
  have HW0 := Aside0.mk hB.size
  have HB := Aside0.mk hB
  clear hB
  have H : (if s0_2 = true then (some (0, s0_1, s0_2)) else (if 0 ≤ s0_1 then (if s0_1 ≤ (s0_0.length : Int) then ((gangwayref1_Sint.f k (s0_0.drop (s0_1 : Int).toNat) a1).bind fun bt260 => (if bt260.2 = 0 then (some (0, s0_1, true)) else (some (bt260.1, wrap64 (s0_1 + bt260.2), s0_2)))) else (none)) else (none))) = some (r1, r2, r3) := h
  clear h
  by_cases c3 : s0_2 = true
  · subst c3
    have H1 : (some (0, s0_1, true)) = some (r1, r2, r3) := by rw [if_pos rfl] at H; exact H
    clear H
    have H := H1
    clear H1
    simp only [Option.some.injEq, Prod.mk.injEq] at H
    obtain ⟨rfl, rfl, rfl⟩ := H
    obtain ⟨ASz4_0, cSz4_0, HGz4, hgz4, HSz4_0⟩ := HI0.out
    have hcz4_0 := cellS57_0 HGz4
    have hcz4_1 := cellS57_1 HGz4
    have hcz4_2 := cellS57_2 HGz4
    have hfz4_1 := blk_frozen HGz4 1
    have hfz4_2 := blk_frozen HGz4 2
    clear HGz4 hgz4
    go_enter Try.func56, Try.ntmps56
    go_wp2
    repeat (go_quiet (fail); try go_wp2)
    go_ret
    exact ⟨by first | rfl | (simp [errW_none, errW_some] <;> rfl) | (simp [*, errW_none, errW_some] <;> rfl), by repeat (first | (with_reducible first | exact HI0.out | apply IsS57.alloc | apply IsS57.drewN | apply IsS57.drew | apply IsS57.set_1 | apply IsS57.set_2) | exact HI0.out), by repeat (first | (with_reducible first | exact HB.out | apply below_alloc | apply pw_below_drewN | apply below_drew1 | refine below_set ?_ (IsS57.ge HI0.out)) | exact HB.out), by repeat (first | (with_reducible first | exact HK.out | apply KeepBut.set_ | apply keep_drewN | apply keep_drew | apply keep_alloc) | exact HK.out)⟩
  · replace c3 := Bool.eq_false_iff.mpr c3
    subst c3
    have H1 : (if 0 ≤ s0_1 then (if s0_1 ≤ (s0_0.length : Int) then ((gangwayref1_Sint.f k (s0_0.drop (s0_1 : Int).toNat) a1).bind fun bt260 => (if bt260.2 = 0 then (some (0, s0_1, true)) else (some (bt260.1, wrap64 (s0_1 + bt260.2), false)))) else (none)) else (none)) = some (r1, r2, r3) := by rw [if_neg (show ¬ (false = true) by decide)] at H; exact H
    clear H
    have H := H1
    clear H1
    by_cases c5 : 0 ≤ s0_1
    · rw [if_pos c5] at H
      have c5b0 := eq_true c5
      have c5b1 : decide (0 ≤ s0_1) = true := decide_eq_true c5
      clear c5
      by_cases c6 : s0_1 ≤ (s0_0.length : Int)
      · rw [if_pos c6] at H
        have c6b0 := eq_true c6
        have c6b1 : decide (s0_1 ≤ (s0_0.length : Int)) = true := decide_eq_true c6
        clear c6
        obtain ⟨y256, hy256⟩ : ∃ y_ : List Int, y_ = (s0_0.drop (s0_1 : Int).toNat) := ⟨_, rfl⟩
        replace H : ((gangwayref1_Sint.f k y256 a1).bind fun bt260 => (if bt260.2 = 0 then (some (0, s0_1, true)) else (some (bt260.1, wrap64 (s0_1 + bt260.2), false)))) = some (r1, r2, r3) := by first | (rw [hy256]; with_reducible exact H) | (have H2_ := (Option.bind_some _ _).symm.trans H; rw [hy256]; with_reducible exact H2_) | (have H2_ := (Option.bind_some _ _).symm.trans H; with_reducible exact H2_) | with_reducible exact H | (rw [hy256]; exact H) | exact H
        have Ny256 := Aside0.mk hy256
        clear hy256
        replace H := Option.bind_eq_some_iff.mp H
        obtain ⟨⟨t260, t261⟩, A70, H⟩ := H
        replace H : (if t261 = 0 then (some (0, s0_1, true)) else (some (t260, wrap64 (s0_1 + t261), false))) = some (r1, r2, r3) := H
        have A7 := Aside0.mk A70
        clear A70
        by_cases c8 : t261 = 0
        · rw [if_pos c8] at H
          have c8b0 : (t261 == 0) = true := beq_iff_eq.mpr c8
          have c8b1 : (t261 != 0) = false := bne_eq_false_iff_eq.mpr c8
          clear c8
          simp only [Option.some.injEq, Prod.mk.injEq] at H
          obtain ⟨rfl, rfl, rfl⟩ := H
          obtain ⟨ASz9_0, cSz9_0, HGz9, hgz9, HSz9_0⟩ := HI0.out
          have hcz9_0 := cellS57_0 HGz9
          have hcz9_1 := cellS57_1 HGz9
          have hcz9_2 := cellS57_2 HGz9
          have hfz9_1 := blk_frozen HGz9 1
          have hfz9_2 := blk_frozen HGz9 2
          clear HGz9 hgz9
          have q10 : (s0_1 : Int) ≤ ((s0_0.length : Int) : Int) := of_decide_eq_true (by first | (with_reducible assumption) | assumption)
          obtain ⟨i010, hi010, _, hsz10, _⟩ := info_parts info5
          have hroom10 : s0_0.length ≤ cSz9_0 := HSz9_0.1
          have hC10 : Kd.C (Kd.int .u8) _ ASz9_0 s0_0.length s0_0 := (Kd.C_below HSz9_0.2 HB.out)
          have q010 : (0 : Int) ≤ (s0_1 : Int) := of_decide_eq_true (by first | (with_reducible assumption) | assumption)
          have hcut10 := cut_from (P := Try.prog) 24 5 .i64 Try.underlying24 hi010 1 hsz10 ASz9_0 s0_0.length cSz9_0 s0_1 q010 q10
          have hr10 := Kd.C_drop (m := (s0_1 : Int).toNat) (c := cSz9_0) hC10 (by omega) hroom10
          obtain ⟨A10, hA10⟩ : ∃ A1, A1 = (if cSz9_0 = (s0_1 : Int).toNat then ASz9_0 else (ASz9_0 : Option Addr).map (·.add ((s0_1 : Int).toNat * 1))) := ⟨_, rfl⟩
          obtain ⟨c10, hc10⟩ : ∃ c1, c1 = cSz9_0 - (s0_1 : Int).toNat := ⟨_, rfl⟩
          have hy10 : y256.length = s0_0.length - (s0_1 : Int).toNat := (by rw [Ny256.out, List.length_drop] <;> omega)
          rw [show (s0_0).drop (s0_1 : Int).toNat = y256 from Ny256.out.symm] at hr10
          replace hr10 : Kd.C (Kd.int .u8) _ A10 y256.length y256 := (by rw [hA10]; exact hr10)
          rw [← hy10, ← hA10, ← hc10] at hcut10
          have HR259 := Aside0.mk hr10
          have HC259 := Aside0.mk (show y256.length ≤ c10 from by rw [hy10, hc10]; exact Nat.sub_le_sub_right hroom10 _)
          clear hr10 hC10 hroom10 hi010 hsz10 hc10
          have KY10 := Aside0.mk hy10
          have KA10 := Aside0.mk hA10
          clear hy10 hA10
          replace q10 := eq_true q10
          go_enter Try.func56, Try.ntmps56
          go_wp2_with (first | (go_at_call 67; (with_reducible refine (gangwayref1_Sint.calls k _ _ y256 a1 t260 t261 _ ?side1 ?side2 A7.out).mono ?_); (case side1 => repeat (first | exact (by repeat (first | (with_reducible exact HR259.out) | (with_reducible refine Kd.C_alloc ?_ _) | (with_reducible refine Kd.C_drewN ?_ _) | (with_reducible refine Kd.C_drew ?_) | exact HR259.out)) | (with_reducible refine Kd.C_alloc ?_ _) | (with_reducible refine Kd.C_drewN ?_ _) | (with_reducible refine Kd.C_drew ?_))); (case side2 => exact HC259.out); rintro e w' ⟨rfl, ⟨nd, rfl⟩⟩; (try first | exact ⟨rfl, _, World.drewN_drewN _ _ _⟩ | exact ⟨rfl, _, Eq.trans (World.drewN_drewN _ _ _) (congrArg (World.drewN _) (Nat.add_assoc _ _ _))⟩)))
          repeat (go_quiet (first | (go_at_call 67; (with_reducible refine (gangwayref1_Sint.calls k _ _ y256 a1 t260 t261 _ ?side1 ?side2 A7.out).mono ?_); (case side1 => repeat (first | exact (by repeat (first | (with_reducible exact HR259.out) | (with_reducible refine Kd.C_alloc ?_ _) | (with_reducible refine Kd.C_drewN ?_ _) | (with_reducible refine Kd.C_drew ?_) | exact HR259.out)) | (with_reducible refine Kd.C_alloc ?_ _) | (with_reducible refine Kd.C_drewN ?_ _) | (with_reducible refine Kd.C_drew ?_))); (case side2 => exact HC259.out); rintro e w' ⟨rfl, ⟨nd, rfl⟩⟩; (try first | exact ⟨rfl, _, World.drewN_drewN _ _ _⟩ | exact ⟨rfl, _, Eq.trans (World.drewN_drewN _ _ _) (congrArg (World.drewN _) (Nat.add_assoc _ _ _))⟩))); try go_wp2_with (first | (go_at_call 67; (with_reducible refine (gangwayref1_Sint.calls k _ _ y256 a1 t260 t261 _ ?side1 ?side2 A7.out).mono ?_); (case side1 => repeat (first | exact (by repeat (first | (with_reducible exact HR259.out) | (with_reducible refine Kd.C_alloc ?_ _) | (with_reducible refine Kd.C_drewN ?_ _) | (with_reducible refine Kd.C_drew ?_) | exact HR259.out)) | (with_reducible refine Kd.C_alloc ?_ _) | (with_reducible refine Kd.C_drewN ?_ _) | (with_reducible refine Kd.C_drew ?_))); (case side2 => exact HC259.out); rintro e w' ⟨rfl, ⟨nd, rfl⟩⟩; (try first | exact ⟨rfl, _, World.drewN_drewN _ _ _⟩ | exact ⟨rfl, _, Eq.trans (World.drewN_drewN _ _ _) (congrArg (World.drewN _) (Nat.add_assoc _ _ _))⟩))))
          go_ret
          exact ⟨by first | rfl | (simp [errW_none, errW_some] <;> rfl) | (simp [*, errW_none, errW_some] <;> rfl), by repeat (first | (with_reducible first | exact HI0.out | apply IsS57.alloc | apply IsS57.drewN | apply IsS57.drew | apply IsS57.set_1 | apply IsS57.set_2) | exact HI0.out), by repeat (first | (with_reducible first | exact HB.out | apply below_alloc | apply pw_below_drewN | apply below_drew1 | refine below_set ?_ (IsS57.ge HI0.out)) | exact HB.out), by repeat (first | (with_reducible first | exact HK.out | apply KeepBut.set_ | apply keep_drewN | apply keep_drew | apply keep_alloc) | exact HK.out)⟩
        · rw [if_neg c8] at H
          have c8b0 : (t261 == 0) = false := beq_eq_false_iff_ne.mpr c8
          have c8b1 : (t261 != 0) = true := bne_iff_ne.mpr c8
          simp only [Option.some.injEq, Prod.mk.injEq] at H
          obtain ⟨rfl, rfl, rfl⟩ := H
          obtain ⟨ASz11_0, cSz11_0, HGz11, hgz11, HSz11_0⟩ := HI0.out
          have hcz11_0 := cellS57_0 HGz11
          have hcz11_1 := cellS57_1 HGz11
          have hcz11_2 := cellS57_2 HGz11
          have hfz11_1 := blk_frozen HGz11 1
          have hfz11_2 := blk_frozen HGz11 2
          clear HGz11 hgz11
          have q12 : (s0_1 : Int) ≤ ((s0_0.length : Int) : Int) := of_decide_eq_true (by first | (with_reducible assumption) | assumption)
          obtain ⟨i012, hi012, _, hsz12, _⟩ := info_parts info5
          have hroom12 : s0_0.length ≤ cSz11_0 := HSz11_0.1
          have hC12 : Kd.C (Kd.int .u8) _ ASz11_0 s0_0.length s0_0 := (Kd.C_below HSz11_0.2 HB.out)
          have q012 : (0 : Int) ≤ (s0_1 : Int) := of_decide_eq_true (by first | (with_reducible assumption) | assumption)
          have hcut12 := cut_from (P := Try.prog) 24 5 .i64 Try.underlying24 hi012 1 hsz12 ASz11_0 s0_0.length cSz11_0 s0_1 q012 q12
          have hr12 := Kd.C_drop (m := (s0_1 : Int).toNat) (c := cSz11_0) hC12 (by omega) hroom12
          obtain ⟨A12, hA12⟩ : ∃ A1, A1 = (if cSz11_0 = (s0_1 : Int).toNat then ASz11_0 else (ASz11_0 : Option Addr).map (·.add ((s0_1 : Int).toNat * 1))) := ⟨_, rfl⟩
          obtain ⟨c12, hc12⟩ : ∃ c1, c1 = cSz11_0 - (s0_1 : Int).toNat := ⟨_, rfl⟩
          have hy12 : y256.length = s0_0.length - (s0_1 : Int).toNat := (by rw [Ny256.out, List.length_drop] <;> omega)
          rw [show (s0_0).drop (s0_1 : Int).toNat = y256 from Ny256.out.symm] at hr12
          replace hr12 : Kd.C (Kd.int .u8) _ A12 y256.length y256 := (by rw [hA12]; exact hr12)
          rw [← hy12, ← hA12, ← hc12] at hcut12
          have HR259 := Aside0.mk hr12
          have HC259 := Aside0.mk (show y256.length ≤ c12 from by rw [hy12, hc12]; exact Nat.sub_le_sub_right hroom12 _)
          clear hr12 hC12 hroom12 hi012 hsz12 hc12
          have KY12 := Aside0.mk hy12
          have KA12 := Aside0.mk hA12
          clear hy12 hA12
          replace q12 := eq_true q12
          go_enter Try.func56, Try.ntmps56
          go_wp2_with (first | (go_at_call 67; (with_reducible refine (gangwayref1_Sint.calls k _ _ y256 a1 t260 t261 _ ?side1 ?side2 A7.out).mono ?_); (case side1 => repeat (first | exact (by repeat (first | (with_reducible exact HR259.out) | (with_reducible refine Kd.C_alloc ?_ _) | (with_reducible refine Kd.C_drewN ?_ _) | (with_reducible refine Kd.C_drew ?_) | exact HR259.out)) | (with_reducible refine Kd.C_alloc ?_ _) | (with_reducible refine Kd.C_drewN ?_ _) | (with_reducible refine Kd.C_drew ?_))); (case side2 => exact HC259.out); rintro e w' ⟨rfl, ⟨nd, rfl⟩⟩; (try first | exact ⟨rfl, _, World.drewN_drewN _ _ _⟩ | exact ⟨rfl, _, Eq.trans (World.drewN_drewN _ _ _) (congrArg (World.drewN _) (Nat.add_assoc _ _ _))⟩)))
          repeat (go_quiet (first | (go_at_call 67; (with_reducible refine (gangwayref1_Sint.calls k _ _ y256 a1 t260 t261 _ ?side1 ?side2 A7.out).mono ?_); (case side1 => repeat (first | exact (by repeat (first | (with_reducible exact HR259.out) | (with_reducible refine Kd.C_alloc ?_ _) | (with_reducible refine Kd.C_drewN ?_ _) | (with_reducible refine Kd.C_drew ?_) | exact HR259.out)) | (with_reducible refine Kd.C_alloc ?_ _) | (with_reducible refine Kd.C_drewN ?_ _) | (with_reducible refine Kd.C_drew ?_))); (case side2 => exact HC259.out); rintro e w' ⟨rfl, ⟨nd, rfl⟩⟩; (try first | exact ⟨rfl, _, World.drewN_drewN _ _ _⟩ | exact ⟨rfl, _, Eq.trans (World.drewN_drewN _ _ _) (congrArg (World.drewN _) (Nat.add_assoc _ _ _))⟩))); try go_wp2_with (first | (go_at_call 67; (with_reducible refine (gangwayref1_Sint.calls k _ _ y256 a1 t260 t261 _ ?side1 ?side2 A7.out).mono ?_); (case side1 => repeat (first | exact (by repeat (first | (with_reducible exact HR259.out) | (with_reducible refine Kd.C_alloc ?_ _) | (with_reducible refine Kd.C_drewN ?_ _) | (with_reducible refine Kd.C_drew ?_) | exact HR259.out)) | (with_reducible refine Kd.C_alloc ?_ _) | (with_reducible refine Kd.C_drewN ?_ _) | (with_reducible refine Kd.C_drew ?_))); (case side2 => exact HC259.out); rintro e w' ⟨rfl, ⟨nd, rfl⟩⟩; (try first | exact ⟨rfl, _, World.drewN_drewN _ _ _⟩ | exact ⟨rfl, _, Eq.trans (World.drewN_drewN _ _ _) (congrArg (World.drewN _) (Nat.add_assoc _ _ _))⟩))))
          go_ret
          exact ⟨by first | rfl | (simp [errW_none, errW_some] <;> rfl) | (simp [*, errW_none, errW_some] <;> rfl), by repeat (first | (with_reducible first | exact HI0.out | apply IsS57.alloc | apply IsS57.drewN | apply IsS57.drew | apply IsS57.set_1 | apply IsS57.set_2) | exact HI0.out), by repeat (first | (with_reducible first | exact HB.out | apply below_alloc | apply pw_below_drewN | apply below_drew1 | refine below_set ?_ (IsS57.ge HI0.out)) | exact HB.out), by repeat (first | (with_reducible first | exact HK.out | apply KeepBut.set_ | apply keep_drewN | apply keep_drew | apply keep_alloc) | exact HK.out)⟩
      · rw [if_neg c6] at H
        exact absurd H (by simp)
    · rw [if_neg c5] at H
      exact absurd H (by simp)

theorem gangwayref5_reader_list.eb {α : Type} [BEq α] [LawfulBEq α] {a b : α} (h : a = b) : (a == b) = true ∧ (a != b) = false := ⟨beq_iff_eq.mpr h, bne_eq_false_iff_eq.mpr h⟩
theorem gangwayref5_reader_list.nb {α : Type} [BEq α] [LawfulBEq α] {a b : α} (h : ¬ a = b) : (a == b) = false ∧ (a != b) = true := ⟨beq_eq_false_iff_ne.mpr h, bne_iff_ne.mpr h⟩
theorem gangwayref5_reader_list.m_ {p q : Prop} (h : p) (k : q) : Aside0 p ∧ q := ⟨Aside0.mk h, k⟩
abbrev gangwayref5_reader_list.t : Bool := true
abbrev gangwayref5_reader_list.f_ : Bool := false
theorem gangwayref5_reader_list.bc {w : World} {g : Nat} {cs : Array Value} {t : TypeId} (h : Aside0 (w.heap[g]? = some (.cells cs t (0, 0)))) (i : Nat) {v : Value} (e : cs[i]? = some v := by rfl) : w.cell? ⟨g, i, none⟩ = some v := (blk_cell h.out i).trans e
theorem gangwayref5_reader_list.bbelow {W0 w w1 : World} {g : Nat} {o : Obj} (_b : Aside0 (W0.heap[g]? = some o)) (h : w.heap[g]? = some o) (hb : Below w.heap.size w w1) : w1.heap[g]? = some o := blk_below h hb
theorem gangwayref5_reader_list.e1 {α : Type _} (xs : List α) (i : Nat) (a : α) : xs.toArray.setIfInBounds i a = (xs.set i a).toArray := by simp
theorem gangwayref5_reader_list.e2 {α : Type _} (x a : α) (xs : List α) : (x :: xs).set 0 a = a :: xs := rfl
theorem gangwayref5_reader_list.e3 {α : Type _} (x a : α) (xs : List α) (n : Nat) : (x :: xs).set (n + 1) a = x :: xs.set n a := rfl
mutual
def gangwayref5_reader_list.q.j0 : Nat → Int → Int → Bool → List Int → Int → Bool → Int → Int → Int → Int → Int → Int → Option (Int × Int × Int × Int × Int × Int × List Int × (List (S45)) × (List (S45)) × Int × Bool)
 | 0, _, _, _, _, _, _, _, _, _, _, _, _ => none
 | k + 1, x1, x2, x41, x1000, x1001, x1002, x0z, x1z, x2z, x3z, x4z, x5z => if x41 = true then (some (x0z, x1z, x2z, x3z, x4z, x5z, ([] : List Int), ([] : List (S45)), ([] : List (S45)), x1001, true)) else ((gangwayref5_reader_list.f k x1000 x1001 x1002 (wrap64 (x2 - 1)) (x1 == 4)).bind fun bt268 => (if bt268.2.1 = 5 then ((gangwayref5_reader_list.f k x1000 bt268.2.2.1 bt268.2.2.2 (wrap64 (x2 - 1)) false).bind fun bt274 => (some (x0z, x1z, x2z, x3z, x4z, x5z, ([] : List Int), bt268.1, bt274.1, bt274.2.2.1, bt274.2.2.2))) else (some (x0z, x1z, x2z, x3z, x4z, x5z, ([] : List Int), bt268.1, ([] : List (S45)), bt268.2.2.1, bt268.2.2.2))))
def gangwayref5_reader_list.q.l0 : Nat → Int → Int → List Int → Int → Bool → Int → Int → Int → Int → Int → Int → List Int → Option (Int × Int × Int × Int × Int × Int × List Int × (List (S45)) × (List (S45)) × Int × Bool)
 | 0, _, _, _, _, _, _, _, _, _, _, _, _ => none
 | k + 1, x9, x10, x1000, x1001, x1002, x0z, x1z, x2z, x3z, x4z, x5z, x6z => if x10 < x9 then (if x1002 = true then ((gangwayref5_reader_number.f k x1000 x1001 x1002).bind fun bt286 => (some (x0z, x1z, bt286.1, x3z, x4z, x5z, x6z, ([] : List (S45)), ([] : List (S45)), bt286.2.1, bt286.2.2))) else ((gangwayref5_reader_number.f k x1000 x1001 x1002).bind fun bt289 => (if x6z.length < 17592186044416 then (gangwayref5_reader_list.q.l0 k x9 (wrap64 (x10 + 1)) x1000 bt289.2.1 bt289.2.2 x0z x1z x2z x3z x4z x5z (x6z ++ [bt289.1])) else (none)))) else ((gangwayref5_reader_number.f k x1000 x1001 x1002).bind fun bt295 => (some (x0z, x1z, bt295.1, x3z, x4z, x5z, x6z, ([] : List (S45)), ([] : List (S45)), bt295.2.1, bt295.2.2)))
def gangwayref5_reader_list.q.f : Nat → List Int → Int → Bool → Int → Int → Option (Int × Int × Int × Int × Int × Int × List Int × (List (S45)) × (List (S45)) × Int × Bool)
 | 0, _, _, _, _, _ => none
 | k + 1, s0_0, s0_1, s0_2, a1, a2 => (gangwayref5_shape.f k a1).bind fun t264 => (if t264 = 0 then (some (a1, 0, 0, 0, 0, 0, ([] : List Int), ([] : List (S45)), ([] : List (S45)), s0_1, true)) else (if t264 = 2 then ((gangwayref5_reader_byte.f s0_0 s0_1 s0_2).bind fun bt265 => (if bt265.1 = 64 then (gangwayref5_reader_list.q.j0 k a1 a2 (a2 == 0) s0_0 bt265.2.1 bt265.2.2 a1 bt265.1 0 0 0 0) else (if bt265.1 = 127 then (gangwayref5_reader_list.q.j0 k a1 a2 (a2 == 0) s0_0 bt265.2.1 bt265.2.2 a1 bt265.1 0 0 0 0) else (if bt265.1 = 126 then (gangwayref5_reader_list.q.j0 k a1 a2 (a2 == 0) s0_0 bt265.2.1 bt265.2.2 a1 bt265.1 0 0 0 0) else (gangwayref5_reader_list.q.j0 k a1 a2 true s0_0 bt265.2.1 bt265.2.2 a1 bt265.1 0 0 0 0))))) else (if t264 = 3 then ((gangwayref5_reader_number.f k s0_0 s0_1 s0_2).bind fun bt280 => (some (a1, 0, bt280.1, 0, 0, 0, ([] : List Int), ([] : List (S45)), ([] : List (S45)), bt280.2.1, bt280.2.2))) else (if t264 = 4 then ((gangwayref5_reader_number.f k s0_0 s0_1 s0_2).bind fun bt283 => (gangwayref5_reader_list.q.l0 k bt283.1 0 s0_0 bt283.2.1 bt283.2.2 a1 0 0 0 0 0 ([] : List Int))) else (if t264 = 5 then ((gangwayref5_reader_number.f k s0_0 s0_1 s0_2).bind fun bt298 => ((gangwayref5_reader_is.f s0_0 bt298.2.1 bt298.2.2 0).bind fun bt301 => (some (a1, 0, bt298.1, 0, 0, 0, ([] : List Int), ([] : List (S45)), ([] : List (S45)), bt301.1, bt301.2)))) else (if t264 = 6 then ((gangwayref5_reader_number.f k s0_0 s0_1 s0_2).bind fun bt303 => ((gangwayref5_reader_number.f k s0_0 bt303.2.1 bt303.2.2).bind fun bt306 => (some (a1, 0, 0, bt303.1, bt306.1, 0, ([] : List Int), ([] : List (S45)), ([] : List (S45)), bt306.2.1, bt306.2.2)))) else (if t264 = 7 then ((gangwayref5_reader_is.f s0_0 s0_1 s0_2 0).bind fun bt309 => (some (a1, 0, 0, 0, 0, 0, ([] : List Int), ([] : List (S45)), ([] : List (S45)), bt309.1, bt309.2))) else (if t264 = 8 then ((gangwayref5_reader_signed.f k s0_0 s0_1 s0_2 32).bind fun bt311 => (some (a1, 0, 0, 0, 0, bt311.1, ([] : List Int), ([] : List (S45)), ([] : List (S45)), bt311.2.1, bt311.2.2))) else (if t264 = 9 then ((gangwayref5_reader_signed.f k s0_0 s0_1 s0_2 64).bind fun bt314 => (some (a1, 0, 0, 0, 0, bt314.1, ([] : List Int), ([] : List (S45)), ([] : List (S45)), bt314.2.1, bt314.2.2))) else (some (a1, 0, 0, 0, 0, 0, ([] : List Int), ([] : List (S45)), ([] : List (S45)), s0_1, s0_2)))))))))))
def gangwayref5_reader_list.l0 : Nat → Int → Bool → List (S45) → List Int → Int → Bool → Option ((List (S45)) × Int × Int × Bool)
 | 0, _, _, _, _, _, _ => none
 | k + 1, x1, x2, x8, x1000, x1001, x1002 => if x1002 = true then (some (([] : List (S45)), 0, x1001, x1002)) else ((gangwayref5_reader_byte.f x1000 x1001 x1002).bind fun bt317 => (if bt317.1 = 11 then (some (x8, bt317.1, bt317.2.1, bt317.2.2)) else (if bt317.1 = 5 then (if x2 = true then (some (x8, bt317.1, bt317.2.1, bt317.2.2)) else ((gangwayref5_reader_list.q.f k x1000 bt317.2.1 bt317.2.2 bt317.1 x1).bind fun bt320 => (if x8.length < 1172812402961 then (gangwayref5_reader_list.l0 k x1 x2 (x8 ++ [(⟨bt320.1, bt320.2.1, bt320.2.2.1, bt320.2.2.2.1, bt320.2.2.2.2.1, bt320.2.2.2.2.2.1, bt320.2.2.2.2.2.2.1, bt320.2.2.2.2.2.2.2.1, bt320.2.2.2.2.2.2.2.2.1⟩ : S45)]) x1000 bt320.2.2.2.2.2.2.2.2.2.1 bt320.2.2.2.2.2.2.2.2.2.2) else (none)))) else ((gangwayref5_reader_list.q.f k x1000 bt317.2.1 bt317.2.2 bt317.1 x1).bind fun bt340 => (if x8.length < 1172812402961 then (gangwayref5_reader_list.l0 k x1 x2 (x8 ++ [(⟨bt340.1, bt340.2.1, bt340.2.2.1, bt340.2.2.2.1, bt340.2.2.2.2.1, bt340.2.2.2.2.2.1, bt340.2.2.2.2.2.2.1, bt340.2.2.2.2.2.2.2.1, bt340.2.2.2.2.2.2.2.2.1⟩ : S45)]) x1000 bt340.2.2.2.2.2.2.2.2.2.1 bt340.2.2.2.2.2.2.2.2.2.2) else (none))))))
def gangwayref5_reader_list.f : Nat → List Int → Int → Bool → Int → Bool → Option ((List (S45)) × Int × Int × Bool)
 | 0, _, _, _, _, _ => none
 | k + 1, s0_0, s0_1, s0_2, a1, a2 => gangwayref5_reader_list.l0 k a1 a2 ([] : List (S45)) s0_0 s0_1 s0_2
end
theorem gangwayref5_reader_list.mono_l : ∀ k, (∀ y0 y1 y2 y3 y4, LeO (gangwayref5_reader_list.f k y0 y1 y2 y3 y4) (gangwayref5_reader_list.f (k + 1) y0 y1 y2 y3 y4)) ∧ (∀ y0 y1 y2 y3 y4 y5, LeO (gangwayref5_reader_list.l0 k y0 y1 y2 y3 y4 y5) (gangwayref5_reader_list.l0 (k + 1) y0 y1 y2 y3 y4 y5)) ∧ (∀ y0 y1 y2 y3 y4, LeO (gangwayref5_reader_list.q.f k y0 y1 y2 y3 y4) (gangwayref5_reader_list.q.f (k + 1) y0 y1 y2 y3 y4)) ∧ (∀ y0 y1 y2 y3 y4 y5 y6 y7 y8 y9 y10 y11, LeO (gangwayref5_reader_list.q.j0 k y0 y1 y2 y3 y4 y5 y6 y7 y8 y9 y10 y11) (gangwayref5_reader_list.q.j0 (k + 1) y0 y1 y2 y3 y4 y5 y6 y7 y8 y9 y10 y11)) ∧ (∀ y0 y1 y2 y3 y4 y5 y6 y7 y8 y9 y10 y11, LeO (gangwayref5_reader_list.q.l0 k y0 y1 y2 y3 y4 y5 y6 y7 y8 y9 y10 y11) (gangwayref5_reader_list.q.l0 (k + 1) y0 y1 y2 y3 y4 y5 y6 y7 y8 y9 y10 y11))
 | 0 => ⟨fun _ _ _ _ _ r h => by simp [gangwayref5_reader_list.f] at h, fun _ _ _ _ _ _ r h => by simp [gangwayref5_reader_list.l0] at h, fun _ _ _ _ _ r h => by simp [gangwayref5_reader_list.q.f] at h, fun _ _ _ _ _ _ _ _ _ _ _ _ r h => by simp [gangwayref5_reader_list.q.j0] at h, fun _ _ _ _ _ _ _ _ _ _ _ _ r h => by simp [gangwayref5_reader_list.q.l0] at h⟩
 | k + 1 => by
  obtain ⟨ih0, ih1, ih2, ih3, ih4⟩ := gangwayref5_reader_list.mono_l k; refine ⟨?_, ?_, ?_, ?_, ?_⟩ <;> (intros; (first | unfold gangwayref5_reader_list.f | unfold gangwayref5_reader_list.l0 | unfold gangwayref5_reader_list.q.f | unfold gangwayref5_reader_list.q.j0 | unfold gangwayref5_reader_list.q.l0); repeat' first | (with_reducible apply ih0) | (with_reducible apply ih1) | (with_reducible apply ih2) | (with_reducible apply ih3) | (with_reducible apply ih4) | (with_reducible exact gangwayref5_reader_number.mono _ _ _ _) | (with_reducible exact gangwayref5_reader_signed.mono _ _ _ _ _) | (with_reducible exact gangwayref5_shape.mono _ _) | (with_reducible exact LeO.refl _) | (with_reducible exact LeO.none _) | (with_reducible refine LeO.ite ?_ ?_) | (with_reducible refine LeO.bind ?_ (fun _ => ?_)) | apply ih0 | apply ih1 | apply ih2 | apply ih3 | apply ih4 | exact gangwayref5_reader_number.mono _ _ _ _ | exact gangwayref5_reader_signed.mono _ _ _ _ _ | exact gangwayref5_shape.mono _ _ | exact LeO.none _ | refine LeO.ite ?_ ?_ | refine LeO.bind ?_ (fun _ => ?_))
theorem gangwayref5_reader_list.mono : ∀ a0 a1 a2 a3 a4 k, LeO (gangwayref5_reader_list.f k a0 a1 a2 a3 a4) (gangwayref5_reader_list.f (k + 1) a0 a1 a2 a3 a4) := by
 intro a0 a1 a2 a3 a4 k; obtain ⟨ih0, ih1, ih2, ih3, ih4⟩ := gangwayref5_reader_list.mono_l k; exact ih0 a0 a1 a2 a3 a4
theorem gangwayref5_reader_list.q.mono : ∀ a0 a1 a2 a3 a4 k, LeO (gangwayref5_reader_list.q.f k a0 a1 a2 a3 a4) (gangwayref5_reader_list.q.f (k + 1) a0 a1 a2 a3 a4) := by
  intro a0 a1 a2 a3 a4 k
  obtain ⟨ih0, ih1, ih2, ih3, ih4⟩ := gangwayref5_reader_list.mono_l k
  exact ih2 a0 a1 a2 a3 a4

end Go.Proofs.Ytlahigmoljflkaa.PAll
