import Derived.Test.YtlahigmoljflkaaPAllx0
import Derived.Test.YtlahigmoljflkaaPAllx7
import Derived.Test.YtlahigmoljflkaaPAllx12
import Derived.Test.YtlahigmoljflkaaPAllx13
import Derived.Test.YtlahigmoljflkaaPAllx14
namespace Go.Proofs.Ytlahigmoljflkaa.PAll
open Go.RowKit Go.Proofs.YtlahigmoljflkaaW.PrintWords Go.Proofs.YtlahigmoljflkaaW.PrintLast Go.Proofs.YtlahigmoljflkaaW.PrintMore
attribute [local go_sem] max2_int min2_int max_two min_two max_three min_three max_four min_four   -- for this text's walks alone
set_option linter.unusedVariables false
set_option linter.unusedSimpArgs false

-- NOT PRINTED: function 16 (gangwaylaw0_Instrs)

theorem gangwaylaw5_wakes.eb {α : Type} [BEq α] [LawfulBEq α] {a b : α} (h : a = b) : (a == b) = true ∧ (a != b) = false := ⟨beq_iff_eq.mpr h, bne_eq_false_iff_eq.mpr h⟩
theorem gangwaylaw5_wakes.m_ {p q : Prop} (h : p) (k : q) : Aside0 p ∧ q := ⟨Aside0.mk h, k⟩
def gangwaylaw5_wakes.f (k : Nat)  : Option (Bool) := (code_Decode.f k (([65, 1, 26, 11] : List Int))).bind fun bt387 => ((gangwaylaw5_num.f bt387.2.2).bind fun t392 => (if t392 = 0 then (if bt387.2.1 = 4 then ((gangwayref0_EqInstrs.f k bt387.1 (([(⟨65, 0, 0, 0, 0, 1, ([] : List Int), ([] : List (S45)), ([] : List (S45))⟩ : S45), (⟨26, 0, 0, 0, 0, 0, ([] : List Int), ([] : List (S45)), ([] : List (S45))⟩ : S45)] : List (S45)))).bind fun t396 => (some t396)) else (none)) else (none)))
theorem gangwaylaw5_wakes.mono : ∀ k, LeO (gangwaylaw5_wakes.f k ) (gangwaylaw5_wakes.f (k + 1) ) := by
 intro  k
 unfold gangwaylaw5_wakes.f
 repeat' first
   | (with_reducible exact code_Decode.mono _ _)
   | (with_reducible exact gangwayref0_EqInstrs.mono _ _ _)
   | (with_reducible exact LeO.refl _)
   | (with_reducible exact LeO.none _)
   | (with_reducible refine LeO.ite ?_ ?_)
   | (with_reducible refine LeO.bind ?_ (fun _ => ?_))
   | exact code_Decode.mono _ _
   | exact gangwayref0_EqInstrs.mono _ _ _
   | exact LeO.none _
   | refine LeO.ite ?_ ?_
   | refine LeO.bind ?_ (fun _ => ?_)
theorem gangwaylaw5_wakes.aa_0 {p : Prop} (h : p := by repeat (first | (with_reducible first | exact HB.out | apply below_alloc | apply pw_below_drewN | apply below_drew1) | exact HB.out)) : p := h
theorem gangwaylaw5_wakes.am_ {p : Prop} (h : p) : Aside0 p := Aside0.mk h
theorem gangwaylaw5_wakes.bm_ {α β : Type _} {o : Option α} {f : α → Option β} {b : β} (h : o.bind f = some b) : ∃ a, o = some a ∧ f a = some b := Option.bind_eq_some_iff.mp h
set_option maxHeartbeats 8000000 in
set_option maxRecDepth 100000 in
theorem gangwaylaw5_wakes.calls (k : Nat)  (r : Bool) (w : World) (h : gangwaylaw5_wakes.f k  = some r) :
  Calls Try.prog 17 #[] w fun e w' => e = .returned (.bool r) ∧ Below w.heap.size w w' := by
 have hu45 := Try.underlying45; have HB := am_ (Below.refl w.heap.size w); have H : ((code_Decode.f k (([65, 1, 26, 11] : List Int))).bind fun bt387 => ((gangwaylaw5_num.f bt387.2.2).bind fun t392 => (if t392 = 0 then (if bt387.2.1 = 4 then ((gangwayref0_EqInstrs.f k bt387.1 (([(⟨65, 0, 0, 0, 0, 1, ([] : List Int), ([] : List (S45)), ([] : List (S45))⟩ : S45), (⟨26, 0, 0, 0, 0, 0, ([] : List Int), ([] : List (S45)), ([] : List (S45))⟩ : S45)] : List (S45)))).bind fun t396 => (some t396)) else (none)) else (none)))) = some r := h; clear h; obtain ⟨y384, hy384⟩ : ∃ y_ : List Int, y_ = (([65, 1, 26, 11] : List Int)) := ⟨_, rfl⟩
 replace H : ((code_Decode.f k y384).bind fun bt387 => ((gangwaylaw5_num.f bt387.2.2).bind fun t392 => (if t392 = 0 then (if bt387.2.1 = 4 then ((gangwayref0_EqInstrs.f k bt387.1 (([(⟨65, 0, 0, 0, 0, 1, ([] : List Int), ([] : List (S45)), ([] : List (S45))⟩ : S45), (⟨26, 0, 0, 0, 0, 0, ([] : List Int), ([] : List (S45)), ([] : List (S45))⟩ : S45)] : List (S45)))).bind fun t396 => (some t396)) else (none)) else (none)))) = some r := by first | (rw [hy384]; with_reducible exact H) | (have H2_ := (Option.bind_some _ _).symm.trans H; rw [hy384]; with_reducible exact H2_) | (have H2_ := (Option.bind_some _ _).symm.trans H; with_reducible exact H2_) | with_reducible exact H | (rw [hy384]; exact H) | exact H
 have Ny384 := am_ hy384; clear hy384; replace H := bm_ H; obtain ⟨⟨t387, t388, t389⟩, A10, H⟩ := H; replace H : ((gangwaylaw5_num.f t389).bind fun t392 => (if t392 = 0 then (if t388 = 4 then ((gangwayref0_EqInstrs.f k t387 (([(⟨65, 0, 0, 0, 0, 1, ([] : List Int), ([] : List (S45)), ([] : List (S45))⟩ : S45), (⟨26, 0, 0, 0, 0, 0, ([] : List Int), ([] : List (S45)), ([] : List (S45))⟩ : S45)] : List (S45)))).bind fun t396 => (some t396)) else (none)) else (none))) = some r := H; have A1 := am_ A10; clear A10; replace H := bm_ H; obtain ⟨t392, A20, H⟩ := H; replace H : (if t392 = 0 then (if t388 = 4 then ((gangwayref0_EqInstrs.f k t387 (([(⟨65, 0, 0, 0, 0, 1, ([] : List Int), ([] : List (S45)), ([] : List (S45))⟩ : S45), (⟨26, 0, 0, 0, 0, 0, ([] : List Int), ([] : List (S45)), ([] : List (S45))⟩ : S45)] : List (S45)))).bind fun t396 => (some t396)) else (none)) else (none)) = some r := H; have A2 := am_ A20; clear A20; by_cases c3 : t392 = 0
 rotate_left
 ·rw [if_neg c3] at H; exact absurd H (by simp)
 rw [if_pos c3] at H; obtain ⟨c3b0, c3b1⟩ := eb c3; clear c3; by_cases c4 : t388 = 4
 rotate_left
 ·rw [if_neg c4] at H; exact absurd H (by simp)
 rw [if_pos c4] at H; obtain ⟨c4b0, c4b1⟩ := eb c4; clear c4; obtain ⟨y393, hy393⟩ : ∃ y_ : List (S45), y_ = (([(⟨65, 0, 0, 0, 0, 1, ([] : List Int), ([] : List (S45)), ([] : List (S45))⟩ : S45), (⟨26, 0, 0, 0, 0, 0, ([] : List Int), ([] : List (S45)), ([] : List (S45))⟩ : S45)] : List (S45))) := ⟨_, rfl⟩
 replace H : ((gangwayref0_EqInstrs.f k t387 y393).bind fun t396 => (some t396)) = some r := by first | (rw [hy393]; with_reducible exact H) | (have H2_ := (Option.bind_some _ _).symm.trans H; rw [hy393]; with_reducible exact H2_) | (have H2_ := (Option.bind_some _ _).symm.trans H; with_reducible exact H2_) | with_reducible exact H | (rw [hy393]; exact H) | exact H
 have Ny393 := am_ hy393; clear hy393; replace H := bm_ H; obtain ⟨t396, A50, H⟩ := H; replace H : (some t396) = some r := H; have A5 := am_ A50; clear A50; obtain rfl := Option.some.inj H; go_enter Try.func17, Try.ntmps17
 go_wp2_with (first | ((with_reducible refine gate_dst (N := 5) rfl ?_); (try (refine gate_guard (by rfl) ?_; dsimp only)); refine Kd.R_lit (Kd.int .u8) _ 5 ?hg (N := 5) ?hd (xs := ([65, 1, 26, 11] : List Int)) (inner := [.int .u8 65, .int .u8 1, .int .u8 26, .int .u8 11]) (ok := fun _ => True) (okp := fun _ => True) ?hr ?hp (fun _ hk => hk) trivial (Below.refl _ _) (Nat.le_refl _) (by simp) ?_; (case hd => rfl); (case hg => rfl); (case hr => first | (go_simp; done) | (go_simp; rfl)); (case hp => exact (Reps.one (show Kd.M (Kd.int .u8) _ _ _ 65 [.int .u8 65] from rfl) (Reps.one (show Kd.M (Kd.int .u8) _ _ _ 1 [.int .u8 1] from rfl) (Reps.one (show Kd.M (Kd.int .u8) _ _ _ 26 [.int .u8 26] from rfl) (Reps.one (show Kd.M (Kd.int .u8) _ _ _ 11 [.int .u8 11] from rfl) (Reps.none _ _)))))); intro v385 w6 ho7 hb hg_ hnew_; clear hg_ hnew_; (first | rw [← Ny384.out] at ho7 | (simp only [Int.reduceToNat] at ho7; rw [← Ny384.out] at ho7)); have N_ := m_ (Kd.R_lower ho7 (below_size aa_0)) <| am_ (below_step aa_0 hb); clear HB; obtain ⟨HO386, HB⟩ := N_; clear hb ho7; obtain ⟨Ao8, co8, eo8⟩ := Kd.R_slice HO386.out; subst eo8) | ((with_reducible refine gate_callee (f := 11) rfl ?_); refine goesL_ (some 6) rfl rfl Try.func11 (by kernel_rfl) rfl #[.slice Ao8 y384.length co8] rfl (by (try simp only [List.map_toArray, List.map_cons, List.map_nil]); first | done | rfl | (simp only [List.length_drop, List.length_take]; rfl)) ?_; (with_reducible refine (code_Decode.calls k _ _ y384 t387 t388 t389 _ ?side1 ?side2 A1.out).mono ?_); (case side1 => repeat (first | exact (Kd.R_reads' HO386.out).2.2 | (with_reducible refine Kd.C_alloc ?_ _) | (with_reducible refine Kd.C_drewN ?_ _) | (with_reducible refine Kd.C_drew ?_))); (case side2 => exact (Kd.R_reads' HO386.out).2.1); rintro e w9 ⟨v390, rfl, ho0, hb⟩; refine ⟨_, rfl, ?_⟩; have N_ := m_ (Kd.R_below (by (with_reducible repeat (first | apply Kd.R_alloc | apply Kd.R_drewN | apply Kd.R_drew)); exact HO386.out) hb) <| m_ (Kd.R_lower ho0 (below_size aa_0)) <| am_ (below_step aa_0 hb); clear HO386 HB; obtain ⟨HO386, HO391, HB⟩ := N_; (try clear hb); (try clear hb2); (try clear hk); (try clear hi); (try clear ho0)) | ((with_reducible refine gate_callee (f := 13) rfl ?_); refine goesL_ (some 11) rfl rfl Try.func13 (by kernel_rfl) rfl #[.int .i64 t389] rfl (by (try simp only [List.map_toArray, List.map_cons, List.map_nil]); first | done | rfl | (simp only [List.length_drop, List.length_take]; rfl)) ?_; (with_reducible refine (gangwaylaw5_num.calls t389 t392 _ A2.out).mono ?_); rintro e w' ⟨rfl, ⟨nd, rfl⟩⟩; refine ⟨_, rfl, ?_⟩) | ((with_reducible refine gate_dst (N := 21) rfl ?_); (try (refine gate_guard (by rfl) ?_; dsimp only)); refine Kd.R_lit k45 _ 45 ?hg (N := 21) ?hd (xs := ([(⟨65, 0, 0, 0, 0, 1, ([] : List Int), ([] : List (S45)), ([] : List (S45))⟩ : S45), (⟨26, 0, 0, 0, 0, 0, ([] : List Int), ([] : List (S45)), ([] : List (S45))⟩ : S45)] : List (S45))) (inner := [.int .i64 65, .int .i64 0, .int .i64 0, .int .i64 0, .int .i64 0, .int .i64 1, .slice none 0 0, .slice none 0 0, .slice none 0 0, .int .i64 26, .int .i64 0, .int .i64 0, .int .i64 0, .int .i64 0, .int .i64 0, .slice none 0 0, .slice none 0 0, .slice none 0 0]) (ok := fun _ => True) (okp := fun _ => True) ?hr ?hp (fun _ hk => hk) trivial (Below.refl _ _) (Nat.le_refl _) (by simp) ?_; (case hd => rfl); (case hg => rfl); (case hr => first | (go_simp; done) | (go_simp; rfl)); (case hp => exact (Reps.c9 (show Kd.M k45 _ _ _ (⟨65, 0, 0, 0, 0, 1, ([] : List Int), ([] : List (S45)), ([] : List (S45))⟩ : S45) [.int .i64 65, .int .i64 0, .int .i64 0, .int .i64 0, .int .i64 0, .int .i64 1, .slice none 0 0, .slice none 0 0, .slice none 0 0] from (k45_mkM _ _ _ (⟨65, 0, 0, 0, 0, 1, ([] : List Int), ([] : List (S45)), ([] : List (S45))⟩ : S45) (Kd.R_nil _ _ _ _ _) (Kd.R_nil _ _ _ _ _) (Kd.R_nil _ _ _ _ _))) (Reps.c9 (show Kd.M k45 _ _ _ (⟨26, 0, 0, 0, 0, 0, ([] : List Int), ([] : List (S45)), ([] : List (S45))⟩ : S45) [.int .i64 26, .int .i64 0, .int .i64 0, .int .i64 0, .int .i64 0, .int .i64 0, .slice none 0 0, .slice none 0 0, .slice none 0 0] from (k45_mkM _ _ _ (⟨26, 0, 0, 0, 0, 0, ([] : List Int), ([] : List (S45)), ([] : List (S45))⟩ : S45) (Kd.R_nil _ _ _ _ _) (Kd.R_nil _ _ _ _ _) (Kd.R_nil _ _ _ _ _))) (Reps.none _ _)))); intro v394 w10 ho11 hb hg_ hnew_; clear hg_ hnew_; (first | rw [← Ny393.out] at ho11 | (simp only [Int.reduceToNat] at ho11; rw [← Ny393.out] at ho11)); have N_ := m_ (Kd.R_below (by (with_reducible repeat (first | apply Kd.R_alloc | apply Kd.R_drewN | apply Kd.R_drew)); exact HO386.out) hb) <| m_ (Kd.R_elder' (by (with_reducible repeat (first | apply Kd.R_alloc | apply Kd.R_drewN | apply Kd.R_drew)); exact HO391.out) (Kd.R_base ho11) hb) <| m_ (Kd.R_lower (Kd.R_new' ho11 (Kd.R_lt (by (with_reducible repeat (first | apply Kd.R_alloc | apply Kd.R_drewN | apply Kd.R_drew)); exact HO391.out))) (below_size aa_0)) <| am_ (below_step aa_0 hb); clear HO386 HO391 HB; obtain ⟨HO386, HO391, HO395, HB⟩ := N_; clear hb ho11; obtain ⟨Ao12, co12, eo12⟩ := Kd.R_slice HO391.out; subst eo12; obtain ⟨Ao13, co13, eo13⟩ := Kd.R_slice HO395.out; subst eo13) | (go_at_call 14; (with_reducible refine (gangwayref0_EqInstrs.calls k _ _ t387 _ _ y393 t396 _ ?side1 ?side2 ?side3 ?side4 A5.out).mono ?_); (case side1 => repeat (first | exact (Kd.R_reads' HO391.out).2.2 | (with_reducible refine Kd.C_alloc ?_ _) | (with_reducible refine Kd.C_drewN ?_ _) | (with_reducible refine Kd.C_drew ?_))); (case side2 => exact (Kd.R_reads' HO391.out).2.1); (case side3 => repeat (first | exact (Kd.R_reads' HO395.out).2.2 | (with_reducible refine Kd.C_alloc ?_ _) | (with_reducible refine Kd.C_drewN ?_ _) | (with_reducible refine Kd.C_drew ?_))); (case side4 => exact (Kd.R_reads' HO395.out).2.1); rintro e w14 ⟨rfl, hb⟩; have N_ := m_ (Kd.R_below (by (with_reducible repeat (first | apply Kd.R_alloc | apply Kd.R_drewN | apply Kd.R_drew)); exact HO386.out) hb) <| m_ (Kd.R_below (by (with_reducible repeat (first | apply Kd.R_alloc | apply Kd.R_drewN | apply Kd.R_drew)); exact HO391.out) hb) <| m_ (Kd.R_below (by (with_reducible repeat (first | apply Kd.R_alloc | apply Kd.R_drewN | apply Kd.R_drew)); exact HO395.out) hb) <| am_ (below_step aa_0 hb); clear HO386 HO391 HO395 HB; obtain ⟨HO386, HO391, HO395, HB⟩ := N_; (try clear hb); (try clear hb2); (try clear hk); (try clear hi)))
 go_ret; exact ⟨er_, by repeat (first | (with_reducible first | exact HB.out | apply below_alloc | apply pw_below_drewN | apply below_drew1) | exact HB.out)⟩
-- NOT PRINTED: function 3 (gangwaylaw5_CodeDecodes)

def code_word.f (a0 : Int) : Option (Bool) := if a0 ≥ 0 then (some (decide (a0 < 4294967296))) else (some false)
set_option maxHeartbeats 8000000 in
set_option maxRecDepth 100000 in
theorem code_word.calls (a0 : Int) (r : Bool) (w : World) (h : code_word.f a0 = some r) :
    Calls Try.prog 60 #[.int .i64 a0] w fun e w' => e = .returned (.bool r) ∧ Drawn0 w w' := by
  have H : (if a0 ≥ 0 then (some (decide (a0 < 4294967296))) else (some false)) = some r := h
  clear h
  by_cases c2 : a0 ≥ 0
  · rw [if_pos c2] at H
    have c2b0 : decide (0 ≤ a0) = true := decide_eq_true c2
    clear c2
    obtain rfl := Option.some.inj H
    go_enter Try.func60, Try.ntmps60
    go_wp2
    go_ret
    exact ⟨by first | rfl | (simp; done) | (simp [*]; done), by repeat (first | exact Drawn0.refl _ | apply Drawn0.step)⟩
  · rw [if_neg c2] at H
    have c2b0 : decide (0 ≤ a0) = false := decide_eq_false c2
    clear c2
    obtain rfl := Option.some.inj H
    go_enter Try.func60, Try.ntmps60
    go_wp2
    go_ret
    exact ⟨by first | rfl | (simp; done) | (simp [*]; done), by repeat (first | exact Drawn0.refl _ | apply Drawn0.step)⟩

def code_good_1.f (a0 : Int) : Option (Bool) := (code_word.f a0).bind fun t416 => (some (!t416))
set_option maxHeartbeats 8000000 in
set_option maxRecDepth 100000 in
theorem code_good_1.calls (a0 : Int) (r : Bool) (w : World) (h : code_good_1.f a0 = some r) :
    Calls Try.prog 59 #[.int .i64 a0] w fun e w' => e = .returned (.bool r) ∧ Drawn0 w w' := by
  have H : ((code_word.f a0).bind fun t416 => (some (!t416))) = some r := h
  clear h
  replace H := Option.bind_eq_some_iff.mp H
  obtain ⟨t416, A20, H⟩ := H
  replace H : (some (!t416)) = some r := H
  have A2 := Aside0.mk A20
  clear A20
  obtain rfl := Option.some.inj H
  go_enter Try.func59, Try.ntmps59
  go_wp2_with (first | ((with_reducible refine gate_callee (f := 60) rfl ?_); refine goesL_ (some 4) rfl rfl Try.func60 (by kernel_rfl) rfl #[.int .i64 a0] rfl (by (try simp only [List.map_toArray, List.map_cons, List.map_nil]); first | done | rfl | (simp only [List.length_drop, List.length_take]; rfl)) ?_; (with_reducible refine (code_word.calls a0 t416 _ A2.out).mono ?_); rintro e w' ⟨rfl, ⟨nd, rfl⟩⟩; refine ⟨_, rfl, ?_⟩))
  go_ret
  exact ⟨by first | rfl | (simp; done) | (simp [*]; done), by repeat (first | exact Drawn0.refl _ | apply Drawn0.step)⟩

def code_good_1_slices_IndexFunc.l0 : Nat → List Int → Int → Int → Option (Int)
  | 0, _, _, _ => none
  | k + 1, x0, x7, x8 => if x8 < x7 then (if 0 ≤ x8 then (if x8 < (x0.length : Int) then ((code_good_1.f (rd x0 x8)).bind fun t418 => (if t418 = true then (some x8) else (code_good_1_slices_IndexFunc.l0 k x0 x7 (wrap64 (x8 + 1))))) else (none)) else (none)) else (some (-1))
def code_good_1_slices_IndexFunc.f (k : Nat) (l0 : List Int)  : Option (Int) := code_good_1_slices_IndexFunc.l0 k l0 (l0.length : Int) 0
theorem code_good_1_slices_IndexFunc.mono_l : ∀ k, (∀ y0 y1 y2, LeO (code_good_1_slices_IndexFunc.l0 k y0 y1 y2) (code_good_1_slices_IndexFunc.l0 (k + 1) y0 y1 y2))
  | 0 => fun _ _ _ r h => by simp [code_good_1_slices_IndexFunc.l0] at h
  | k + 1 => by
    have ih0 := code_good_1_slices_IndexFunc.mono_l k
    · intro y0 y1 y2
      unfold code_good_1_slices_IndexFunc.l0
      repeat' first
      | (with_reducible exact ih0 _ _ _)
      | (with_reducible exact LeO.refl _)
      | (with_reducible exact LeO.none _)
      | (with_reducible refine LeO.ite ?_ ?_)
      | (with_reducible refine LeO.bind ?_ (fun _ => ?_))
      | exact ih0 _ _ _
      | exact LeO.none _
      | refine LeO.ite ?_ ?_
      | refine LeO.bind ?_ (fun _ => ?_)
theorem code_good_1_slices_IndexFunc.mono : ∀ a0 k, LeO (code_good_1_slices_IndexFunc.f k a0) (code_good_1_slices_IndexFunc.f (k + 1) a0) := by
  intro a0 k
  have ih0 := code_good_1_slices_IndexFunc.mono_l k
  unfold code_good_1_slices_IndexFunc.f
  repeat' first
      | (with_reducible exact ih0 _ _ _)
      | (with_reducible exact LeO.refl _)
      | (with_reducible exact LeO.none _)
      | (with_reducible refine LeO.ite ?_ ?_)
      | (with_reducible refine LeO.bind ?_ (fun _ => ?_))
      | exact ih0 _ _ _
      | exact LeO.none _
      | refine LeO.ite ?_ ?_
      | refine LeO.bind ?_ (fun _ => ?_)
set_option maxHeartbeats 8000000 in
set_option maxRecDepth 100000 in
theorem code_good_1_slices_IndexFunc.calls (k : Nat) (A0 : Option Addr) (c0 : Nat) (l0 : List Int)  (r : Int) (w : World) (hr0 : Kd.C (Kd.int .i64) w A0 l0.length l0) (hc0 : l0.length ≤ c0) (h : code_good_1_slices_IndexFunc.f k l0 = some r) :
    Calls Try.prog 68 #[.slice A0 l0.length c0, .func (.func 59) #[] #[]] w fun e w' => e = .returned (.int .i64 r) ∧ Drawn0 w w' := by
  have HR0 := Aside0.mk hr0
  have HC0 := Aside0.mk hc0
  clear hr0 hc0
  have H : (code_good_1_slices_IndexFunc.l0 k l0 (l0.length : Int) 0) = some r := h
  clear h
  have H' := Aside0.mk H
  clear H
  go_enter Try.func68, Try.ntmps68
  go_wp2
  go_loopg [8] k (fun kq v8 w' => ∃ (x8_1 : Int), v8 = .int .i64 x8_1 ∧ Aside0 (code_good_1_slices_IndexFunc.l0 kq l0 (l0.length : Int) x8_1 = some r) ∧ Aside0 (kq ≤ k) ∧ Drawn0 w w')
  case atStart => exact ⟨(0), (by first | rfl | (simp; done) | (simp [*]; done)), H', ⟨Nat.le_refl _⟩, by repeat (first | exact Drawn0.refl _ | apply Drawn0.step)⟩
  case round =>
    clear H'
    try clear p2
    obtain ⟨x8_1, rfl, HA, HK1, ⟨m1, rfl⟩⟩ := hrel
    cases gk with
    | zero => exact absurd HA.out (by simp [code_good_1_slices_IndexFunc.l0])
    | succ k1 =>
      have H := HA.out
      clear HA
      simp only [code_good_1_slices_IndexFunc.l0] at H
      by_cases c3 : x8_1 < (l0.length : Int)
      · rw [if_pos c3] at H
        have c3b0 : decide (x8_1 < (l0.length : Int)) = true := decide_eq_true c3
        clear c3
        by_cases c4 : 0 ≤ x8_1
        · rw [if_pos c4] at H
          have c4b0 : decide (0 ≤ x8_1) = true := decide_eq_true c4
          clear c4
          by_cases c5 : x8_1 < (l0.length : Int)
          · rw [if_pos c5] at H
            have c5b0 : decide (x8_1 < (l0.length : Int)) = true := decide_eq_true c5
            clear c5
            replace H := Option.bind_eq_some_iff.mp H
            obtain ⟨t418, A60, H⟩ := H
            replace H : (if t418 = true then (some x8_1) else (code_good_1_slices_IndexFunc.l0 k1 l0 (l0.length : Int) (wrap64 (x8_1 + 1)))) = some r := H
            have A6 := Aside0.mk A60
            clear A60
            by_cases c7 : t418 = true
            · subst c7
              have H1 : (some x8_1) = some r := by rw [if_pos rfl] at H; exact H
              clear H
              have H := H1
              clear H1
              obtain rfl := Option.some.inj H
              have p417 : 0 ≤ (x8_1 : Int) := of_decide_eq_true (by first | (with_reducible assumption) | assumption)
              have q417 : x8_1 < (l0.length : Int) := of_decide_eq_true (by first | (with_reducible assumption) | assumption)
              obtain ⟨ad417, e417, hx417_0⟩ := Kd.at_int HR0.out x8_1 p417 q417
              cases e417
              replace p417 := eq_true p417
              replace q417 := eq_true q417
              go_wp2_with (first | ((with_reducible refine Go.Proofs.YtlahigmoljflkaaO.gate_value (F := .tmp 11) rfl ?_); refine Go.Proofs.YtlahigmoljflkaaO.goesM_ (some 16) rfl rfl Try.func59 (by kernel_rfl) rfl #[.int .i64 (rd l0 x8_1)] rfl rfl (by (try simp only [List.map_toArray, List.map_cons, List.map_nil]); first | done | rfl | (simp; done) | rfl | (simp only [List.length_drop, List.length_take]; rfl)) ?_; (with_reducible refine (code_good_1.calls (rd l0 x8_1) true _ A6.out).mono ?_); rintro e w' ⟨rfl, ⟨nd, rfl⟩⟩; refine ⟨_, rfl, ?_⟩))
              go_ret
              exact ⟨by first | rfl | (simp; done) | (simp [*]; done), by repeat (first | exact Drawn0.refl _ | apply Drawn0.step)⟩
            · replace c7 := Bool.eq_false_iff.mpr c7
              subst c7
              have H1 : (code_good_1_slices_IndexFunc.l0 k1 l0 (l0.length : Int) (wrap64 (x8_1 + 1))) = some r := by rw [if_neg (show ¬ (false = true) by decide)] at H; exact H
              clear H
              have H := H1
              clear H1
              have H' := Aside0.mk H
              clear H
              have p417 : 0 ≤ (x8_1 : Int) := of_decide_eq_true (by first | (with_reducible assumption) | assumption)
              have q417 : x8_1 < (l0.length : Int) := of_decide_eq_true (by first | (with_reducible assumption) | assumption)
              obtain ⟨ad417, e417, hx417_0⟩ := Kd.at_int HR0.out x8_1 p417 q417
              cases e417
              replace p417 := eq_true p417
              replace q417 := eq_true q417
              go_wp2_with (first | ((with_reducible refine Go.Proofs.YtlahigmoljflkaaO.gate_value (F := .tmp 11) rfl ?_); refine Go.Proofs.YtlahigmoljflkaaO.goesM_ (some 16) rfl rfl Try.func59 (by kernel_rfl) rfl #[.int .i64 (rd l0 x8_1)] rfl rfl (by (try simp only [List.map_toArray, List.map_cons, List.map_nil]); first | done | rfl | (simp; done) | rfl | (simp only [List.length_drop, List.length_take]; rfl)) ?_; (with_reducible refine (code_good_1.calls (rd l0 x8_1) false _ A6.out).mono ?_); rintro e w' ⟨rfl, ⟨nd, rfl⟩⟩; refine ⟨_, rfl, ?_⟩))
              go_roundg k1
              case measure => have := HK1.out; omega
              case rel => exact ⟨(wrap64 (x8_1 + 1)), (by first | rfl | (simp; done) | (simp [*]; done)), H', ⟨by have := HK1.out; omega⟩, by repeat (first | exact Drawn0.refl _ | apply Drawn0.step)⟩
          · rw [if_neg c5] at H
            exact absurd H (by simp)
        · rw [if_neg c4] at H
          exact absurd H (by simp)
      · rw [if_neg c3] at H
        have c3b0 : decide (x8_1 < (l0.length : Int)) = false := decide_eq_false c3
        clear c3
        obtain rfl := Option.some.inj H
        go_wp2
        go_ret
        exact ⟨by first | rfl | (simp; done) | (simp [*]; done), by repeat (first | exact Drawn0.refl _ | apply Drawn0.step)⟩

def code_good_1_slices_ContainsFunc.f (k : Nat) (l0 : List Int)  : Option (Bool) := (code_good_1_slices_IndexFunc.f k l0).bind fun t419 => (some (decide (t419 ≥ 0)))
theorem code_good_1_slices_ContainsFunc.mono : ∀ a0 k, LeO (code_good_1_slices_ContainsFunc.f k a0) (code_good_1_slices_ContainsFunc.f (k + 1) a0) := by
  intro a0 k
  unfold code_good_1_slices_ContainsFunc.f
  repeat' first
      | (with_reducible exact code_good_1_slices_IndexFunc.mono _ _)
      | (with_reducible exact LeO.refl _)
      | (with_reducible exact LeO.none _)
      | (with_reducible refine LeO.ite ?_ ?_)
      | (with_reducible refine LeO.bind ?_ (fun _ => ?_))
      | exact code_good_1_slices_IndexFunc.mono _ _
      | exact LeO.none _
      | refine LeO.ite ?_ ?_
      | refine LeO.bind ?_ (fun _ => ?_)
set_option maxHeartbeats 8000000 in
set_option maxRecDepth 100000 in
theorem code_good_1_slices_ContainsFunc.calls (k : Nat) (A0 : Option Addr) (c0 : Nat) (l0 : List Int)  (r : Bool) (w : World) (hr0 : Kd.C (Kd.int .i64) w A0 l0.length l0) (hc0 : l0.length ≤ c0) (h : code_good_1_slices_ContainsFunc.f k l0 = some r) :
    Calls Try.prog 58 #[.slice A0 l0.length c0, .func (.func 59) #[] #[]] w fun e w' => e = .returned (.bool r) ∧ Drawn0 w w' := by
  have HR0 := Aside0.mk hr0
  have HC0 := Aside0.mk hc0
  clear hr0 hc0
  have H : ((code_good_1_slices_IndexFunc.f k l0).bind fun t419 => (some (decide (t419 ≥ 0)))) = some r := h
  clear h
  replace H := Option.bind_eq_some_iff.mp H
  obtain ⟨t419, A30, H⟩ := H
  replace H : (some (decide (t419 ≥ 0))) = some r := H
  have A3 := Aside0.mk A30
  clear A30
  obtain rfl := Option.some.inj H
  go_enter Try.func58, Try.ntmps58
  go_wp2_with (first | ((with_reducible refine gate_callee (f := 68) rfl ?_); refine goesL_ (some 7) rfl rfl Try.func68 (by kernel_rfl) rfl #[.slice A0 l0.length c0, .func (.func 59) #[] #[]] rfl (by (try simp only [List.map_toArray, List.map_cons, List.map_nil]); first | done | rfl | (simp only [List.length_drop, List.length_take]; rfl)) ?_; (with_reducible refine (code_good_1_slices_IndexFunc.calls k _ _ l0  t419 _ ?side1 ?side2 A3.out).mono ?_); (case side1 => repeat (first | exact HR0.out | (with_reducible refine Kd.C_alloc ?_ _) | (with_reducible refine Kd.C_drewN ?_ _) | (with_reducible refine Kd.C_drew ?_))); (case side2 => exact HC0.out); rintro e w' ⟨rfl, ⟨nd, rfl⟩⟩; refine ⟨_, rfl, ?_⟩))
  go_ret
  exact ⟨by first | rfl | (simp; done) | (simp [*]; done), by repeat (first | exact Drawn0.refl _ | apply Drawn0.step)⟩

end Go.Proofs.Ytlahigmoljflkaa.PAll
