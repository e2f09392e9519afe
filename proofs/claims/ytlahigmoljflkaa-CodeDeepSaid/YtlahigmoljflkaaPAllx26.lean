/- Printed by a copy of the printer that was turned for this claim: functions as plain Lean functions, with proofs that their calls come to these; or words that such proofs use. -/
import Derived.Test.YtlahigmoljflkaaPAllx0
import Derived.Test.YtlahigmoljflkaaPAllx1
import Derived.Test.YtlahigmoljflkaaPAllx7
import Derived.Test.YtlahigmoljflkaaPAllx12
import Derived.Test.YtlahigmoljflkaaPAllx13
import Derived.Test.YtlahigmoljflkaaPAllx14
import Derived.Test.YtlahigmoljflkaaPAllx15
import Derived.Test.YtlahigmoljflkaaPAllx25
namespace Go.Proofs.Ytlahigmoljflkaa.PAll
open Go.RowKit Go.Proofs.YtlahigmoljflkaaW.PrintWords Go.Proofs.YtlahigmoljflkaaW.PrintLast Go.Proofs.YtlahigmoljflkaaW.PrintMore
attribute [local go_sem] max2_int min2_int max_two min_two max_three min_three max_four min_four   -- for this text's walks alone
set_option linter.unusedVariables false
set_option linter.unusedSimpArgs false

theorem gangwaylaw5_CodeDeep.own_take {w : World} {base n m c size : Nat} {e : TypeId} {A : Option Addr} {xs : List Value} (h : w.ownsRow base e size (.slice A n c) n xs) (hm : m ≤ n) : w.ownsRow base e size (.slice A m c) m (xs.take (m * size)) := by
  obtain ⟨h1, h2⟩ := h
  refine ⟨by rw [List.length_take, h1]; exact Nat.min_eq_left (Nat.mul_le_mul_right _ hm), ?_⟩
  rcases h2 with ⟨he, h0⟩ | ⟨g, cap, cur, he, hb, hh, hnc, hcm, hcs, ht⟩
  · injection he with ha _ hc
    subst ha; subst hc
    exact .inl ⟨by rw [show m = 0 by omega], by omega⟩
  · injection he with ha _ hc
    subst ha; subst hc
    refine .inr ⟨g, c, cur, rfl, hb, hh, by omega, hcm, hcs, ?_⟩
    rw [← ht, List.take_take, Nat.min_eq_left (Nat.mul_le_mul_right _ hm)]
theorem gangwaylaw5_CodeDeep.R_make0 {P : Program} {ops : Array Oper} {Q : Exit → Act → World → Prop} {rest : List Oper} {o : Oper} {a : Act} {W : World} {α : Type} (d : Kd α) {w0 : World} (base e : Nat) (hgd : o.guard = none) {N : Tmp} (hd : o.dst = some N) (t : TypeId) (x y : Operand) (ho : o.op = .makeSlice t x y) (n : Int) (hx : a.eval x = .int .i64 0) (hy : a.eval y = .int .i64 n)
  (ht : P.underlying t = some (.slice e)) (z : Value) (bytes : Nat) (hinfo : (P.info? e).map (fun i => (i.zero, i.size, i.bytes)) = some (some z, d.sz, bytes)) (hz : z.cells.size = d.sz) (hs0 : 0 < d.sz) (hb0 : 0 < bytes)
  {ok : Nat → Prop} (hfresh : ok W.heap.size) (h0 : 0 ≤ n) (hl : n.toNat * bytes ≤ 281474976710656) (HB : Below base w0 W) (hbase : base ≤ W.heap.size)
  (h : ∀ v1 w1, d.R e w1 base ok v1 [] → Below base w0 w1 → W.grownBy w1 none → (∃ b, v1.ownBlock = some b ∧ W.heap.size ≤ b) → wpList P ops Q rest (a.put o.dst v1) w1) : wpList P ops Q (o :: rest) a W := by
 obtain ⟨m, rfl⟩ := Int.eq_ofNat_of_zero_le h0; simp only [Int.toNat_natCast] at hl h; obtain ⟨i0, hi, hzz⟩ := Option.map_eq_some_iff.1 hinfo; simp only [Prod.mk.injEq] at hzz; obtain ⟨hz0, hz1, hz2⟩ := hzz; have hm : m ≤ 281474976710656 := Nat.le_trans (Nat.le_mul_of_pos_right _ hb0) hl; have hr := Go.run_make (P := P) W t e i0 z ht hi hz0 .i64 .i64 0 (m : Int) (by omega) (by omega)
  (by
   have h3 : ((i0.bytes * m : Nat) : Int) ≤ 281474976710656 := by rw [hz2, Nat.mul_comm]; omega
   rwa [Int.natCast_mul] at h3) (by omega)
 simp only [Int.toNat_natCast, Int.toNat_zero] at hr; rw [hz1] at hr; have h2 := World.ownsRow_lit (base := base) (e := e) (size := d.sz) W (madeCells z.cells (m * d.sz)) m hbase (by simp [maxLen]; omega) (by simp [size_madeCells]); have h3 := gangwaylaw5_CodeDeep.own_take h2 (Nat.zero_le m); rw [Nat.zero_mul, List.take_zero] at h3; refine Kd.event_run hgd (by simp [execOp, ho, hx, hy, hr]) (h _ _ ⟨fun k hk => ?_, [], h3, Reps.none _ _⟩ (HB.alloc hbase _) (World.grownBy_alloc W _ none) ⟨W.heap.size, by simp [Value.ownBlock], Nat.le_refl _⟩); have : W.heap.size = k := by simpa [Value.ownBlock] using hk
 subst this; exact hfresh
theorem gangwaylaw5_CodeDeep.eb {α : Type} [BEq α] [LawfulBEq α] {a b : α} (h : a = b) : (a == b) = true ∧ (a != b) = false := ⟨beq_iff_eq.mpr h, bne_eq_false_iff_eq.mpr h⟩
theorem gangwaylaw5_CodeDeep.m_ {p q : Prop} (h : p) (k : q) : Aside0 p ∧ q := ⟨Aside0.mk h, k⟩
abbrev gangwaylaw5_CodeDeep.t : Bool := true
mutual
def gangwaylaw5_CodeDeep.l0 : Nat → List (S26) → List (S45) → Int → Option (Bool)
 | 0, _, _, _ => none
 | k + 1, x0, x3, x4 => if x4 ≤ 40 then ((code_Encode.f k x3).bind fun bt687 => ((gangwaylaw5_num.f bt687.2).bind fun t691 => (if t691 = 0 then (if (bt687.1.length : Int) = (wrap64 ((wrap64 (3 * x4)) + 1)) then ((code_Decode.f k bt687.1).bind fun bt702 => ((gangwaylaw5_num.f bt702.2.2).bind fun t707 => (if t707 = 0 then ((gangwayref0_EqInstrs.f k x3 bt702.1).bind fun t708 => (if t708 = true then (gangwaylaw5_CodeDeep.l0 k x0 (([(⟨wrap64 (2 + (Int.tmod x4 2)), 64, 0, 0, 0, 0, ([] : List Int), x3, ([] : List (S45))⟩ : S45)] : List (S45))) (wrap64 (x4 + 1))) else (none))) else (none)))) else (none)) else (none)))) else ((code_Encode.f k x3).bind fun bt712 => (gangwaylaw5_CodeDeep.l1 k x0 bt712.2 (([] : List Int)) 0))
def gangwaylaw5_CodeDeep.l1 : Nat → List (S26) → Int → List Int → Int → Option (Bool)
 | 0, _, _, _, _ => none
 | k + 1, x0, x12, x13, x14 => if x14 ≤ 40 then ((some (([2, 64] : List Int) : List Int)).bind fun y719 => (if x13.length + y719.length < 140737488355328 then (gangwaylaw5_CodeDeep.l1 k x0 x12 (x13 ++ y719) (wrap64 (x14 + 1))) else (none))) else (gangwaylaw5_CodeDeep.l2 k x0 x12 x13 0)
def gangwaylaw5_CodeDeep.l2 : Nat → List (S26) → Int → List Int → Int → Option (Bool)
 | 0, _, _, _, _ => none
 | k + 1, x0, x12, x13, x15 => if x15 ≤ 41 then (if x13.length < 140737488355328 then (gangwaylaw5_CodeDeep.l2 k x0 x12 (x13 ++ [11]) (wrap64 (x15 + 1))) else (none)) else ((code_Decode.f k x13).bind fun bt728 => ((gangwaylaw5_num.f x12).bind fun t733 => (if t733 = 100 then ((gangwaylaw5_num.f bt728.2.2).bind fun t734 => (if t734 = 100 then (if (x0.length : Int) ≥ 0 then ((gangwaylaw5_wakes.f k).bind fun t735 => (some t735)) else (none)) else (none))) else (none))))
end
def gangwaylaw5_CodeDeep.f (k : Nat) (l0 : List (S26)) : Option (Bool) := gangwaylaw5_CodeDeep.l0 k l0 ([] : List (S45)) 0
theorem gangwaylaw5_CodeDeep.mono_l : ∀ k, (∀ y0 y1 y2, LeO (gangwaylaw5_CodeDeep.l0 k y0 y1 y2) (gangwaylaw5_CodeDeep.l0 (k + 1) y0 y1 y2)) ∧ (∀ y0 y1 y2 y3, LeO (gangwaylaw5_CodeDeep.l1 k y0 y1 y2 y3) (gangwaylaw5_CodeDeep.l1 (k + 1) y0 y1 y2 y3)) ∧ (∀ y0 y1 y2 y3, LeO (gangwaylaw5_CodeDeep.l2 k y0 y1 y2 y3) (gangwaylaw5_CodeDeep.l2 (k + 1) y0 y1 y2 y3))
 | 0 => ⟨fun _ _ _ r h => by simp [gangwaylaw5_CodeDeep.l0] at h, fun _ _ _ _ r h => by simp [gangwaylaw5_CodeDeep.l1] at h, fun _ _ _ _ r h => by simp [gangwaylaw5_CodeDeep.l2] at h⟩
 | k + 1 => by
  obtain ⟨ih0, ih1, ih2⟩ := gangwaylaw5_CodeDeep.mono_l k; refine ⟨?_, ?_, ?_⟩ <;> (intros; (first | unfold gangwaylaw5_CodeDeep.l0 | unfold gangwaylaw5_CodeDeep.l1 | unfold gangwaylaw5_CodeDeep.l2); repeat' first | (with_reducible apply ih0) | (with_reducible apply ih1) | (with_reducible apply ih2) | (with_reducible exact code_Decode.mono _ _) | (with_reducible exact code_Encode.mono _ _) | (with_reducible exact gangwaylaw5_wakes.mono _) | (with_reducible exact gangwayref0_EqInstrs.mono _ _ _) | (with_reducible exact LeO.refl _) | (with_reducible exact LeO.none _) | (with_reducible refine LeO.ite ?_ ?_) | (with_reducible refine LeO.bind ?_ (fun _ => ?_)) | apply ih0 | apply ih1 | apply ih2 | exact code_Decode.mono _ _ | exact code_Encode.mono _ _ | exact gangwaylaw5_wakes.mono _ | exact gangwayref0_EqInstrs.mono _ _ _ | exact LeO.none _ | refine LeO.ite ?_ ?_ | refine LeO.bind ?_ (fun _ => ?_))
theorem gangwaylaw5_CodeDeep.mono : ∀ a0 k, LeO (gangwaylaw5_CodeDeep.f k a0) (gangwaylaw5_CodeDeep.f (k + 1) a0) := by
 intro a0 k; obtain ⟨ih0, ih1, ih2⟩ := gangwaylaw5_CodeDeep.mono_l k
 unfold gangwaylaw5_CodeDeep.f
 repeat' first
   | (with_reducible apply ih0)
   | (with_reducible apply ih1)
   | (with_reducible apply ih2)
   | (with_reducible exact code_Decode.mono _ _)
   | (with_reducible exact code_Encode.mono _ _)
   | (with_reducible exact gangwaylaw5_wakes.mono _)
   | (with_reducible exact gangwayref0_EqInstrs.mono _ _ _)
   | (with_reducible exact LeO.refl _)
   | (with_reducible exact LeO.none _)
   | (with_reducible refine LeO.ite ?_ ?_)
   | (with_reducible refine LeO.bind ?_ (fun _ => ?_))
   | apply ih0
   | apply ih1
   | apply ih2
   | exact code_Decode.mono _ _
   | exact code_Encode.mono _ _
   | exact gangwaylaw5_wakes.mono _
   | exact gangwayref0_EqInstrs.mono _ _ _
   | exact LeO.none _
   | refine LeO.ite ?_ ?_
   | refine LeO.bind ?_ (fun _ => ?_)
theorem gangwaylaw5_CodeDeep.aa_0 {p : Prop} (h : p := by repeat (first | (with_reducible first | exact HB.out | apply below_alloc | apply pw_below_drewN | apply below_drew1) | exact HB.out)) : p := h
theorem gangwaylaw5_CodeDeep.aa_1 {p : Prop} (h : p := by (try simp only [List.map_toArray, List.map_cons, List.map_nil]); first | done | rfl | (simp only [List.length_drop, List.length_take]; rfl)) : p := h
theorem gangwaylaw5_CodeDeep.aa_2 {p : Prop} (h : p := by (with_reducible repeat (first | apply Kd.R_alloc | apply Kd.R_drewN | apply Kd.R_drew)); exact HO_13.out) : p := h
theorem gangwaylaw5_CodeDeep.aa_3 {p : Prop} (h : p := by (with_reducible repeat (first | apply Kd.N_alloc | apply Kd.N_drewN | apply Kd.N_drew)); exact HO_3.out) : p := h
theorem gangwaylaw5_CodeDeep.aa_4 {p : Prop} (h : p := by (with_reducible repeat (first | apply Kd.R_alloc | apply Kd.R_drewN | apply Kd.R_drew)); exact HO690.out) : p := h
theorem gangwaylaw5_CodeDeep.aa_5 {p : Prop} (h : p := by repeat (first | exact (Kd.N_reads' HO_3.out).2.2 | (with_reducible refine Kd.C_alloc ?_ _) | (with_reducible refine Kd.C_drewN ?_ _) | (with_reducible refine Kd.C_drew ?_))) : p := h
theorem gangwaylaw5_CodeDeep.am_ {p : Prop} (h : p) : Aside0 p := Aside0.mk h
theorem gangwaylaw5_CodeDeep.bm_ {α β : Type _} {o : Option α} {f : α → Option β} {b : β} (h : o.bind f = some b) : ∃ a, o = some a ∧ f a = some b := Option.bind_eq_some_iff.mp h
set_option maxHeartbeats 8000000 in
set_option maxRecDepth 100000 in
theorem gangwaylaw5_CodeDeep.calls (k : Nat) (A0 : Option Addr) (c0 : Nat) (l0 : List (S26)) (r : Bool) (w : World) (hr0 : Kd.C k26 w A0 l0.length l0) (hc0 : l0.length ≤ c0) (h : gangwaylaw5_CodeDeep.f k l0 = some r) :
  Calls Try.prog 6 #[.slice A0 l0.length c0] w fun e w' => e = .returned (.bool r) ∧ Below w.heap.size w w' := by
 have hu45 := Try.underlying45; have HR0 := am_ hr0; have HC0 := am_ hc0; clear hr0 hc0; have HB := am_ (Below.refl w.heap.size w); have H : (gangwaylaw5_CodeDeep.l0 k l0 ([] : List (S45)) 0) = some r := h; clear h; have H' := am_ H; clear H; go_enter Try.func6, Try.ntmps6; go_wp2
 go_loopg [3, 4] k (fun kq v3 v4 w' => ∃ (x3_1 : List (S45)) (x4_1 : Int), v4 = .int .i64 x4_1 ∧ Aside0 (gangwaylaw5_CodeDeep.l0 kq l0 x3_1 x4_1 = some r) ∧ Aside0 (kq ≤ k) ∧ Aside0 (Kd.N k45 45 w' w.heap.size (fun _ => True) v3 x3_1) ∧ Aside0 (Below w.heap.size w w'))
 case atStart => exact ⟨(([] : List (S45))), (0), (es_), H', ⟨Nat.le_refl _⟩, ⟨nl_⟩, ⟨aa_0⟩⟩
 case round =>
 clear H'; obtain ⟨x3_1, x4_1, rfl, HA, HK1, HO_3, HB⟩ := hrel
 cases gk with
 | zero => exact absurd HA.out (by simp [gangwaylaw5_CodeDeep.l0])
 | succ k1 =>
 have H := HA.out; clear HA; simp only [gangwaylaw5_CodeDeep.l0] at H; by_cases c2 : x4_1 ≤ 40
 ·rw [if_pos c2] at H; have c2b0 : decide (x4_1 ≤ 40) = true := decide_eq_true c2; clear c2; replace H := bm_ H; obtain ⟨⟨t687, t688⟩, A30, H⟩ := H; replace H : ((gangwaylaw5_num.f t688).bind fun t691 => (if t691 = 0 then (if (t687.length : Int) = (wrap64 ((wrap64 (3 * x4_1)) + 1)) then ((code_Decode.f k1 t687).bind fun bt702 => ((gangwaylaw5_num.f bt702.2.2).bind fun t707 => (if t707 = 0 then ((gangwayref0_EqInstrs.f k1 x3_1 bt702.1).bind fun t708 => (if t708 = true then (gangwaylaw5_CodeDeep.l0 k1 l0 (([(⟨wrap64 (2 + (Int.tmod x4_1 2)), 64, 0, 0, 0, 0, ([] : List Int), x3_1, ([] : List (S45))⟩ : S45)] : List (S45))) (wrap64 (x4_1 + 1))) else (none))) else (none)))) else (none)) else (none))) = some r := H; have A3 := am_ A30; clear A30; replace H := bm_ H; obtain ⟨t691, A40, H⟩ := H; replace H : (if t691 = 0 then (if (t687.length : Int) = (wrap64 ((wrap64 (3 * x4_1)) + 1)) then ((code_Decode.f k1 t687).bind fun bt702 => ((gangwaylaw5_num.f bt702.2.2).bind fun t707 => (if t707 = 0 then ((gangwayref0_EqInstrs.f k1 x3_1 bt702.1).bind fun t708 => (if t708 = true then (gangwaylaw5_CodeDeep.l0 k1 l0 (([(⟨wrap64 (2 + (Int.tmod x4_1 2)), 64, 0, 0, 0, 0, ([] : List Int), x3_1, ([] : List (S45))⟩ : S45)] : List (S45))) (wrap64 (x4_1 + 1))) else (none))) else (none)))) else (none)) else (none)) = some r := H; have A4 := am_ A40; clear A40; by_cases c5 : t691 = 0
  rotate_left
  ·rw [if_neg c5] at H; exact absurd H (by simp)
  rw [if_pos c5] at H; obtain ⟨c5b0, c5b1⟩ := eb c5; clear c5; by_cases c6 : (t687.length : Int) = (wrap64 ((wrap64 (3 * x4_1)) + 1))
  rotate_left
  ·rw [if_neg c6] at H; exact absurd H (by simp)
  rw [if_pos c6] at H; obtain ⟨c6b0, c6b1⟩ := eb c6; clear c6; replace H := bm_ H; obtain ⟨⟨t702, t703, t704⟩, A70, H⟩ := H; replace H : ((gangwaylaw5_num.f t704).bind fun t707 => (if t707 = 0 then ((gangwayref0_EqInstrs.f k1 x3_1 t702).bind fun t708 => (if t708 = true then (gangwaylaw5_CodeDeep.l0 k1 l0 (([(⟨wrap64 (2 + (Int.tmod x4_1 2)), 64, 0, 0, 0, 0, ([] : List Int), x3_1, ([] : List (S45))⟩ : S45)] : List (S45))) (wrap64 (x4_1 + 1))) else (none))) else (none))) = some r := H; have A7 := am_ A70; clear A70; replace H := bm_ H; obtain ⟨t707, A80, H⟩ := H; replace H : (if t707 = 0 then ((gangwayref0_EqInstrs.f k1 x3_1 t702).bind fun t708 => (if t708 = true then (gangwaylaw5_CodeDeep.l0 k1 l0 (([(⟨wrap64 (2 + (Int.tmod x4_1 2)), 64, 0, 0, 0, 0, ([] : List Int), x3_1, ([] : List (S45))⟩ : S45)] : List (S45))) (wrap64 (x4_1 + 1))) else (none))) else (none)) = some r := H; have A8 := am_ A80; clear A80; by_cases c9 : t707 = 0
  rotate_left
  ·rw [if_neg c9] at H; exact absurd H (by simp)
  rw [if_pos c9] at H; obtain ⟨c9b0, c9b1⟩ := eb c9; clear c9; replace H := bm_ H; obtain ⟨t708, A100, H⟩ := H; replace H : (if t708 = true then (gangwaylaw5_CodeDeep.l0 k1 l0 (([(⟨wrap64 (2 + (Int.tmod x4_1 2)), 64, 0, 0, 0, 0, ([] : List Int), x3_1, ([] : List (S45))⟩ : S45)] : List (S45))) (wrap64 (x4_1 + 1))) else (none)) = some r := H; have A10 := am_ A100; clear A100; by_cases c11 : t708 = true
  rotate_left
  ·replace c11 := Bool.eq_false_iff.mpr c11; subst c11; have H1 : (none) = some r := by rw [if_neg (show ¬ (false = true) by decide)] at H; exact H
   clear H; have H := H1; clear H1; exact absurd H (by simp)
  subst c11; have H1 : (gangwaylaw5_CodeDeep.l0 k1 l0 (([(⟨wrap64 (2 + (Int.tmod x4_1 2)), 64, 0, 0, 0, 0, ([] : List Int), x3_1, ([] : List (S45))⟩ : S45)] : List (S45))) (wrap64 (x4_1 + 1))) = some r := by rw [if_pos rfl] at H; exact H
  clear H; have H := H1; clear H1; obtain ⟨y709, hy709⟩ : ∃ y_ : List (S45), y_ = (([(⟨wrap64 (2 + (Int.tmod x4_1 2)), 64, 0, 0, 0, 0, ([] : List Int), x3_1, ([] : List (S45))⟩ : S45)] : List (S45))) := ⟨_, rfl⟩
  replace H : (gangwaylaw5_CodeDeep.l0 k1 l0 y709 (wrap64 (x4_1 + 1))) = some r := by first | (rw [hy709]; with_reducible exact H) | (have H2_ := (Option.bind_some _ _).symm.trans H; rw [hy709]; with_reducible exact H2_) | (have H2_ := (Option.bind_some _ _).symm.trans H; with_reducible exact H2_) | with_reducible exact H | (rw [hy709]; exact H) | exact H
  have Ny709 := am_ hy709; clear hy709; have H' := am_ H; clear H; obtain ⟨Ao12, co12, eo12⟩ := Kd.N_slice HO_3.out; subst eo12
  go_wp2_with (first | ((with_reducible refine gate_callee (f := 20) rfl ?_); refine goesL_ (some 25) rfl rfl Try.func20 (by kernel_rfl) rfl #[.slice Ao12 x3_1.length co12] rfl aa_1 ?_; (with_reducible refine (code_Encode.calls k1 _ _ x3_1 t687 t688 _ ?side1 ?side2 A3.out).mono ?_); (case side1 => exact aa_5); (case side2 => exact (Kd.N_reads' HO_3.out).2.1); rintro e w13 ⟨v689, rfl, ho0, hb⟩; refine ⟨_, rfl, ?_⟩; have N_ := m_ (Kd.N_elder' aa_3 (Kd.R_base ho0) hb) <| m_ (Kd.R_lower ho0 (below_size aa_0)) <| am_ (below_step aa_0 hb); clear HO_3 HB; obtain ⟨HO_3, HO690, HB⟩ := N_; (try clear hb); (try clear hb2); (try clear hk); (try clear hi); (try clear ho0)) | ((with_reducible refine gate_callee (f := 13) rfl ?_); refine goesL_ (some 29) rfl rfl Try.func13 (by kernel_rfl) rfl #[.int .i64 t688] rfl aa_1 ?_; (with_reducible refine (gangwaylaw5_num.calls t688 t691 _ A4.out).mono ?_); rintro e w' ⟨rfl, ⟨nd, rfl⟩⟩; refine ⟨_, rfl, ?_⟩; obtain ⟨Ao14, co14, eo14⟩ := Kd.R_slice HO690.out; subst eo14) | ((with_reducible refine gate_callee (f := 11) rfl ?_); refine goesL_ (some 42) rfl rfl Try.func11 (by kernel_rfl) rfl #[.slice Ao14 t687.length co14] rfl aa_1 ?_; (with_reducible refine (code_Decode.calls k1 _ _ t687 t702 t703 t704 _ ?side1 ?side2 A7.out).mono ?_); (case side1 => repeat (first | exact (Kd.R_reads' HO690.out).2.2 | (with_reducible refine Kd.C_alloc ?_ _) | (with_reducible refine Kd.C_drewN ?_ _) | (with_reducible refine Kd.C_drew ?_))); (case side2 => exact (Kd.R_reads' HO690.out).2.1); rintro e w15 ⟨v705, rfl, ho0, hb⟩; refine ⟨_, rfl, ?_⟩; have N_ := m_ (Kd.N_elder' aa_3 (Kd.R_base ho0) hb) <| m_ (Kd.R_below aa_4 hb) <| m_ (Kd.N_lower (Kd.N_mono (ok' := fun k_ => some k_ ≠ (.slice Ao12 x3_1.length co12 : Value).ownBlock ∧ some k_ ≠ (.slice Ao14 t687.length co14 : Value).ownBlock) (Kd.R_N (Kd.R_bound ho0)) (fun k_ hk_ => ⟨(Kd.fresh' (Kd.N_lt aa_3) k_ hk_.2.1), (Kd.fresh' (Kd.R_lt aa_4) k_ hk_.2.1)⟩)) (below_size aa_0)) <| am_ (below_step aa_0 hb); clear HO_3 HO690 HB; obtain ⟨HO_3, HO690, HO706, HB⟩ := N_; (try clear hb); (try clear hb2); (try clear hk); (try clear hi); (try clear ho0)) | ((with_reducible refine gate_callee (f := 13) rfl ?_); refine goesL_ (some 47) rfl rfl Try.func13 (by kernel_rfl) rfl #[.int .i64 t704] rfl aa_1 ?_; (with_reducible refine (gangwaylaw5_num.calls t704 t707 _ A8.out).mono ?_); rintro e w' ⟨rfl, ⟨nd, rfl⟩⟩; refine ⟨_, rfl, ?_⟩; obtain ⟨Ao16, co16, eo16⟩ := Kd.N_slice HO706.out; subst eo16) | (go_at_call 14; (with_reducible refine (gangwayref0_EqInstrs.calls k1 _ _ x3_1 _ _ t702 true _ ?side1 ?side2 ?side3 ?side4 A10.out).mono ?_); (case side1 => exact aa_5); (case side2 => exact (Kd.N_reads' HO_3.out).2.1); (case side3 => repeat (first | exact (Kd.N_reads' HO706.out).2.2 | (with_reducible refine Kd.C_alloc ?_ _) | (with_reducible refine Kd.C_drewN ?_ _) | (with_reducible refine Kd.C_drew ?_))); (case side4 => exact (Kd.N_reads' HO706.out).2.1); rintro e w17 ⟨rfl, hb⟩; have N_ := m_ (Kd.N_below aa_3 hb) <| m_ (Kd.R_below aa_4 hb) <| m_ (Kd.N_below (by (with_reducible repeat (first | apply Kd.N_alloc | apply Kd.N_drewN | apply Kd.N_drew)); exact HO706.out) hb) <| am_ (below_step aa_0 hb); clear HO_3 HO690 HO706 HB; obtain ⟨HO_3, HO690, HO706, HB⟩ := N_; (try clear hb); (try clear hb2); (try clear hk); (try clear hi)) | ((with_reducible refine gate_dst (N := 60) rfl ?_); (try (refine gate_guard (by rfl) ?_; dsimp only)); refine Kd.N_lit k45 _ 45 ?hg (N' := 60) ?hd (xs := ([(⟨wrap64 (2 + (Int.tmod x4_1 2)), 64, 0, 0, 0, 0, ([] : List Int), x3_1, ([] : List (S45))⟩ : S45)] : List (S45))) (inner := [.int .i64 (wrap64 (2 + (Int.tmod x4_1 2))), .int .i64 64, .int .i64 0, .int .i64 0, .int .i64 0, .int .i64 0, .slice none 0 0, .slice Ao12 x3_1.length co12, .slice none 0 0]) (ok := (fun k_ => some k_ ≠ (.slice Ao14 t687.length co14 : Value).ownBlock ∧ some k_ ≠ (.slice Ao16 t702.length co16 : Value).ownBlock)) (okp := (fun k_ => some k_ ≠ (.slice Ao14 t687.length co14 : Value).ownBlock ∧ some k_ ≠ (.slice Ao16 t702.length co16 : Value).ownBlock)) ?hr ?hp (fun _ hk => hk) ((show ∀ k_, w17.heap.size ≤ k_ → (fun k_ => some k_ ≠ (.slice Ao14 t687.length co14 : Value).ownBlock ∧ some k_ ≠ (.slice Ao16 t702.length co16 : Value).ownBlock) k_ from fun k_ hk => ⟨Kd.fresh' (Kd.R_lt aa_4) k_ hk, Kd.fresh' (Kd.N_lt (by (with_reducible repeat (first | apply Kd.N_alloc | apply Kd.N_drewN | apply Kd.N_drew)); exact HO706.out)) k_ hk⟩) _ (Nat.le_refl _)) (Below.refl _ _) (Nat.le_refl _) (by simp) ?_; (case hd => rfl); (case hg => rfl); (case hr => first | (go_simp; done) | (go_simp; rfl)); (case hp => exact (Reps.c9 (show Kd.FK k45 _ _ (⟨wrap64 (2 + (Int.tmod x4_1 2)), 64, 0, 0, 0, 0, ([] : List Int), x3_1, ([] : List (S45))⟩ : S45) [.int .i64 (wrap64 (2 + (Int.tmod x4_1 2))), .int .i64 64, .int .i64 0, .int .i64 0, .int .i64 0, .int .i64 0, .slice none 0 0, .slice Ao12 x3_1.length co12, .slice none 0 0] from (k45_mkF _ _ (⟨wrap64 (2 + (Int.tmod x4_1 2)), 64, 0, 0, 0, 0, ([] : List Int), x3_1, ([] : List (S45))⟩ : S45) (Nat.le_refl _) (Kd.F_nil _ _ _) (Kd.N_reads' (Kd.N_mono (ok' := (fun k_ => some k_ ≠ (.slice Ao14 t687.length co14 : Value).ownBlock ∧ some k_ ≠ (.slice Ao16 t702.length co16 : Value).ownBlock)) (HO_3.out) (fun k_ hk => ⟨hk.1.2, hk.2⟩))).2.1 (Kd.N_F (Kd.N_mono (ok' := (fun k_ => some k_ ≠ (.slice Ao14 t687.length co14 : Value).ownBlock ∧ some k_ ≠ (.slice Ao16 t702.length co16 : Value).ownBlock)) (HO_3.out) (fun k_ hk => ⟨hk.1.2, hk.2⟩))) (Nat.le_refl _) (Kd.F_nil _ _ _))) (Reps.none _ _))); intro v710 w18 ho19 hb hg_ hnew_; clear hg_ hnew_; (first | rw [← Ny709.out] at ho19 | (simp only [Int.reduceToNat] at ho19; rw [← Ny709.out] at ho19)); have N_ := m_ (Kd.R_below aa_4 hb) <| m_ (Kd.N_elder' (by (with_reducible repeat (first | apply Kd.N_alloc | apply Kd.N_drewN | apply Kd.N_drew)); exact HO706.out) (Kd.N_base ho19) hb) <| m_ (Kd.N_lower ho19 (below_size aa_0)) <| am_ (below_step aa_0 hb); clear HO690 HO706 HB HO_3; obtain ⟨HO690, HO706, HO711, HB⟩ := N_; clear hb ho19))
  go_roundg k1
  case measure => have := HK1.out; omega
  case rel => exact ⟨(y709), (wrap64 (x4_1 + 1)), (es_), H', ⟨by have := HK1.out; omega⟩, ⟨by (with_reducible repeat (first | apply Kd.N_alloc | apply Kd.N_drewN | apply Kd.N_drew)); exact Kd.N_mono HO711.out (fun _ hk => trivial)⟩, ⟨aa_0⟩⟩
 rw [if_neg c2] at H; have c2b0 : decide (x4_1 ≤ 40) = false := decide_eq_false c2; clear c2; replace H := bm_ H; obtain ⟨⟨t712, t713⟩, A200, H⟩ := H; replace H : (gangwaylaw5_CodeDeep.l1 k1 l0 t713 (([] : List Int)) 0) = some r := H; have A20 := am_ A200; clear A200; obtain ⟨y716, hy716⟩ : ∃ y_ : List Int, y_ = (([] : List Int)) := ⟨_, rfl⟩
 replace H : (gangwaylaw5_CodeDeep.l1 k1 l0 t713 y716 0) = some r := by first | (rw [hy716]; with_reducible exact H) | (have H2_ := (Option.bind_some _ _).symm.trans H; rw [hy716]; with_reducible exact H2_) | (have H2_ := (Option.bind_some _ _).symm.trans H; with_reducible exact H2_) | with_reducible exact H | (rw [hy716]; exact H) | exact H
 have Ny716 := am_ hy716; clear hy716; have H' := am_ H; clear H; obtain ⟨Ao21, co21, eo21⟩ := Kd.N_slice HO_3.out; subst eo21
 go_wp2_with (first | ((with_reducible refine gate_callee (f := 20) rfl ?_); refine goesL_ (some 63) rfl rfl Try.func20 (by kernel_rfl) rfl #[.slice Ao21 x3_1.length co21] rfl aa_1 ?_; (with_reducible refine (code_Encode.calls k1 _ _ x3_1 t712 t713 _ ?side1 ?side2 A20.out).mono ?_); (case side1 => exact aa_5); (case side2 => exact (Kd.N_reads' HO_3.out).2.1); rintro e w22 ⟨v714, rfl, ho0, hb⟩; refine ⟨_, rfl, ?_⟩; have N_ := m_ (Kd.N_elder' aa_3 (Kd.R_base ho0) hb) <| m_ (Kd.R_lower ho0 (below_size aa_0)) <| am_ (below_step aa_0 hb); clear HO_3 HB; obtain ⟨HO_3, HO715, HB⟩ := N_; (try clear hb); (try clear hb2); (try clear hk); (try clear hi); (try clear ho0)) | ((with_reducible refine gate_dst (N := 66) rfl ?_); (try (refine gate_guard (by rfl) ?_; dsimp only)); refine R_make0 (Kd.int .u8) _ 5 rfl (N := 66) rfl 24 _ _ rfl 200 rfl rfl Try.underlying24 (.int .u8 0) 1 info5 rfl (by decide) (by omega) (ok := fun _ => True) trivial (by omega) (by omega) (Below.refl _ _) (Nat.le_refl _) ?_; intro v717 w23 ho24 hb hg_ hnew_; clear hg_ hnew_; (first | rw [← Ny716.out] at ho24 | (simp only [Int.reduceToNat] at ho24; rw [← Ny716.out] at ho24)); have N_ := m_ (Kd.N_elder' aa_3 (Kd.R_base ho24) hb) <| m_ (Kd.R_elder' (by (with_reducible repeat (first | apply Kd.R_alloc | apply Kd.R_drewN | apply Kd.R_drew)); exact HO715.out) (Kd.R_base ho24) hb) <| m_ (Kd.R_lower (Kd.R_new' ho24 (Kd.R_lt (by (with_reducible repeat (first | apply Kd.R_alloc | apply Kd.R_drewN | apply Kd.R_drew)); exact HO715.out))) (below_size aa_0)) <| am_ (below_step aa_0 hb); clear HO_3 HO715 HB; obtain ⟨HO_3, HO715, HO718, HB⟩ := N_; clear hb ho24))
 go_loopg [13, 14] k1 (fun kq v13 v14 w' => ∃ (x13_2 : List Int) (x14_2 : Int), v14 = .int .i64 x14_2 ∧ Aside0 (gangwaylaw5_CodeDeep.l1 kq l0 t713 x13_2 x14_2 = some r) ∧ Aside0 (kq ≤ k1) ∧ Aside0 (Kd.R (Kd.int .u8) 5 w' w.heap.size (fun _ => True) v13 x13_2) ∧ Aside0 (Below w.heap.size w w'))
 case atStart => exact ⟨(y716), (0), (es_), H', ⟨Nat.le_refl _⟩, ⟨by (with_reducible repeat (first | apply Kd.R_alloc | apply Kd.R_drewN | apply Kd.R_drew)); exact Kd.R_mono HO718.out (fun _ hk => trivial)⟩, ⟨aa_0⟩⟩
 case round =>
 clear H'; (try clear c2b0); obtain ⟨x13_2, x14_2, rfl, HA, HK2, HO_13, HB⟩ := hrel
 cases gk with
 | zero => exact absurd HA.out (by simp [gangwaylaw5_CodeDeep.l1])
 | succ k2 =>
 have H := HA.out; clear HA; simp only [gangwaylaw5_CodeDeep.l1] at H; by_cases c25 : x14_2 ≤ 40
 ·rw [if_pos c25] at H; have c25b0 : decide (x14_2 ≤ 40) = true := decide_eq_true c25; clear c25; obtain ⟨y719, hy719⟩ : ∃ y_ : List Int, y_ = (([2, 64] : List Int)) := ⟨_, rfl⟩
  replace H : (if x13_2.length + y719.length < 140737488355328 then (gangwaylaw5_CodeDeep.l1 k2 l0 t713 (x13_2 ++ y719) (wrap64 (x14_2 + 1))) else (none)) = some r := by first | (rw [hy719]; with_reducible exact H) | (have H2_ := (Option.bind_some _ _).symm.trans H; rw [hy719]; with_reducible exact H2_) | (have H2_ := (Option.bind_some _ _).symm.trans H; with_reducible exact H2_) | with_reducible exact H | (rw [hy719]; exact H) | exact H
  have Ny719 := am_ hy719; clear hy719; by_cases c26 : x13_2.length + y719.length < 140737488355328
  rotate_left
  ·rw [if_neg c26] at H; exact absurd H (by simp)
  rw [if_pos c26] at H; have LMc26 := am_ c26; clear c26; obtain ⟨y722, hy722⟩ : ∃ y_ : List Int, y_ = (x13_2 ++ y719) := ⟨_, rfl⟩
  replace H : (gangwaylaw5_CodeDeep.l1 k2 l0 t713 y722 (wrap64 (x14_2 + 1))) = some r := by first | (rw [hy722]; with_reducible exact H) | (have H2_ := (Option.bind_some _ _).symm.trans H; rw [hy722]; with_reducible exact H2_) | (have H2_ := (Option.bind_some _ _).symm.trans H; with_reducible exact H2_) | with_reducible exact H | (rw [hy722]; exact H) | exact H
  have Ny722 := am_ hy722; clear hy722; have H' := am_ H; clear H
  go_wp2_with (first | ((with_reducible refine gate_dst (N := 72) rfl ?_); (try (refine gate_guard (by rfl) ?_; dsimp only)); refine Kd.R_lit (Kd.int .u8) _ 5 ?hg (N := 72) ?hd (xs := ([2, 64] : List Int)) (inner := [.int .u8 2, .int .u8 64]) (ok := fun _ => True) (okp := fun _ => True) ?hr ?hp (fun _ hk => hk) trivial (Below.refl _ _) (Nat.le_refl _) (by simp) ?_; (case hd => rfl); (case hg => rfl); (case hr => first | (go_simp; done) | (go_simp; rfl)); (case hp => exact (Reps.one (show Kd.M (Kd.int .u8) _ _ _ 2 [.int .u8 2] from rfl) (Reps.one (show Kd.M (Kd.int .u8) _ _ _ 64 [.int .u8 64] from rfl) (Reps.none _ _)))); intro v720 w27 ho28 hb hg_ hnew_; clear hg_ hnew_; (first | rw [← Ny719.out] at ho28 | (simp only [Int.reduceToNat] at ho28; rw [← Ny719.out] at ho28)); have N_ := m_ (Kd.R_elder' aa_2 (Kd.R_base ho28) hb) <| m_ (Kd.R_lower (Kd.R_new' ho28 (Kd.R_lt aa_2)) (below_size aa_0)) <| am_ (below_step aa_0 hb); clear HO_13 HB; obtain ⟨HO_13, HO721, HB⟩ := N_; clear hb ho28; obtain ⟨Ao30, co30, eo30⟩ := Kd.R_slice HO721.out; subst eo30) | ((with_reducible refine gate_builtin (b := .append) (xs := #[.tmp 71, .tmp 72]) rfl ?_); (try (refine gate_guard (by rfl) ?_; dsimp only)); at_builtin; refine Kd.R_append_rows (Kd.int .u8) (w0 := w) w.heap.size rfl (.tmp 71) (.tmp 72) 24 5 (.int .u8 0) 1 rfl Try.underlying24 info5 rfl (by decide) (by omega) u13 x13_2 y719 _ _ _ (fun k_ => some k_ ≠ (.slice Ao30 y719.length co30 : Value).ownBlock) (fun _ => False) rfl rfl ?aO ?aR (fun _ _ h => h) (fun _ h => h.elim) ?aF ?aB ?aS ?aL ?_; (case aR => repeat (first | exact (Kd.R_reads' HO721.out).2.2 | (with_reducible refine Kd.C_alloc ?_ _) | (with_reducible refine Kd.C_drewN ?_ _) | (with_reducible refine Kd.C_drew ?_))); (case aB => exact aa_0); (case aF => exact (fun k_ hk => Kd.fresh' (Kd.R_lt (by (with_reducible repeat (first | apply Kd.R_alloc | apply Kd.R_drewN | apply Kd.R_drew)); exact HO721.out)) k_ hk)); (case aO => exact (by (with_reducible repeat (first | apply Kd.R_alloc | apply Kd.R_drewN | apply Kd.R_drew)); exact Kd.R_mono HO_13.out (fun _ hk => hk.2))); (case aS => exact (below_size aa_0)); (case aL => have := LMc26.out; omega); intro v723 w29 ho hb hg hat; rw [← Ny722.out] at ho; have N_ := m_ (Kd.R_after (ok := (fun _ => True)) (by (with_reducible repeat (first | apply Kd.R_alloc | apply Kd.R_drewN | apply Kd.R_drew)); exact HO721.out) hg hat) <| m_ (hb) <| am_ (ho); clear HO721 HB HO_13; obtain ⟨HO721, HB, HO724⟩ := N_; clear ho hb hg hat))
  go_roundg k2
  case measure => have := HK1.out; have := HK2.out; omega
  case rel => exact ⟨(y722), (wrap64 (x14_2 + 1)), (es_), H', ⟨by have := HK1.out; have := HK2.out; omega⟩, ⟨by (with_reducible repeat (first | apply Kd.R_alloc | apply Kd.R_drewN | apply Kd.R_drew)); exact Kd.R_mono HO724.out (fun _ hk => trivial)⟩, ⟨aa_0⟩⟩
 rw [if_neg c25] at H; have c25b0 : decide (x14_2 ≤ 40) = false := decide_eq_false c25; clear c25; have H' := am_ H; clear H; go_wp2
 go_loopg [13, 15] k2 (fun kq v13 v15 w' => ∃ (x13_3 : List Int) (x15_3 : Int), v15 = .int .i64 x15_3 ∧ Aside0 (gangwaylaw5_CodeDeep.l2 kq l0 t713 x13_3 x15_3 = some r) ∧ Aside0 (kq ≤ k2) ∧ Aside0 (Kd.R (Kd.int .u8) 5 w' w.heap.size (fun _ => True) v13 x13_3) ∧ Aside0 (Below w.heap.size w w'))
 case atStart => exact ⟨(x13_2), (0), (es_), H', ⟨Nat.le_refl _⟩, ⟨aa_2⟩, ⟨aa_0⟩⟩
 case round =>
 clear H'; (try clear c25b0); obtain ⟨x13_3, x15_3, rfl, HA, HK3, HO_13, HB⟩ := hrel
 cases gk with
 | zero => exact absurd HA.out (by simp [gangwaylaw5_CodeDeep.l2])
 | succ k3 =>
 have H := HA.out; clear HA; simp only [gangwaylaw5_CodeDeep.l2] at H; by_cases c31 : x15_3 ≤ 41
 ·rw [if_pos c31] at H; have c31b0 : decide (x15_3 ≤ 41) = true := decide_eq_true c31; clear c31; by_cases c32 : x13_3.length < 140737488355328
  rotate_left
  ·rw [if_neg c32] at H; exact absurd H (by simp)
  rw [if_pos c32] at H; have LMc32 := am_ c32; clear c32; obtain ⟨y725, hy725⟩ : ∃ y_ : List Int, y_ = (x13_3 ++ [11]) := ⟨_, rfl⟩
  replace H : (gangwaylaw5_CodeDeep.l2 k3 l0 t713 y725 (wrap64 (x15_3 + 1))) = some r := by first | (rw [hy725]; with_reducible exact H) | (have H2_ := (Option.bind_some _ _).symm.trans H; rw [hy725]; with_reducible exact H2_) | (have H2_ := (Option.bind_some _ _).symm.trans H; with_reducible exact H2_) | with_reducible exact H | (rw [hy725]; exact H) | exact H
  have Ny725 := am_ hy725; clear hy725; have H' := am_ H; clear H
  go_wp2_with (first | ((with_reducible refine gate_builtin (b := .append) (xs := #[.tmp 78, .tmp 79]) rfl ?_); (try (refine gate_guard (by rfl) ?_; dsimp only)); at_builtin; refine Kd.R_append (Kd.int .u8) (w0 := w) w.heap.size rfl (.tmp 78) (.tmp 79) 24 5 (.int .u8 0) 1 rfl Try.underlying24 info5 rfl (by decide) (by omega) u13 x13_3 11 [.int .u8 11] (fun _ => True) (fun _ => False) rfl rfl ?aP (fun _ hk => hk.elim) ?aF ?aO ?aB ?aS ?aL ?_; (case aP => exact rfl); (case aB => exact aa_0); (case aF => exact (fun _ _ => trivial)); (case aO => exact aa_2); (case aS => exact (below_size aa_0)); (case aL => have := LMc32.out; omega); intro v726 w33 ho hb hg hat; rw [← Ny725.out] at ho; have N_ := m_ (hb) <| am_ (ho); clear HB HO_13; obtain ⟨HB, HO727⟩ := N_; clear ho hb hg hat))
  go_roundg k3
  case measure => have := HK1.out; have := HK2.out; have := HK3.out; omega
  case rel => exact ⟨(y725), (wrap64 (x15_3 + 1)), (es_), H', ⟨by have := HK1.out; have := HK2.out; have := HK3.out; omega⟩, ⟨by (with_reducible repeat (first | apply Kd.R_alloc | apply Kd.R_drewN | apply Kd.R_drew)); exact HO727.out⟩, ⟨aa_0⟩⟩
 rw [if_neg c31] at H; have c31b0 : decide (x15_3 ≤ 41) = false := decide_eq_false c31; clear c31; replace H := bm_ H; obtain ⟨⟨t728, t729, t730⟩, A340, H⟩ := H; replace H : ((gangwaylaw5_num.f t713).bind fun t733 => (if t733 = 100 then ((gangwaylaw5_num.f t730).bind fun t734 => (if t734 = 100 then (if (l0.length : Int) ≥ 0 then ((gangwaylaw5_wakes.f k3).bind fun t735 => (some t735)) else (none)) else (none))) else (none))) = some r := H; have A34 := am_ A340; clear A340; replace H := bm_ H; obtain ⟨t733, A350, H⟩ := H; replace H : (if t733 = 100 then ((gangwaylaw5_num.f t730).bind fun t734 => (if t734 = 100 then (if (l0.length : Int) ≥ 0 then ((gangwaylaw5_wakes.f k3).bind fun t735 => (some t735)) else (none)) else (none))) else (none)) = some r := H; have A35 := am_ A350; clear A350; by_cases c36 : t733 = 100
 rotate_left
 ·rw [if_neg c36] at H; exact absurd H (by simp)
 rw [if_pos c36] at H; obtain ⟨c36b0, c36b1⟩ := eb c36; clear c36; replace H := bm_ H; obtain ⟨t734, A370, H⟩ := H; replace H : (if t734 = 100 then (if (l0.length : Int) ≥ 0 then ((gangwaylaw5_wakes.f k3).bind fun t735 => (some t735)) else (none)) else (none)) = some r := H; have A37 := am_ A370; clear A370; by_cases c38 : t734 = 100
 rotate_left
 ·rw [if_neg c38] at H; exact absurd H (by simp)
 rw [if_pos c38] at H; obtain ⟨c38b0, c38b1⟩ := eb c38; clear c38; by_cases c39 : (l0.length : Int) ≥ 0
 rotate_left
 ·rw [if_neg c39] at H; exact absurd H (by simp)
 rw [if_pos c39] at H; have c39b0 : decide (0 ≤ (l0.length : Int)) = true := decide_eq_true c39; have c39b1 : decide (0 ≤ l0.length) = true := decide_eq_true (by omega); clear c39; replace H := bm_ H; obtain ⟨t735, A400, H⟩ := H; replace H : (some t735) = some r := H; have A40 := am_ A400; clear A400; obtain rfl := Option.some.inj H; obtain ⟨Ao41, co41, eo41⟩ := Kd.R_slice HO_13.out; subst eo41
 go_wp2_with (first | ((with_reducible refine gate_callee (f := 11) rfl ?_); refine goesL_ (some 83) rfl rfl Try.func11 (by kernel_rfl) rfl #[.slice Ao41 x13_3.length co41] rfl aa_1 ?_; (with_reducible refine (code_Decode.calls k3 _ _ x13_3 t728 t729 t730 _ ?side1 ?side2 A34.out).mono ?_); (case side1 => repeat (first | exact (Kd.R_reads' HO_13.out).2.2 | (with_reducible refine Kd.C_alloc ?_ _) | (with_reducible refine Kd.C_drewN ?_ _) | (with_reducible refine Kd.C_drew ?_))); (case side2 => exact (Kd.R_reads' HO_13.out).2.1); rintro e w42 ⟨v731, rfl, ho0, hb⟩; refine ⟨_, rfl, ?_⟩; have N_ := m_ (Kd.R_below aa_2 hb) <| m_ (Kd.N_lower (Kd.N_mono (ok' := fun k_ => some k_ ≠ (.slice Ao41 x13_3.length co41 : Value).ownBlock) (Kd.R_N (Kd.R_bound ho0)) (fun k_ hk_ => (Kd.fresh' (Kd.R_lt aa_2) k_ hk_.2.1))) (below_size aa_0)) <| am_ (below_step aa_0 hb); clear HO_13 HB; obtain ⟨HO_13, HO732, HB⟩ := N_; (try clear hb); (try clear hb2); (try clear hk); (try clear hi); (try clear ho0)) | ((with_reducible refine gate_callee (f := 13) rfl ?_); refine goesL_ (some 88) rfl rfl Try.func13 (by kernel_rfl) rfl #[.int .i64 t713] rfl aa_1 ?_; (with_reducible refine (gangwaylaw5_num.calls t713 t733 _ A35.out).mono ?_); rintro e w' ⟨rfl, ⟨nd, rfl⟩⟩; refine ⟨_, rfl, ?_⟩) | (go_at_call 13; (with_reducible refine (gangwaylaw5_num.calls t730 t734 _ A37.out).mono ?_); rintro e w' ⟨rfl, ⟨nd, rfl⟩⟩) | (go_at_call 17; (with_reducible refine (gangwaylaw5_wakes.calls k3  t735 _ A40.out).mono ?_); rintro e w43 ⟨rfl, hb⟩; have N_ := m_ (Kd.R_below aa_2 hb) <| m_ (Kd.N_below (by (with_reducible repeat (first | apply Kd.N_alloc | apply Kd.N_drewN | apply Kd.N_drew)); exact HO732.out) hb) <| am_ (below_step aa_0 hb); clear HO_13 HO732 HB; obtain ⟨HO_13, HO732, HB⟩ := N_; (try clear hb); (try clear hb2); (try clear hk); (try clear hi)))
 go_ret; exact ⟨er_, by repeat (first | (with_reducible first | exact HB.out | apply below_alloc | apply pw_below_drewN | apply below_drew1) | exact HB.out)⟩
/-- THE ONE PURE STATEMENT of gangwaylaw5_CodeDeep: yours. -/
def gangwaylaw5_CodeDeep.Pure : Prop := ∀ (x0 : List (S26)), (x0.length * 48 ≤ 140737488351232 ∧ ∀ y736 ∈ x0, okT26 y736) → ∃ k, gangwaylaw5_CodeDeep.f k x0 = some true
theorem gangwaylaw5_CodeDeep.walk (P : gangwaylaw5_CodeDeep.Pure) (w : World) (x0 : List (S26)) (A0 : Option Addr) (c0 : Nat) (hr0 : Kd.C k26 w A0 x0.length x0) (hc0 : x0.length ≤ c0) (hok0 : (x0.length * 48 ≤ 140737488351232 ∧ ∀ y737 ∈ x0, okT26 y737)) :
  Calls Try.prog 6 #[.slice A0 x0.length c0] w fun e w' => e = .returned (.bool true) ∧ Below w.heap.size w w' := by
 obtain ⟨k, h⟩ := P x0 hok0; refine (gangwaylaw5_CodeDeep.calls k _ _ x0 true w hr0 hc0 h).mono ?_
 rintro e w' ⟨rfl, hd⟩
 exact ⟨rfl, hd⟩

end Go.Proofs.Ytlahigmoljflkaa.PAll
