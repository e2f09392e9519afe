import Derived.Test.YtlahigmoljflkaaPAllx0
namespace Go.Proofs.Ytlahigmoljflkaa.PAll
open Go.RowKit Go.Proofs.YtlahigmoljflkaaW.PrintWords Go.Proofs.YtlahigmoljflkaaW.PrintLast Go.Proofs.YtlahigmoljflkaaW.PrintMore
attribute [local go_sem] max2_int min2_int max_two min_two max_three min_three max_four min_four   -- for this text's walks alone
set_option linter.unusedVariables false
set_option linter.unusedSimpArgs false

def okT45n : Nat → S45 → Prop
  | 0, _ => False
  | n + 1, x => (Lit.int .i64 x.f0).wf = true ∧ (Lit.int .i64 x.f1).wf = true ∧ (Lit.int .i64 x.f2).wf = true ∧ (Lit.int .i64 x.f3).wf = true ∧ (Lit.int .i64 x.f4).wf = true ∧ (Lit.int .i64 x.f5).wf = true ∧ (x.f6.length * 8 ≤ 140737488351232 ∧ ∀ y464 ∈ x.f6, (Lit.int .i64 y464).wf = true) ∧ (x.f7.length * 120 ≤ 140737488351232 ∧ ∀ y465 ∈ x.f7, okT45n n y465) ∧ (x.f8.length * 120 ≤ 140737488351232 ∧ ∀ y466 ∈ x.f8, okT45n n y466)
def okT45 (x : S45) : Prop := ∃ n, okT45n n x
theorem opT45n (W : World) : ∀ m, Go.Proofs.YtlahigmoljflkaaO.OpensTo m Try.prog W 45 (Kd.upto F45 9 [3, 45] m) (okT45n m)
  | 0 => Go.Proofs.YtlahigmoljflkaaO.opensT_zero
  | m + 1 => Go.Proofs.YtlahigmoljflkaaO.opensT_iso (Go.Proofs.YtlahigmoljflkaaO.opensT_struct Try.underlying45 ((by kernel_rfl : Try.prog.cellsOf 45 = 9).trans rfl) (Go.Proofs.YtlahigmoljflkaaO.fieldsT_cons ((by kernel_rfl : Try.prog.cellsOf 3 = 1).trans rfl) (by kernel_rfl) (Go.Proofs.YtlahigmoljflkaaO.opensT_of (Go.Proofs.YtlahigmoljflkaaO.opens_int Try.underlying3) m) (Go.Proofs.YtlahigmoljflkaaO.fieldsT_cons ((by kernel_rfl : Try.prog.cellsOf 3 = 1).trans rfl) (by kernel_rfl) (Go.Proofs.YtlahigmoljflkaaO.opensT_of (Go.Proofs.YtlahigmoljflkaaO.opens_int Try.underlying3) m) (Go.Proofs.YtlahigmoljflkaaO.fieldsT_cons ((by kernel_rfl : Try.prog.cellsOf 3 = 1).trans rfl) (by kernel_rfl) (Go.Proofs.YtlahigmoljflkaaO.opensT_of (Go.Proofs.YtlahigmoljflkaaO.opens_int Try.underlying3) m) (Go.Proofs.YtlahigmoljflkaaO.fieldsT_cons ((by kernel_rfl : Try.prog.cellsOf 3 = 1).trans rfl) (by kernel_rfl) (Go.Proofs.YtlahigmoljflkaaO.opensT_of (Go.Proofs.YtlahigmoljflkaaO.opens_int Try.underlying3) m) (Go.Proofs.YtlahigmoljflkaaO.fieldsT_cons ((by kernel_rfl : Try.prog.cellsOf 3 = 1).trans rfl) (by kernel_rfl) (Go.Proofs.YtlahigmoljflkaaO.opensT_of (Go.Proofs.YtlahigmoljflkaaO.opens_int Try.underlying3) m) (Go.Proofs.YtlahigmoljflkaaO.fieldsT_cons ((by kernel_rfl : Try.prog.cellsOf 2 = 1).trans rfl) (by kernel_rfl) (Go.Proofs.YtlahigmoljflkaaO.opensT_of (Go.Proofs.YtlahigmoljflkaaO.opens_int Try.underlying2) m) (Go.Proofs.YtlahigmoljflkaaO.fieldsT_cons ((by kernel_rfl : Try.prog.cellsOf 43 = 1).trans rfl) (by kernel_rfl) (Go.Proofs.YtlahigmoljflkaaO.opensT_of (Go.Proofs.YtlahigmoljflkaaO.opens_slice (B := 8) Try.underlying43 (by kernel_rfl) (by kernel_rfl) (Go.Proofs.YtlahigmoljflkaaO.opens_int Try.underlying3)) m) (Go.Proofs.YtlahigmoljflkaaO.fieldsT_cons ((by kernel_rfl : Try.prog.cellsOf 23 = 1).trans rfl) (by kernel_rfl) (Go.Proofs.YtlahigmoljflkaaO.opensT_less (Go.Proofs.YtlahigmoljflkaaO.opensT_slice (B := 120) Try.underlying23 ((by kernel_rfl : Try.prog.cellsOf 45 = 9).trans (sz45 m).symm) (by kernel_rfl) (opT45n W m))) (Go.Proofs.YtlahigmoljflkaaO.fieldsT_last ((by kernel_rfl : Try.prog.cellsOf 23 = 1).trans rfl) (by kernel_rfl) (Go.Proofs.YtlahigmoljflkaaO.opensT_less (Go.Proofs.YtlahigmoljflkaaO.opensT_slice (B := 120) Try.underlying23 ((by kernel_rfl : Try.prog.cellsOf 45 = 9).trans (sz45 m).symm) (by kernel_rfl) (opT45n W m))))))))))))) _ (fun p => ⟨p.1, p.2.1, p.2.2.1, p.2.2.2.1, p.2.2.2.2.1, p.2.2.2.2.2.1, p.2.2.2.2.2.2.1, p.2.2.2.2.2.2.2.1, p.2.2.2.2.2.2.2.2⟩) (fun _ => rfl)
theorem opT45 (W : World) : Go.Proofs.YtlahigmoljflkaaO.Opens Try.prog W 45 k45 okT45 := Go.Proofs.YtlahigmoljflkaaO.opens_fix (opT45n W)
def okT26 (x : S26) : Prop := (x.f0.length * 120 ≤ 140737488351232 ∧ ∀ y467 ∈ x.f0, okT45 y467) ∧ (x.f1.length * 1 ≤ 140737488351232 ∧ ∀ y468 ∈ x.f1, (Lit.int .u8 y468).wf = true)
theorem opT26 (W : World) : Go.Proofs.YtlahigmoljflkaaO.Opens Try.prog W 26 k26 okT26 :=
  Go.Proofs.YtlahigmoljflkaaO.opens_iso (Go.Proofs.YtlahigmoljflkaaO.opens_struct Try.underlying26 (by kernel_rfl) (Go.Proofs.YtlahigmoljflkaaO.fields_cons (by kernel_rfl) (by kernel_rfl) (Go.Proofs.YtlahigmoljflkaaO.opens_slice (B := 120) Try.underlying23 (by kernel_rfl) (by kernel_rfl) (opT45 W)) (Go.Proofs.YtlahigmoljflkaaO.fields_last (by kernel_rfl) (by kernel_rfl) (Go.Proofs.YtlahigmoljflkaaO.opens_slice (B := 1) Try.underlying24 (by kernel_rfl) (by kernel_rfl) (Go.Proofs.YtlahigmoljflkaaO.opens_int Try.underlying5))))) _ (fun p => ⟨p.1, p.2⟩) (fun _ => rfl)

mutual
def gangwaylaw0_Weight.l0 : Nat → List (S45) → Int → Int → Int → Option (Int)
 | 0, _, _, _, _ => none
 | k + 1, x0, x1, x2, x7 => if x7 < (x0.length : Int) then (gangwaylaw0_Weight.j1 k x0 x1 x2 x7 (decide (x1 < 100000))) else (gangwaylaw0_Weight.j1 k x0 x1 x2 x7 false)
def gangwaylaw0_Weight.j1 : Nat → List (S45) → Int → Int → Int → Bool → Option (Int)
 | 0, _, _, _, _, _ => none
 | k + 1, x0, x1, x2, x7, x17 => if x17 = true then (if 0 ≤ x7 then (if x7 < (x0.length : Int) then ((gangwaylaw0_Weight.f k ((rd_T45 x0 x7).f7) (wrap64 ((wrap64 (x1 + 1)) + (((rd_T45 x0 x7).f6).length : Int))) (wrap64 (x2 + 1))).bind fun t103 => ((gangwaylaw0_Weight.f k ((rd_T45 x0 x7).f8) t103 (wrap64 (x2 + 1))).bind fun t105 => (gangwaylaw0_Weight.l0 k x0 t105 x2 (wrap64 (x7 + 1))))) else (none)) else (none)) else (some x1)
def gangwaylaw0_Weight.f : Nat → List (S45) → Int → Int → Option (Int)
 | 0, _, _, _ => none
 | k + 1, l0, a1, a2 => if a2 > 60 then (some 100000) else (gangwaylaw0_Weight.l0 k l0 a1 a2 0)
end
theorem gangwaylaw0_Weight.mono_l : ∀ k, (∀ y0 y1 y2, LeO (gangwaylaw0_Weight.f k y0 y1 y2) (gangwaylaw0_Weight.f (k + 1) y0 y1 y2)) ∧ (∀ y0 y1 y2 y3, LeO (gangwaylaw0_Weight.l0 k y0 y1 y2 y3) (gangwaylaw0_Weight.l0 (k + 1) y0 y1 y2 y3)) ∧ (∀ y0 y1 y2 y3 y4, LeO (gangwaylaw0_Weight.j1 k y0 y1 y2 y3 y4) (gangwaylaw0_Weight.j1 (k + 1) y0 y1 y2 y3 y4))
 | 0 => ⟨fun _ _ _ r h => by simp [gangwaylaw0_Weight.f] at h, fun _ _ _ _ r h => by simp [gangwaylaw0_Weight.l0] at h, fun _ _ _ _ _ r h => by simp [gangwaylaw0_Weight.j1] at h⟩
 | k + 1 => by
  obtain ⟨ih0, ih1, ih2⟩ := gangwaylaw0_Weight.mono_l k; refine ⟨?_, ?_, ?_⟩ <;> (intros; (first | unfold gangwaylaw0_Weight.f | unfold gangwaylaw0_Weight.l0 | unfold gangwaylaw0_Weight.j1); repeat' first | (with_reducible apply ih0) | (with_reducible apply ih1) | (with_reducible apply ih2) | (with_reducible exact LeO.refl _) | (with_reducible exact LeO.none _) | (with_reducible refine LeO.ite ?_ ?_) | (with_reducible refine LeO.bind ?_ (fun _ => ?_)) | apply ih0 | apply ih1 | apply ih2 | exact LeO.none _ | refine LeO.ite ?_ ?_ | refine LeO.bind ?_ (fun _ => ?_))
theorem gangwaylaw0_Weight.mono : ∀ a0 a1 a2 k, LeO (gangwaylaw0_Weight.f k a0 a1 a2) (gangwaylaw0_Weight.f (k + 1) a0 a1 a2) := by
 intro a0 a1 a2 k; obtain ⟨ih0, ih1, ih2⟩ := gangwaylaw0_Weight.mono_l k; exact ih0 a0 a1 a2
theorem gangwaylaw0_Weight.am_ {p : Prop} (h : p) : Aside0 p := Aside0.mk h
theorem gangwaylaw0_Weight.bm_ {α β : Type _} {o : Option α} {f : α → Option β} {b : β} (h : o.bind f = some b) : ∃ a, o = some a ∧ f a = some b := Option.bind_eq_some_iff.mp h
set_option maxHeartbeats 8000000 in
set_option maxRecDepth 100000 in
theorem gangwaylaw0_Weight.calls (k : Nat) : ∀ (A0 : Option Addr) (c0 : Nat) (l0 : List (S45)) (a1 : Int) (a2 : Int) (r : Int) (w : World) (hr0 : Kd.C k45 w A0 l0.length l0) (hc0 : l0.length ≤ c0) (h : gangwaylaw0_Weight.f k l0 a1 a2 = some r),
  Calls Try.prog 23 #[.slice A0 l0.length c0, .int .i64 a1, .int .i64 a2] w fun e w' => e = .returned (.int .i64 r) ∧ Drawn0 w w' := by
 induction k using Nat.strongRecOn with
 | _ k ih =>
 intro A0 c0 l0 a1 a2 r w hr0 hc0 h
 cases k with
 | zero => exact absurd h (by simp [gangwaylaw0_Weight.f])
 | succ k =>
 simp only [gangwaylaw0_Weight.f] at h; have HR0 := am_ hr0; have HC0 := am_ hc0; clear hr0 hc0; have H : (if a2 > 60 then (some 100000) else (gangwaylaw0_Weight.l0 k l0 a1 a2 0)) = some r := h; clear h; by_cases c4 : a2 > 60
 ·rw [if_pos c4] at H; have c4b0 : decide (60 < a2) = true := decide_eq_true c4; clear c4; obtain rfl := Option.some.inj H; go_enter Try.func23, Try.ntmps23; go_wp2; go_ret; exact ⟨es_, dr_⟩
 rw [if_neg c4] at H; have c4b0 : decide (60 < a2) = false := decide_eq_false c4; clear c4; have H' := am_ H; clear H; go_enter Try.func23, Try.ntmps23; go_wp2
 go_loopg [1, 7] k (fun kq v1 v7 w' => ∃ (x1_1 : Int) (x7_1 : Int), v1 = .int .i64 x1_1 ∧ v7 = .int .i64 x7_1 ∧ Aside0 (gangwaylaw0_Weight.l0 kq l0 x1_1 a2 x7_1 = some r) ∧ Aside0 (kq ≤ k) ∧ Drawn0 w w')
 case atStart => exact ⟨(a1), (0), (es_), (es_), H', ⟨Nat.le_refl _⟩, dr_⟩
 case round =>
 clear H'; (try clear c4b0); obtain ⟨x1_1, x7_1, rfl, rfl, HA, HK1, ⟨m1, rfl⟩⟩ := hrel
 cases gk with
 | zero => exact absurd HA.out (by simp [gangwaylaw0_Weight.l0])
 | succ k1 =>
 have H := HA.out; clear HA; simp only [gangwaylaw0_Weight.l0] at H; have HC5 := am_ H; clear H
 go_upto_region 4 with (fail)
 go_cut [17] (fun v17 wc => ∃ (kq : Nat) (x17_4 : Bool), v17 = .bool x17_4 ∧ Aside0 (j1 kq l0 x1_1 a2 x7_1 x17_4 = some r) ∧ Aside0 (kq ≤ k1) ∧ Drawn0 w wc)
 case first =>
  have H := HC5.out; clear HC5; by_cases c6 : x7_1 < (l0.length : Int)
  ·rw [if_pos c6] at H; have c6b0 : decide (x7_1 < (l0.length : Int)) = true := decide_eq_true c6; clear c6; (first | rw [c6b0] | (simp only [i64_w, i32_w]; rw [c6b0]) | skip); have H' := am_ H; clear H; go_wp2; go_meet
   case rel => exact ⟨_, (decide (x1_1 < 100000)), (es_), H', ⟨by have := HK1.out; first | omega | exact Nat.le_refl _⟩, dr_⟩
  rw [if_neg c6] at H; have c6b0 : decide (x7_1 < (l0.length : Int)) = false := decide_eq_false c6; clear c6; (first | rw [c6b0] | (simp only [i64_w, i32_w]; rw [c6b0]) | skip); have H' := am_ H; clear H; go_wp2; go_meet
  case rel => exact ⟨_, (false), (es_), H', ⟨by have := HK1.out; first | omega | exact Nat.le_refl _⟩, dr_⟩
 case rest =>
 clear HC5; obtain ⟨kq, x17_4, rfl, HA, HJ4, ⟨mc4, rfl⟩⟩ := hcut
 cases kq with
 | zero => exact absurd HA.out (by simp [j1])
 | succ kj4 =>
 have H := HA.out; clear HA; simp only [j1] at H; by_cases c7 : x17_4 = true
 rotate_left
 ·replace c7 := Bool.eq_false_iff.mpr c7; subst c7; have H1 : (some x1_1) = some r := by rw [if_neg (show ¬ (false = true) by decide)] at H; exact H
  clear H; have H := H1; clear H1; obtain rfl := Option.some.inj H; go_wp2; go_ret; exact ⟨es_, dr_⟩
 subst c7; have H1 : (if 0 ≤ x7_1 then (if x7_1 < (l0.length : Int) then ((gangwaylaw0_Weight.f kj4 ((rd_T45 l0 x7_1).f7) (wrap64 ((wrap64 (x1_1 + 1)) + (((rd_T45 l0 x7_1).f6).length : Int))) (wrap64 (a2 + 1))).bind fun t103 => ((gangwaylaw0_Weight.f kj4 ((rd_T45 l0 x7_1).f8) t103 (wrap64 (a2 + 1))).bind fun t105 => (gangwaylaw0_Weight.l0 kj4 l0 t105 a2 (wrap64 (x7_1 + 1))))) else (none)) else (none)) = some r := by rw [if_pos rfl] at H; exact H
 clear H; have H := H1; clear H1; by_cases c8 : 0 ≤ x7_1
 rotate_left
 ·rw [if_neg c8] at H; exact absurd H (by simp)
 rw [if_pos c8] at H; have c8b0 : decide (0 ≤ x7_1) = true := decide_eq_true c8; clear c8; by_cases c9 : x7_1 < (l0.length : Int)
 rotate_left
 ·rw [if_neg c9] at H; exact absurd H (by simp)
 rw [if_pos c9] at H; have c9b0 : decide (x7_1 < (l0.length : Int)) = true := decide_eq_true c9; clear c9; replace H := bm_ H; obtain ⟨t103, A100, H⟩ := H; replace H : ((gangwaylaw0_Weight.f kj4 ((rd_T45 l0 x7_1).f8) t103 (wrap64 (a2 + 1))).bind fun t105 => (gangwaylaw0_Weight.l0 kj4 l0 t105 a2 (wrap64 (x7_1 + 1)))) = some r := H; have A10 := am_ A100; clear A100; replace H := bm_ H; obtain ⟨t105, A110, H⟩ := H; replace H : (gangwaylaw0_Weight.l0 kj4 l0 t105 a2 (wrap64 (x7_1 + 1))) = some r := H; have A11 := am_ A110; clear A110; have H' := am_ H; clear H; have p101 : 0 ≤ (x7_1 : Int) := of_decide_eq_true (by first | (with_reducible assumption) | assumption); have q101 : x7_1 < (l0.length : Int) := of_decide_eq_true (by first | (with_reducible assumption) | assumption); obtain ⟨ad101, A101_6, c101_6, A101_7, c101_7, A101_8, c101_8, e101, hx101_0, hx101_1, hx101_2, hx101_3, hx101_4, hx101_5, hx101_6, hx101_7, hx101_8, hl101_6, hi101_6, hl101_7, hi101_7, hl101_8, hi101_8⟩ := at_T45 HR0.out x7_1 p101 q101
 cases e101
 have HR101_6 := am_ hi101_6; have HC101_6 := am_ hl101_6; clear hi101_6 hl101_6; have HR101_7 := am_ hi101_7; have HC101_7 := am_ hl101_7; clear hi101_7 hl101_7; have HR101_8 := am_ hi101_8; have HC101_8 := am_ hl101_8; clear hi101_8 hl101_8; replace p101 := eq_true p101; replace q101 := eq_true q101; have p102 : 0 ≤ (x7_1 : Int) := of_decide_eq_true (by first | (with_reducible assumption) | assumption); have q102 : x7_1 < (l0.length : Int) := of_decide_eq_true (by first | (with_reducible assumption) | assumption); obtain ⟨ad102, A102_6, c102_6, A102_7, c102_7, A102_8, c102_8, e102, hx102_0, hx102_1, hx102_2, hx102_3, hx102_4, hx102_5, hx102_6, hx102_7, hx102_8, hl102_6, hi102_6, hl102_7, hi102_7, hl102_8, hi102_8⟩ := at_T45 HR0.out x7_1 p102 q102; obtain rfl : ad101 = ad102 := (by injection e102); have HR102_6 := am_ hi102_6; have HC102_6 := am_ hl102_6; clear hi102_6 hl102_6; have HR102_7 := am_ hi102_7; have HC102_7 := am_ hl102_7; clear hi102_7 hl102_7; have HR102_8 := am_ hi102_8; have HC102_8 := am_ hl102_8; clear hi102_8 hl102_8; replace p102 := eq_true p102; replace q102 := eq_true q102; have ea_ := Option.some.inj (hx101_6.symm.trans hx102_6); injection ea_ with ea_ en_ ec_; subst ea_; subst ec_; clear en_
 have ea_ := Option.some.inj (hx101_7.symm.trans hx102_7); injection ea_ with ea_ en_ ec_; subst ea_; subst ec_; clear en_
 have ea_ := Option.some.inj (hx101_8.symm.trans hx102_8); injection ea_ with ea_ en_ ec_; subst ea_; subst ec_; clear en_
 go_wp2_with (first | ((with_reducible refine gate_callee (f := 23) rfl ?_); refine goesL_ (some 37) rfl rfl Try.func23 (by kernel_rfl) rfl #[.slice A101_7 ((rd_T45 l0 x7_1).f7).length c101_7, .int .i64 (wrap64 ((wrap64 (x1_1 + 1)) + (((rd_T45 l0 x7_1).f6).length : Int))), .int .i64 (wrap64 (a2 + 1))] rfl (by (try simp only [List.map_toArray, List.map_cons, List.map_nil]); first | done | rfl | (simp only [List.length_drop, List.length_take]; rfl)) ?_; (with_reducible refine (ih kj4 (by have := HK1.out; have := HJ4.out; omega) _ _ ((rd_T45 l0 x7_1).f7) (wrap64 ((wrap64 (x1_1 + 1)) + (((rd_T45 l0 x7_1).f6).length : Int))) (wrap64 (a2 + 1)) t103 _ ?side1 ?side2 A10.out).mono ?_); (case side1 => repeat (first | exact HR102_7.out | (with_reducible refine Kd.C_alloc ?_ _) | (with_reducible refine Kd.C_drewN ?_ _) | (with_reducible refine Kd.C_drew ?_))); (case side2 => exact HC102_7.out); rintro e w' ⟨rfl, ⟨nd, rfl⟩⟩; refine ⟨_, rfl, ?_⟩; have p104 : 0 ≤ (x7_1 : Int) := of_decide_eq_true (by first | (with_reducible assumption) | assumption); have q104 : x7_1 < (l0.length : Int) := of_decide_eq_true (by first | (with_reducible assumption) | assumption); obtain ⟨ad104, A104_6, c104_6, A104_7, c104_7, A104_8, c104_8, e104, hx104_0, hx104_1, hx104_2, hx104_3, hx104_4, hx104_5, hx104_6, hx104_7, hx104_8, hl104_6, hi104_6, hl104_7, hi104_7, hl104_8, hi104_8⟩ := at_T45 HR0.out x7_1 p104 q104; obtain rfl : ad101 = ad104 := (by injection e104); have HR104_6 := am_ hi104_6; have HC104_6 := am_ hl104_6; clear hi104_6 hl104_6; have HR104_7 := am_ hi104_7; have HC104_7 := am_ hl104_7; clear hi104_7 hl104_7; have HR104_8 := am_ hi104_8; have HC104_8 := am_ hl104_8; clear hi104_8 hl104_8; replace p104 := eq_true p104; replace q104 := eq_true q104; have ea_ := Option.some.inj (hx101_6.symm.trans hx104_6); injection ea_ with ea_ en_ ec_; subst ea_; subst ec_; clear en_; have ea_ := Option.some.inj (hx101_7.symm.trans hx104_7); injection ea_ with ea_ en_ ec_; subst ea_; subst ec_; clear en_; have ea_ := Option.some.inj (hx101_8.symm.trans hx104_8); injection ea_ with ea_ en_ ec_; subst ea_; subst ec_; clear en_) | ((with_reducible refine gate_callee (f := 23) rfl ?_); refine goesL_ (some 46) rfl rfl Try.func23 (by kernel_rfl) rfl #[.slice A101_8 ((rd_T45 l0 x7_1).f8).length c101_8, .int .i64 t103, .int .i64 (wrap64 (a2 + 1))] rfl (by (try simp only [List.map_toArray, List.map_cons, List.map_nil]); first | done | rfl | (simp only [List.length_drop, List.length_take]; rfl)) ?_; (with_reducible refine (ih kj4 (by have := HK1.out; have := HJ4.out; omega) _ _ ((rd_T45 l0 x7_1).f8) t103 (wrap64 (a2 + 1)) t105 _ ?side1 ?side2 A11.out).mono ?_); (case side1 => repeat (first | exact HR104_8.out | (with_reducible refine Kd.C_alloc ?_ _) | (with_reducible refine Kd.C_drewN ?_ _) | (with_reducible refine Kd.C_drew ?_))); (case side2 => exact HC104_8.out); rintro e w' ⟨rfl, ⟨nd, rfl⟩⟩; refine ⟨_, rfl, ?_⟩))
 go_roundg kj4
 case measure => have := HK1.out; have := HJ4.out; omega
 case rel => exact ⟨(t105), (wrap64 (x7_1 + 1)), (es_), (es_), H', ⟨by have := HK1.out; have := HJ4.out; omega⟩, dr_⟩
theorem gangwaylaw5_heavy.m_ {p q : Prop} (h : p) (k : q) : Aside0 p ∧ q := ⟨Aside0.mk h, k⟩
abbrev gangwaylaw5_heavy.t : Bool := true
theorem gangwaylaw5_heavy.bc {w : World} {g : Nat} {cs : Array Value} {t : TypeId} (h : Aside0 (w.heap[g]? = some (.cells cs t (0, 0)))) (i : Nat) {v : Value} (e : cs[i]? = some v := by rfl) : w.cell? ⟨g, i, none⟩ = some v := (blk_cell h.out i).trans e
def gangwaylaw5_heavy.f (k : Nat) (l0_0 : List (S45)) (l0_1 : List Int) : Option (Bool) := (gangwaylaw0_Weight.f k l0_0 0 0).bind fun t107 => (if t107 > 2000 then (some true) else (some (decide ((l0_1.length : Int) > 4000))))
theorem gangwaylaw5_heavy.mono : ∀ a0 a1 k, LeO (gangwaylaw5_heavy.f k a0 a1) (gangwaylaw5_heavy.f (k + 1) a0 a1) := by
 intro a0 a1 k
 unfold gangwaylaw5_heavy.f
 repeat' first
   | (with_reducible exact gangwaylaw0_Weight.mono _ _ _ _)
   | (with_reducible exact LeO.refl _)
   | (with_reducible exact LeO.none _)
   | (with_reducible refine LeO.ite ?_ ?_)
   | (with_reducible refine LeO.bind ?_ (fun _ => ?_))
   | exact gangwaylaw0_Weight.mono _ _ _ _
   | exact LeO.none _
   | refine LeO.ite ?_ ?_
   | refine LeO.bind ?_ (fun _ => ?_)
theorem gangwaylaw5_heavy.aa_0 {p : Prop} (h : p := by repeat (first | (with_reducible first | exact HB.out | apply below_alloc | apply pw_below_drewN | apply below_drew1) | exact HB.out)) : p := h
theorem gangwaylaw5_heavy.aa_1 {p : Prop} (h : p := by repeat (first | exact (Kd.C_below HR0_0.out HB.out) | (with_reducible refine Kd.C_alloc ?_ _) | (with_reducible refine Kd.C_drewN ?_ _) | (with_reducible refine Kd.C_drew ?_))) : p := h
theorem gangwaylaw5_heavy.am_ {p : Prop} (h : p) : Aside0 p := Aside0.mk h
theorem gangwaylaw5_heavy.bm_ {α β : Type _} {o : Option α} {f : α → Option β} {b : β} (h : o.bind f = some b) : ∃ a, o = some a ∧ f a = some b := Option.bind_eq_some_iff.mp h
set_option maxHeartbeats 8000000 in
set_option maxRecDepth 100000 in
theorem gangwaylaw5_heavy.calls (k : Nat) (A0_0 : Option Addr) (c0_0 : Nat) (l0_0 : List (S45)) (A0_1 : Option Addr) (c0_1 : Nat) (l0_1 : List Int) (r : Bool) (w : World) (hr0_0 : Kd.C k45 w A0_0 l0_0.length l0_0) (hc0_0 : l0_0.length ≤ c0_0) (hr0_1 : Kd.C (Kd.int .u8) w A0_1 l0_1.length l0_1) (hc0_1 : l0_1.length ≤ c0_1) (h : gangwaylaw5_heavy.f k l0_0 l0_1 = some r) :
  Calls Try.prog 9 #[.agg #[.slice A0_0 l0_0.length c0_0, .slice A0_1 l0_1.length c0_1]] w fun e w' => e = .returned (.bool r) ∧ Below w.heap.size w w' := by
 have hu26 := Try.underlying26; have HR0_0 := am_ hr0_0; have HC0_0 := am_ hc0_0; clear hr0_0 hc0_0; have HR0_1 := am_ hr0_1; have HC0_1 := am_ hc0_1; clear hr0_1 hc0_1; have HB := am_ (Below.refl w.heap.size w); have H : ((gangwaylaw0_Weight.f k l0_0 0 0).bind fun t107 => (if t107 > 2000 then (some true) else (some (decide ((l0_1.length : Int) > 4000))))) = some r := h; clear h; replace H := bm_ H; obtain ⟨t107, A20, H⟩ := H; replace H : (if t107 > 2000 then (some true) else (some (decide ((l0_1.length : Int) > 4000)))) = some r := H; have A2 := am_ A20; clear A20; by_cases c3 : t107 > 2000
 ·rw [if_pos c3] at H; have c3b0 : decide (2000 < t107) = true := decide_eq_true c3; clear c3; obtain rfl := Option.some.inj H; go_enter Try.func9, Try.ntmps9
  go_wp2_with (first | ((with_reducible refine gate_dst (N := 1) rfl ?_); (try (refine gate_guard (by rfl) ?_; dsimp only)); refine box_event ?hg (N := 1) ?hd (cs := #[.slice A0_0 l0_0.length c0_0, .slice A0_1 l0_1.length c0_1]) (t := 26) ?hr ?_; (case hd => rfl); (case hg => rfl); (case hr => first | (go_simp; done) | (go_simp; rfl)); intro gb106 hg w4 hbox hb; have N_ := m_ (below_step aa_0 hb) <| m_ (hbox) <| m_ ((by rw [hg]; exact (below_size aa_0) : w.heap.size ≤ gb106)) <| am_ ((by rw [hg]; exact (below_size aa_0) : w.heap.size ≤ gb106)); clear HB; obtain ⟨HB, BK106, GW106, GE106⟩ := N_; clear hb hbox hg; have Z5_0 : w4.cell? ⟨gb106, 0, none⟩ = some (.slice A0_0 l0_0.length c0_0) := (bc BK106 0); have Z5_1 : w4.cell? ⟨gb106, 1, none⟩ = some (.slice A0_1 l0_1.length c0_1) := (bc BK106 1); have Y5_0 := blk_frozen BK106.out 0; have Y5_1 := blk_frozen BK106.out 1) | ((with_reducible refine gate_callee (f := 23) rfl ?_); refine goesL_ (some 5) rfl rfl Try.func23 (by kernel_rfl) rfl #[.slice A0_0 l0_0.length c0_0, .int .i64 0, .int .i64 0] rfl (by (try simp only [List.map_toArray, List.map_cons, List.map_nil]); first | done | rfl | (simp only [List.length_drop, List.length_take]; rfl)) ?_; (with_reducible refine (gangwaylaw0_Weight.calls k _ _ l0_0 0 0 t107 _ ?side1 ?side2 A2.out).mono ?_); (case side1 => exact aa_1); (case side2 => exact HC0_0.out); rintro e w' ⟨rfl, ⟨nd, rfl⟩⟩; refine ⟨_, rfl, ?_⟩))
  go_ret; exact ⟨er_, by repeat (first | (with_reducible first | exact HB.out | apply below_alloc | apply pw_below_drewN | apply below_drew1 | refine below_set ?_ GE106.out) | exact HB.out)⟩
 rw [if_neg c3] at H; have c3b0 : decide (2000 < t107) = false := decide_eq_false c3; clear c3; obtain rfl := Option.some.inj H; go_enter Try.func9, Try.ntmps9
 go_wp2_with (first | ((with_reducible refine gate_dst (N := 1) rfl ?_); (try (refine gate_guard (by rfl) ?_; dsimp only)); refine box_event ?hg (N := 1) ?hd (cs := #[.slice A0_0 l0_0.length c0_0, .slice A0_1 l0_1.length c0_1]) (t := 26) ?hr ?_; (case hd => rfl); (case hg => rfl); (case hr => first | (go_simp; done) | (go_simp; rfl)); intro gb106 hg w6 hbox hb; have N_ := m_ (below_step aa_0 hb) <| m_ (hbox) <| m_ ((by rw [hg]; exact (below_size aa_0) : w.heap.size ≤ gb106)) <| am_ ((by rw [hg]; exact (below_size aa_0) : w.heap.size ≤ gb106)); clear HB; obtain ⟨HB, BK106, GW106, GE106⟩ := N_; clear hb hbox hg; have Z7_0 : w6.cell? ⟨gb106, 0, none⟩ = some (.slice A0_0 l0_0.length c0_0) := (bc BK106 0); have Z7_1 : w6.cell? ⟨gb106, 1, none⟩ = some (.slice A0_1 l0_1.length c0_1) := (bc BK106 1); have Y7_0 := blk_frozen BK106.out 0; have Y7_1 := blk_frozen BK106.out 1) | ((with_reducible refine gate_callee (f := 23) rfl ?_); refine goesL_ (some 5) rfl rfl Try.func23 (by kernel_rfl) rfl #[.slice A0_0 l0_0.length c0_0, .int .i64 0, .int .i64 0] rfl (by (try simp only [List.map_toArray, List.map_cons, List.map_nil]); first | done | rfl | (simp only [List.length_drop, List.length_take]; rfl)) ?_; (with_reducible refine (gangwaylaw0_Weight.calls k _ _ l0_0 0 0 t107 _ ?side1 ?side2 A2.out).mono ?_); (case side1 => exact aa_1); (case side2 => exact HC0_0.out); rintro e w' ⟨rfl, ⟨nd, rfl⟩⟩; refine ⟨_, rfl, ?_⟩))
 go_ret; exact ⟨er_, by repeat (first | (with_reducible first | exact HB.out | apply below_alloc | apply pw_below_drewN | apply below_drew1 | refine below_set ?_ GE106.out) | exact HB.out)⟩
def IsS53 (w0 W : World) (g : Nat) (f0 : List Int) (f1 : Int) (f2 : Bool) : Prop := ∃ A0 c0, W.heap[g]? = some (.cells #[.slice A0 f0.length c0, .int .i64 f1, .bool f2] 53 (0, 0)) ∧ w0.heap.size ≤ g ∧ (f0.length ≤ c0 ∧ Kd.C (Kd.int .u8) w0 A0 f0.length f0)
theorem IsS53.grown {w0 W : World} {g : Nat} {f0 : List Int} {f1 : Int} {f2 : Bool} {W1 : World} {row : Option Nat} (h : IsS53 w0 W g f0 f1 f2) (hw : W.grownBy W1 row) (hne : some g ≠ row) : IsS53 w0 W1 g f0 f1 f2 := by
 obtain ⟨A0, c0, hb, hg, hr0⟩ := h; exact ⟨A0, c0, blk_grown hb hw hne, hg, hr0⟩
theorem IsS53.kept {w0 W : World} {g : Nat} {f0 : List Int} {f1 : Int} {f2 : Bool} {W1 : World} {S : Nat → Prop} (h : IsS53 w0 W g f0 f1 f2) (hk : Kept W W1 S) (hne : ¬ S g) : IsS53 w0 W1 g f0 f1 f2 := by
 obtain ⟨A0, c0, hb, hg, hr0⟩ := h; exact ⟨A0, c0, blk_kept hb hk hne, hg, hr0⟩
theorem IsS53.below {w0 W : World} {g : Nat} {f0 : List Int} {f1 : Int} {f2 : Bool} {W1 : World} (h : IsS53 w0 W g f0 f1 f2) (hw : Below W.heap.size W W1) : IsS53 w0 W1 g f0 f1 f2 := h.grown (grown_of_below hw none) (by simp)
theorem IsS53.alloc {w0 W : World} {g : Nat} {f0 : List Int} {f1 : Int} {f2 : Bool} (h : IsS53 w0 W g f0 f1 f2) (o : Obj) : IsS53 w0 (W.alloc o) g f0 f1 f2 := h.below (below_alloc (Below.refl _ _) o)
theorem IsS53.drewN {w0 W : World} {g : Nat} {f0 : List Int} {f1 : Int} {f2 : Bool} (h : IsS53 w0 W g f0 f1 f2) (m : Nat) : IsS53 w0 (W.drewN m) g f0 f1 f2 := h
theorem IsS53.drew {w0 W : World} {g : Nat} {f0 : List Int} {f1 : Int} {f2 : Bool} (h : IsS53 w0 W g f0 f1 f2) : IsS53 w0 W.drew g f0 f1 f2 := h
theorem IsS53.at_ {w0 W : World} {g : Nat} {f0 : List Int} {f1 : Int} {f2 : Bool} {w' : World} {m : Nat} (hq : W.drewN m = w') (h : IsS53 w0 W g f0 f1 f2) : IsS53 w0 w' g f0 f1 f2 := by subst hq; exact IsS53.drewN h m
theorem IsS53.apart {w0 W : World} {g : Nat} {f0 : List Int} {f1 : Int} {f2 : Bool} {α : Type} {d : Kd α} {e : Nat} {base : Nat} {ok : Nat → Prop} {v : Value} {xs : List α} (h : IsS53 w0 W g f0 f1 f2) (ho : d.R e W base ok v xs) (ht : ∀ q, q ∈ e :: d.E → q ≠ 53) : d.R e W base (fun k => ok k ∧ k ≠ g) v xs := by
 obtain ⟨A0, c0, hb, hg, hr0⟩ := h; exact Kd.R_types ho hb ht
theorem IsS53.own_ne {w0 W : World} {g : Nat} {f0 : List Int} {f1 : Int} {f2 : Bool} {α : Type} {d : Kd α} {e : Nat} {base : Nat} {ok : Nat → Prop} {v : Value} {xs : List α} (h : IsS53 w0 W g f0 f1 f2) (ho : d.R e W base ok v xs) (ht : e ≠ 53) : some g ≠ v.ownBlock := by
 obtain ⟨A0, c0, hb, hg, hr0⟩ := h; exact Kd.R_ne ho hb ht
theorem IsS53.lt {w0 W : World} {g : Nat} {f0 : List Int} {f1 : Int} {f2 : Bool} (h : IsS53 w0 W g f0 f1 f2) : g < W.heap.size := by
 obtain ⟨A0, c0, hb, hg, hr0⟩ := h; exact blk_lt hb
theorem IsS53.ge {w0 W : World} {g : Nat} {f0 : List Int} {f1 : Int} {f2 : Bool} (h : IsS53 w0 W g f0 f1 f2) : w0.heap.size ≤ g := by
 obtain ⟨A0, c0, hb, hg, hr0⟩ := h; exact hg
theorem IsS53.far {w0 W : World} {g : Nat} {f0 : List Int} {f1 : Int} {f2 : Bool} {p : Addr} (h : IsS53 w0 W g f0 f1 f2) (hne : g ≠ p.block) (u : Value) : IsS53 w0 (W.setCell p u) g f0 f1 f2 := by
 obtain ⟨A0, c0, hb, hg, hr0⟩ := h; exact ⟨A0, c0, blk_far hb hne u, hg, hr0⟩
theorem cellS53_0 {W : World} {g : Nat} {A0 : Option Addr} {c0 : Nat} {f0 : List Int} {f1 : Int} {f2 : Bool} (h : W.heap[g]? = some (.cells #[.slice A0 f0.length c0, .int .i64 f1, .bool f2] 53 (0, 0))) : W.cell? ⟨g, 0, none⟩ = some (.slice A0 f0.length c0) := (blk_cell h 0).trans rfl
theorem cellS53_1 {W : World} {g : Nat} {A0 : Option Addr} {c0 : Nat} {f0 : List Int} {f1 : Int} {f2 : Bool} (h : W.heap[g]? = some (.cells #[.slice A0 f0.length c0, .int .i64 f1, .bool f2] 53 (0, 0))) : W.cell? ⟨g, 1, none⟩ = some (.int .i64 f1) := (blk_cell h 1).trans rfl
theorem IsS53.set_1 {w0 W : World} {g : Nat} {f0 : List Int} {f1 : Int} {f2 : Bool} (h : IsS53 w0 W g f0 f1 f2) (x : Int) : IsS53 w0 (W.setCell ⟨g, 1, none⟩ (.int .i64 x)) g f0 x f2 := by
 obtain ⟨A0, c0, hb, hg, hr0⟩ := h; exact ⟨A0, c0, by simpa using blk_set hb 1 (.int .i64 x), hg, hr0⟩
theorem cellS53_2 {W : World} {g : Nat} {A0 : Option Addr} {c0 : Nat} {f0 : List Int} {f1 : Int} {f2 : Bool} (h : W.heap[g]? = some (.cells #[.slice A0 f0.length c0, .int .i64 f1, .bool f2] 53 (0, 0))) : W.cell? ⟨g, 2, none⟩ = some (.bool f2) := (blk_cell h 2).trans rfl
theorem IsS53.set_2 {w0 W : World} {g : Nat} {f0 : List Int} {f1 : Int} {f2 : Bool} (h : IsS53 w0 W g f0 f1 f2) (x : Bool) : IsS53 w0 (W.setCell ⟨g, 2, none⟩ (.bool x)) g f0 f1 x := by
 obtain ⟨A0, c0, hb, hg, hr0⟩ := h; exact ⟨A0, c0, by simpa using blk_set hb 2 (.bool x), hg, hr0⟩
def code_place_next.f (s0_0 : List Int) (s0_1 : Int) (s0_2 : Bool) : Option (Int × Int × Bool) := if s0_2 = true then (some ((-1), s0_1, true)) else (if s0_1 ≥ (s0_0.length : Int) then (some ((-1), s0_1, true)) else (if 0 ≤ (wrap64 ((wrap64 (s0_1 + 1)) - 1)) then (if (wrap64 ((wrap64 (s0_1 + 1)) - 1)) < (s0_0.length : Int) then (some (wrap64 (rd s0_0 (wrap64 ((wrap64 (s0_1 + 1)) - 1))), wrap64 (s0_1 + 1), s0_2)) else (none)) else (none)))
theorem code_place_next.am_ {p : Prop} (h : p) : Aside0 p := Aside0.mk h
set_option maxHeartbeats 8000000 in
set_option maxRecDepth 100000 in
theorem code_place_next.calls (g : Nat) (s0_0 : List Int) (s0_1 : Int) (s0_2 : Bool) (r1 : Int) (r2 : Int) (r3 : Bool) (w0 w : World) (hI : IsS53 w0 w g s0_0 s0_1 s0_2) (hB : Below w0.heap.size w0 w) (h : code_place_next.f s0_0 s0_1 s0_2 = some (r1, r2, r3)) :
  Calls Try.prog 34 #[.pointer (some ⟨g, 0, none⟩)] w fun e w' => e = .returned (.int .i64 r1) ∧ IsS53 w0 w' g s0_0 r2 r3 ∧ Below w0.heap.size w0 w' ∧ KeepBut w w' g none := by
 have HI0 := am_ hI; have HK := am_ (KeepBut.refl w g none); have HL := am_ hB.size; clear hI; have HW0 := am_ hB.size; have HB := am_ hB; clear hB; have H : (if s0_2 = true then (some ((-1), s0_1, true)) else (if s0_1 ≥ (s0_0.length : Int) then (some ((-1), s0_1, true)) else (if 0 ≤ (wrap64 ((wrap64 (s0_1 + 1)) - 1)) then (if (wrap64 ((wrap64 (s0_1 + 1)) - 1)) < (s0_0.length : Int) then (some (wrap64 (rd s0_0 (wrap64 ((wrap64 (s0_1 + 1)) - 1))), wrap64 (s0_1 + 1), s0_2)) else (none)) else (none)))) = some (r1, r2, r3) := h; clear h; by_cases c2 : s0_2 = true
 ·subst c2; have H1 : (some ((-1), s0_1, true)) = some (r1, r2, r3) := by rw [if_pos rfl] at H; exact H
  clear H; have H := H1; clear H1; simp only [Option.some.injEq, Prod.mk.injEq] at H; obtain ⟨rfl, rfl, rfl⟩ := H; obtain ⟨ASz3_0, cSz3_0, HGz3, hgz3, HSz3_0⟩ := HI0.out; have Z3_0 := cellS53_0 HGz3; have Z3_1 := cellS53_1 HGz3; have Z3_2 := cellS53_2 HGz3; have Y3_1 := blk_frozen HGz3 1; have Y3_2 := blk_frozen HGz3 2; clear HGz3 hgz3; go_enter Try.func34, Try.ntmps34; go_wp2
  repeat (go_quiet (fail); try go_wp2)
  go_ret; exact ⟨er_, by repeat (first | (with_reducible first | exact HI0.out | apply IsS53.alloc | apply IsS53.drewN | apply IsS53.drew | apply IsS53.set_1 | apply IsS53.set_2) | exact HI0.out), by repeat (first | (with_reducible first | exact HB.out | apply below_alloc | apply pw_below_drewN | apply below_drew1 | refine below_set ?_ (IsS53.ge HI0.out)) | exact HB.out), by repeat (first | (with_reducible first | exact HK.out | apply KeepBut.set_ | apply keep_drewN | apply keep_drew | apply keep_alloc) | exact HK.out)⟩
 replace c2 := Bool.eq_false_iff.mpr c2; subst c2; have H1 : (if s0_1 ≥ (s0_0.length : Int) then (some ((-1), s0_1, true)) else (if 0 ≤ (wrap64 ((wrap64 (s0_1 + 1)) - 1)) then (if (wrap64 ((wrap64 (s0_1 + 1)) - 1)) < (s0_0.length : Int) then (some (wrap64 (rd s0_0 (wrap64 ((wrap64 (s0_1 + 1)) - 1))), wrap64 (s0_1 + 1), false)) else (none)) else (none))) = some (r1, r2, r3) := by rw [if_neg (show ¬ (false = true) by decide)] at H; exact H
 clear H; have H := H1; clear H1; by_cases c4 : s0_1 ≥ (s0_0.length : Int)
 ·rw [if_pos c4] at H; have c4b0 : decide ((s0_0.length : Int) ≤ s0_1) = true := decide_eq_true c4; clear c4; simp only [Option.some.injEq, Prod.mk.injEq] at H; obtain ⟨rfl, rfl, rfl⟩ := H; obtain ⟨ASz5_0, cSz5_0, HGz5, hgz5, HSz5_0⟩ := HI0.out; have Z5_0 := cellS53_0 HGz5; have Z5_1 := cellS53_1 HGz5; have Z5_2 := cellS53_2 HGz5; have Y5_1 := blk_frozen HGz5 1; have Y5_2 := blk_frozen HGz5 2; clear HGz5 hgz5; go_enter Try.func34, Try.ntmps34; go_wp2
  repeat (go_quiet (fail); try go_wp2)
  go_ret; exact ⟨er_, by repeat (first | (with_reducible first | exact HI0.out | apply IsS53.alloc | apply IsS53.drewN | apply IsS53.drew | apply IsS53.set_1 | apply IsS53.set_2) | exact HI0.out), by repeat (first | (with_reducible first | exact HB.out | apply below_alloc | apply pw_below_drewN | apply below_drew1 | refine below_set ?_ (IsS53.ge HI0.out)) | exact HB.out), by repeat (first | (with_reducible first | exact HK.out | apply KeepBut.set_ | apply keep_drewN | apply keep_drew | apply keep_alloc) | exact HK.out)⟩
 rw [if_neg c4] at H; have c4b0 : decide ((s0_0.length : Int) ≤ s0_1) = false := decide_eq_false c4; clear c4; obtain ⟨ji6, hji6⟩ : ∃ j_ : Int, (wrap64 ((wrap64 (s0_1 + 1)) - 1)) = j_ := ⟨_, rfl⟩
 replace H : (if 0 ≤ (ji6) then (if (ji6) < (s0_0.length : Int) then (some (wrap64 (rd s0_0 (ji6)), wrap64 (s0_1 + 1), false)) else (none)) else (none)) = some (r1, r2, r3) := by first | (rw [hji6] at H; exact H) | (simp only [hji6] at H ⊢; exact H)
 have hji6w : (IntKind.i64.wrap ((wrap64 (s0_1 + 1)) - 1)) = ji6 := (i64_w _).trans hji6; by_cases c7 : 0 ≤ (ji6)
 rotate_left
 ·rw [if_neg c7] at H; exact absurd H (by simp)
 rw [if_pos c7] at H; have c7b0 : decide (0 ≤ (ji6)) = true := decide_eq_true c7; clear c7; by_cases c8 : (ji6) < (s0_0.length : Int)
 rotate_left
 ·rw [if_neg c8] at H; exact absurd H (by simp)
 rw [if_pos c8] at H; have c8b0 : decide ((ji6) < (s0_0.length : Int)) = true := decide_eq_true c8; clear c8; simp only [Option.some.injEq, Prod.mk.injEq] at H; obtain ⟨rfl, rfl, rfl⟩ := H; obtain ⟨ASz9_0, cSz9_0, HGz9, hgz9, HSz9_0⟩ := HI0.out; have Z9_0 := cellS53_0 HGz9; have Z9_1 := cellS53_1 HGz9; have Z9_2 := cellS53_2 HGz9; have Y9_1 := blk_frozen HGz9 1; have Y9_2 := blk_frozen HGz9 2; clear HGz9 hgz9; have p112 : 0 ≤ ((ji6) : Int) := of_decide_eq_true (by first | (with_reducible assumption) | assumption); have q112 : (ji6) < (s0_0.length : Int) := of_decide_eq_true (by first | (with_reducible assumption) | assumption); obtain ⟨ad112, e112, hx112_0⟩ := Kd.at_int HSz9_0.2 (ji6) p112 q112
 cases e112
 have hn112_0 : ad112.block ≠ g := Nat.ne_of_lt (Nat.lt_of_lt_of_le (by have := World.block_lt_of_cell? _ _ hx112_0; first | rwa [add_block] at this | exact this) (IsS53.ge HI0.out)); replace hx112_0 := pw_cell_below HB.out hx112_0; replace hx112_0 := (cell_far (p := ⟨g, 1, none⟩) (by first | (rw [add_block]; exact hn112_0) | (show (Addr.add _ _).block ≠ _; rw [add_block]; exact hn112_0) | exact hn112_0) (.int .i64 (wrap64 (s0_1 + 1)))).trans hx112_0; (try have hy112_0 := fun (n_ : Nat) => (show (((w.drewN n_).setCell ⟨g, 1, none⟩ (.int .i64 (wrap64 (s0_1 + 1))))).cell? _ = some _ from hx112_0)); clear hn112_0; replace p112 := eq_true p112; replace q112 := eq_true q112; go_enter Try.func34, Try.ntmps34; go_wp2
 repeat (go_quiet (fail); try go_wp2)
 go_ret; exact ⟨by first | rfl | (simp [errW_none, errW_some] <;> rfl) | (simp only [← hji6]; first | rfl | (simp [errW_none, errW_some] <;> rfl)) | (simp [*, errW_none, errW_some] <;> rfl), by repeat (first | (with_reducible first | exact HI0.out | apply IsS53.alloc | apply IsS53.drewN | apply IsS53.drew | apply IsS53.set_1 | apply IsS53.set_2) | exact HI0.out), by repeat (first | (with_reducible first | exact HB.out | apply below_alloc | apply pw_below_drewN | apply below_drew1 | refine below_set ?_ (IsS53.ge HI0.out)) | exact HB.out), by repeat (first | (with_reducible first | exact HK.out | apply KeepBut.set_ | apply keep_drewN | apply keep_drew | apply keep_alloc) | exact HK.out)⟩
end Go.Proofs.Ytlahigmoljflkaa.PAll
