import Derived.Test.YtlahigmoljflkaaPAllx0
import Derived.Test.YtlahigmoljflkaaPAllx13
namespace Go.Proofs.Ytlahigmoljflkaa.PAll
open Go.RowKit Go.Proofs.YtlahigmoljflkaaW.PrintWords Go.Proofs.YtlahigmoljflkaaW.PrintLast Go.Proofs.YtlahigmoljflkaaW.PrintMore
attribute [local go_sem] max2_int min2_int max_two min_two max_three min_three max_four min_four   -- for this text's walks alone
set_option linter.unusedVariables false
set_option linter.unusedSimpArgs false

def gangwayref0_EqInstrs.T6 : Bool × List (List Nat × List Nat) := (true, [([], []), ([], []), ([0, 1], [0, 1]), ([2], [2]), ([], []), ([], []), ([4, 5], [4, 5]), ([6], [6]), ([3, 7], [3, 7]), ([8], [8])])
def gangwayref0_EqInstrs.B6 : List Nat := [0, 0, 3, 7, 0, 0, 48, 112, 255, 511]
theorem gangwayref0_EqInstrs.tab6 : rtab .any (opsOf Try.f14 6) = gangwayref0_EqInstrs.T6 := by kernel_rfl
theorem gangwayref0_EqInstrs.bits6 : waitsOk gangwayref0_EqInstrs.T6.2 gangwayref0_EqInstrs.B6 = true := by kernel_rfl
theorem gangwayref0_EqInstrs.aa_0 {p : Prop} (h : p := by repeat (first | (with_reducible first | exact HB.out | apply below_alloc | apply pw_below_drewN | apply below_drew1) | exact HB.out)) : p := h
theorem gangwayref0_EqInstrs.aa_1 {p : Prop} (h : p := by repeat (first | exact (Kd.C_below HR374_6.out HB.out) | (with_reducible refine Kd.C_alloc ?_ _) | (with_reducible refine Kd.C_drewN ?_ _) | (with_reducible refine Kd.C_drew ?_))) : p := h
theorem gangwayref0_EqInstrs.aa_2 {p : Prop} (h : p := by repeat (first | exact (Kd.C_below HR374_7.out HB.out) | (with_reducible refine Kd.C_alloc ?_ _) | (with_reducible refine Kd.C_drewN ?_ _) | (with_reducible refine Kd.C_drew ?_))) : p := h
theorem gangwayref0_EqInstrs.aa_3 {p : Prop} (h : p := by repeat (first | exact (Kd.C_below HR374_8.out HB.out) | (with_reducible refine Kd.C_alloc ?_ _) | (with_reducible refine Kd.C_drewN ?_ _) | (with_reducible refine Kd.C_drew ?_))) : p := h
theorem gangwayref0_EqInstrs.aa_4 {p : Prop} (h : p := by repeat (first | exact (Kd.C_below HR375_6.out HB.out) | (with_reducible refine Kd.C_alloc ?_ _) | (with_reducible refine Kd.C_drewN ?_ _) | (with_reducible refine Kd.C_drew ?_))) : p := h
theorem gangwayref0_EqInstrs.aa_5 {p : Prop} (h : p := by repeat (first | exact (Kd.C_below HR375_7.out HB.out) | (with_reducible refine Kd.C_alloc ?_ _) | (with_reducible refine Kd.C_drewN ?_ _) | (with_reducible refine Kd.C_drew ?_))) : p := h
theorem gangwayref0_EqInstrs.aa_6 {p : Prop} (h : p := by repeat (first | exact (Kd.C_below HR375_8.out HB.out) | (with_reducible refine Kd.C_alloc ?_ _) | (with_reducible refine Kd.C_drewN ?_ _) | (with_reducible refine Kd.C_drew ?_))) : p := h
theorem gangwayref0_EqInstrs.am_ {p : Prop} (h : p) : Aside0 p := Aside0.mk h
theorem gangwayref0_EqInstrs.bm_ {α β : Type _} {o : Option α} {f : α → Option β} {b : β} (h : o.bind f = some b) : ∃ a, o = some a ∧ f a = some b := Option.bind_eq_some_iff.mp h
set_option maxHeartbeats 8000000 in
set_option maxRecDepth 100000 in
theorem gangwayref0_EqInstrs.calls (k : Nat) : ∀ (A0 : Option Addr) (c0 : Nat) (l0 : List (S45)) (A1 : Option Addr) (c1 : Nat) (l1 : List (S45)) (r : Bool) (w : World) (hr0 : Kd.C k45 w A0 l0.length l0) (hc0 : l0.length ≤ c0) (hr1 : Kd.C k45 w A1 l1.length l1) (hc1 : l1.length ≤ c1) (h : gangwayref0_EqInstrs.f k l0 l1 = some r),
  Calls Try.prog 14 #[.slice A0 l0.length c0, .slice A1 l1.length c1] w fun e w' => e = .returned (.bool r) ∧ Below w.heap.size w w' := by
 induction k using Nat.strongRecOn with
 | _ k ih =>
 intro A0 c0 l0 A1 c1 l1 r w hr0 hc0 hr1 hc1 h
 cases k with
 | zero => exact absurd h (by simp [gangwayref0_EqInstrs.f])
 | succ k =>
 simp only [gangwayref0_EqInstrs.f] at h; have hu45 := Try.underlying45; have HR0 := am_ hr0; have HC0 := am_ hc0; clear hr0 hc0; have HR1 := am_ hr1; have HC1 := am_ hc1; clear hr1 hc1; have HB := am_ (Below.refl w.heap.size w); have H : (if (l0.length : Int) = (l1.length : Int) then (gangwayref0_EqInstrs.l0 k l0 l1 0) else (some false)) = some r := h; clear h; by_cases c3 : (l0.length : Int) = (l1.length : Int)
 rotate_left
 ·rw [if_neg c3] at H; obtain ⟨c3b0, c3b1⟩ := nb c3; have c3b2 : (l0.length == l1.length) = false := by first | simpa using c3 | (simp at c3 ⊢; omega)
  obtain rfl := Option.some.inj H; go_enter Try.func14, Try.ntmps14; go_wp2; go_ret; exact ⟨er_, by repeat (first | (with_reducible first | exact HB.out | apply below_alloc | apply pw_below_drewN | apply below_drew1) | exact HB.out)⟩
 rw [if_pos c3] at H; obtain ⟨c3b0, c3b1⟩ := eb c3; have c3b2 : (l0.length == l1.length) = true := by first | simpa using c3 | (simp at c3 ⊢; omega)
 clear c3; have H' := am_ H; clear H; go_enter Try.func14, Try.ntmps14; go_wp2
 go_loopg [5] k (fun kq v5 w' => ∃ (x5_1 : Int), v5 = .int .i64 x5_1 ∧ Aside0 (gangwayref0_EqInstrs.l0 kq l0 l1 x5_1 = some r) ∧ Aside0 (kq ≤ k) ∧ Aside0 (Below w.heap.size w w'))
 case atStart => exact ⟨(0), (es_), H', ⟨Nat.le_refl _⟩, ⟨aa_0⟩⟩
 case round =>
 clear H'; (try clear c1); (try clear c3b0); (try clear c3b1); (try clear c3b2); obtain ⟨x5_1, rfl, HA, HK1, HB⟩ := hrel
 cases gk with
 | zero => exact absurd HA.out (by simp [gangwayref0_EqInstrs.l0])
 | succ k1 =>
 have H := HA.out; clear HA; simp only [gangwayref0_EqInstrs.l0] at H; by_cases c4 : x5_1 < (l0.length : Int)
 rotate_left
 ·rw [if_neg c4] at H; have c4b0 : decide (x5_1 < (l0.length : Int)) = false := decide_eq_false c4; clear c4; obtain rfl := Option.some.inj H; go_wp2; go_ret; exact ⟨er_, by repeat (first | (with_reducible first | exact HB.out | apply below_alloc | apply pw_below_drewN | apply below_drew1) | exact HB.out)⟩
 rw [if_pos c4] at H; have c4b0 : decide (x5_1 < (l0.length : Int)) = true := decide_eq_true c4; clear c4; by_cases c5 : 0 ≤ x5_1
 rotate_left
 ·rw [if_neg c5] at H; exact absurd H (by simp)
 rw [if_pos c5] at H; have c5b0 : decide (0 ≤ x5_1) = true := decide_eq_true c5; clear c5; by_cases c6 : x5_1 < (l1.length : Int)
 rotate_left
 ·rw [if_neg c6] at H; exact absurd H (by simp)
 rw [if_pos c6] at H; have c6b0 : decide (x5_1 < (l1.length : Int)) = true := decide_eq_true c6; clear c6; replace H := bm_ H; obtain ⟨t376, A70, H⟩ := H; replace H : (if t376 = true then (gangwayref0_EqInstrs.l0 k1 l0 l1 (wrap64 (x5_1 + 1))) else (some false)) = some r := H; have A7 := am_ A70; clear A70; by_cases c8 : t376 = true
 rotate_left
 ·replace c8 := Bool.eq_false_iff.mpr c8; subst c8; have H1 : (some false) = some r := by rw [if_neg (show ¬ (false = true) by decide)] at H; exact H
  clear H; have H := H1; clear H1; obtain rfl := Option.some.inj H
  try go_wp2
  have n0_ := am_ (below_drew1 HB.out); clear HB; have HB := n0_; clear n0_; have p374 : 0 ≤ (x5_1 : Int) := of_decide_eq_true (by first | (with_reducible assumption) | assumption); have q374 : x5_1 < (l0.length : Int) := of_decide_eq_true (by first | (with_reducible assumption) | assumption); obtain ⟨ad374, A374_6, c374_6, A374_7, c374_7, A374_8, c374_8, e374, hx374_0, hx374_1, hx374_2, hx374_3, hx374_4, hx374_5, hx374_6, hx374_7, hx374_8, hl374_6, hi374_6, hl374_7, hi374_7, hl374_8, hi374_8⟩ := at_T45 HR0.out x5_1 p374 q374; have hw374_8 := hx374_8; have hw374_7 := hx374_7; have hw374_6 := hx374_6; have hw374_5 := hx374_5; have hw374_4 := hx374_4; have hw374_3 := hx374_3; have hw374_2 := hx374_2; have hw374_1 := hx374_1; have hw374_0 := hx374_0
  cases e374
  replace hx374_0 := up HB hx374_0; replace hx374_1 := up HB hx374_1; replace hx374_2 := up HB hx374_2; replace hx374_3 := up HB hx374_3; replace hx374_4 := up HB hx374_4; replace hx374_5 := up HB hx374_5; replace hx374_6 := up HB hx374_6; replace hx374_7 := up HB hx374_7; replace hx374_8 := up HB hx374_8; have HR374_6 := am_ hi374_6; have HC374_6 := am_ hl374_6; clear hi374_6 hl374_6; have HR374_7 := am_ hi374_7; have HC374_7 := am_ hl374_7; clear hi374_7 hl374_7; have HR374_8 := am_ hi374_8; have HC374_8 := am_ hl374_8; clear hi374_8 hl374_8; replace p374 := eq_true p374; replace q374 := eq_true q374; have p375 : 0 ≤ (x5_1 : Int) := of_decide_eq_true (by first | (with_reducible assumption) | assumption); have q375 : x5_1 < (l1.length : Int) := of_decide_eq_true (by first | (with_reducible assumption) | assumption); obtain ⟨ad375, A375_6, c375_6, A375_7, c375_7, A375_8, c375_8, e375, hx375_0, hx375_1, hx375_2, hx375_3, hx375_4, hx375_5, hx375_6, hx375_7, hx375_8, hl375_6, hi375_6, hl375_7, hi375_7, hl375_8, hi375_8⟩ := at_T45 HR1.out x5_1 p375 q375; have hw375_8 := hx375_8; have hw375_7 := hx375_7; have hw375_6 := hx375_6; have hw375_5 := hx375_5; have hw375_4 := hx375_4; have hw375_3 := hx375_3; have hw375_2 := hx375_2; have hw375_1 := hx375_1; have hw375_0 := hx375_0
  cases e375
  replace hx375_0 := up HB hx375_0; replace hx375_1 := up HB hx375_1; replace hx375_2 := up HB hx375_2; replace hx375_3 := up HB hx375_3; replace hx375_4 := up HB hx375_4; replace hx375_5 := up HB hx375_5; replace hx375_6 := up HB hx375_6; replace hx375_7 := up HB hx375_7; replace hx375_8 := up HB hx375_8; have HR375_6 := am_ hi375_6; have HC375_6 := am_ hl375_6; clear hi375_6 hl375_6; have HR375_7 := am_ hi375_7; have HC375_7 := am_ hl375_7; clear hi375_7 hl375_7; have HR375_8 := am_ hi375_8; have HC375_8 := am_ hl375_8; clear hi375_8 hl375_8; replace p375 := eq_true p375; replace q375 := eq_true q375; refine start_ (n := 10) (S := fun w' => w'.cell? (ad374.add ((x5_1).toNat * 9)) = some (.int .i64 ((rd_T45 l0 x5_1).f0)) ∧ w'.cell? ⟨(ad374.add ((x5_1).toNat * 9)).block, (ad374.add ((x5_1).toNat * 9)).off + 1, none⟩ = some (.int .i64 ((rd_T45 l0 x5_1).f1)) ∧ w'.cell? ⟨(ad374.add ((x5_1).toNat * 9)).block, (ad374.add ((x5_1).toNat * 9)).off + 2, none⟩ = some (.int .i64 ((rd_T45 l0 x5_1).f2)) ∧ w'.cell? ⟨(ad374.add ((x5_1).toNat * 9)).block, (ad374.add ((x5_1).toNat * 9)).off + 3, none⟩ = some (.int .i64 ((rd_T45 l0 x5_1).f3)) ∧ w'.cell? ⟨(ad374.add ((x5_1).toNat * 9)).block, (ad374.add ((x5_1).toNat * 9)).off + 4, none⟩ = some (.int .i64 ((rd_T45 l0 x5_1).f4)) ∧ w'.cell? ⟨(ad374.add ((x5_1).toNat * 9)).block, (ad374.add ((x5_1).toNat * 9)).off + 5, none⟩ = some (.int .i64 ((rd_T45 l0 x5_1).f5)) ∧ w'.cell? ⟨(ad374.add ((x5_1).toNat * 9)).block, (ad374.add ((x5_1).toNat * 9)).off + 6, none⟩ = some (.slice A374_6 ((rd_T45 l0 x5_1).f6).length c374_6) ∧ w'.cell? ⟨(ad374.add ((x5_1).toNat * 9)).block, (ad374.add ((x5_1).toNat * 9)).off + 7, none⟩ = some (.slice A374_7 ((rd_T45 l0 x5_1).f7).length c374_7) ∧ w'.cell? ⟨(ad374.add ((x5_1).toNat * 9)).block, (ad374.add ((x5_1).toNat * 9)).off + 8, none⟩ = some (.slice A374_8 ((rd_T45 l0 x5_1).f8).length c374_8) ∧ w'.cell? (ad375.add ((x5_1).toNat * 9)) = some (.int .i64 ((rd_T45 l1 x5_1).f0)) ∧ w'.cell? ⟨(ad375.add ((x5_1).toNat * 9)).block, (ad375.add ((x5_1).toNat * 9)).off + 1, none⟩ = some (.int .i64 ((rd_T45 l1 x5_1).f1)) ∧ w'.cell? ⟨(ad375.add ((x5_1).toNat * 9)).block, (ad375.add ((x5_1).toNat * 9)).off + 2, none⟩ = some (.int .i64 ((rd_T45 l1 x5_1).f2)) ∧ w'.cell? ⟨(ad375.add ((x5_1).toNat * 9)).block, (ad375.add ((x5_1).toNat * 9)).off + 3, none⟩ = some (.int .i64 ((rd_T45 l1 x5_1).f3)) ∧ w'.cell? ⟨(ad375.add ((x5_1).toNat * 9)).block, (ad375.add ((x5_1).toNat * 9)).off + 4, none⟩ = some (.int .i64 ((rd_T45 l1 x5_1).f4)) ∧ w'.cell? ⟨(ad375.add ((x5_1).toNat * 9)).block, (ad375.add ((x5_1).toNat * 9)).off + 5, none⟩ = some (.int .i64 ((rd_T45 l1 x5_1).f5)) ∧ w'.cell? ⟨(ad375.add ((x5_1).toNat * 9)).block, (ad375.add ((x5_1).toNat * 9)).off + 6, none⟩ = some (.slice A375_6 ((rd_T45 l1 x5_1).f6).length c375_6) ∧ w'.cell? ⟨(ad375.add ((x5_1).toNat * 9)).block, (ad375.add ((x5_1).toNat * 9)).off + 7, none⟩ = some (.slice A375_7 ((rd_T45 l1 x5_1).f7).length c375_7) ∧ w'.cell? ⟨(ad375.add ((x5_1).toNat * 9)).block, (ad375.add ((x5_1).toNat * 9)).off + 8, none⟩ = some (.slice A375_8 ((rd_T45 l1 x5_1).f8).length c375_8)) (ds := []) bb10_ (by kernel_rfl) rfl rfl ⟨(up HB hw374_0 :), (up HB hw374_1 :), (up HB hw374_2 :), (up HB hw374_3 :), (up HB hw374_4 :), (up HB hw374_5 :), (up HB hw374_6 :), (up HB hw374_7 :), (up HB hw374_8 :), (up HB hw375_0 :), (up HB hw375_1 :), (up HB hw375_2 :), (up HB hw375_3 :), (up HB hw375_4 :), (up HB hw375_5 :), (up HB hw375_6 :), (up HB hw375_7 :), (up HB hw375_8 :)⟩ (fun hHeld => ?_); refine with_tabW gangwayref0_EqInstrs.tab6 gangwayref0_EqInstrs.bits6 (fun HT_ HW_ => ?_)
  generalize wr.drew = w11 at HB HR374_6 HR374_7 HR374_8 HR375_6 HR375_7 HR375_8 hx374_0 hx374_1 hx374_2 hx374_3 hx374_4 hx374_5 hx374_6 hx374_7 hx374_8 hx375_0 hx375_1 hx375_2 hx375_3 hx375_4 hx375_5 hx375_6 hx375_7 hx375_8 hHeld ⊢; refine pure_ (i := 0) (N := some 17) (v := ?_) (a' := ?_) bb9_ rfl rfl (any_of HT_.out (by kernel_rfl)) (fun _ _ _ h => h) (Or.inl ⟨by rfl, ?_⟩) ?_ ?_
  rotate_left; · intro w'; go_simp; with_reducible rfl
  rotate_left; · simp only [Act.put, e1, e2, e3, i64_w, i32_w]; rfl
  refine pure_ (i := 1) (N := some 18) (v := ?_) (a' := ?_) bb8_ rfl rfl (any_of HT_.out (by kernel_rfl)) (fun _ _ _ h => h) (Or.inl ⟨by rfl, ?_⟩) ?_ ?_
  rotate_left; · intro w'; go_simp; with_reducible rfl
  rotate_left; · simp only [Act.put, e1, e2, e3, i64_w, i32_w]; rfl
  refine pure_ (i := 2) (N := some 19) (v := ?_) (a' := ?_) bb7_ rfl rfl (any_of HT_.out (by kernel_rfl)) (fun _ _ _ h => h) (Or.inl ⟨by rfl, ?_⟩) ?_ ?_
  rotate_left; · intro w'; go_simp; with_reducible rfl
  rotate_left; · simp only [Act.put, e1, e2, e3, i64_w, i32_w]; rfl
  refine pure_ (i := 4) (N := some 21) (v := ?_) (a' := ?_) bb6_ rfl rfl (any_of HT_.out (by kernel_rfl)) (fun _ _ _ h => h) (Or.inl ⟨by rfl, ?_⟩) ?_ ?_
  rotate_left; · intro w'; go_simp; with_reducible rfl
  rotate_left; · simp only [Act.put, e1, e2, e3, i64_w, i32_w]; rfl
  refine pure_ (i := 5) (N := some 22) (v := ?_) (a' := ?_) bb5_ rfl rfl (any_of HT_.out (by kernel_rfl)) (fun _ _ _ h => h) (Or.inl ⟨by rfl, ?_⟩) ?_ ?_
  rotate_left; · intro w'; go_simp; with_reducible rfl
  rotate_left; · simp only [Act.put, e1, e2, e3, i64_w, i32_w]; rfl
  refine pure_ (i := 6) (N := some 23) (v := ?_) (a' := ?_) bb4_ rfl rfl (any_of HT_.out (by kernel_rfl)) (fun _ _ _ h => h) (Or.inl ⟨by rfl, ?_⟩) ?_ ?_
  rotate_left; · intro w'; go_simp; with_reducible rfl
  rotate_left; · simp only [Act.put, e1, e2, e3, i64_w, i32_w]; rfl
  refine take_ (i := 3) (N := some 20) (v := ?_) (a' := ?_) bb3_ rfl rfl (take_ofW HT_.out HW_.out (by kernel_rfl)) (fun _ _ _ h => h) (Or.inl ⟨by rfl, ?_⟩) hHeld ?_ ?_
  rotate_left; · rintro w' ⟨s0, s1, s2, s3, s4, s5, s6, s7, s8, s9, s10, s11, s12, s13, s14, s15, s16, s17⟩; go_simp; with_reducible rfl
  rotate_left; · simp only [Act.put, e1, e2, e3, i64_w, i32_w]; rfl
  refine take_ (i := 7) (N := some 24) (v := ?_) (a' := ?_) bb2_ rfl rfl (take_ofW HT_.out HW_.out (by kernel_rfl)) (fun _ _ _ h => h) (Or.inl ⟨by rfl, ?_⟩) hHeld ?_ ?_
  rotate_left; · rintro w' ⟨s0, s1, s2, s3, s4, s5, s6, s7, s8, s9, s10, s11, s12, s13, s14, s15, s16, s17⟩; go_simp; with_reducible rfl
  rotate_left; · simp only [Act.put, e1, e2, e3, i64_w, i32_w]; rfl
  refine one_ (i := 8) (N := some 25) bb1_ rfl rfl (one_of HT_.out (by kernel_rfl)) (by decide) (fun K hK => ?_); refine goes_ Try.func26 (by kernel_rfl) rfl #[.agg #[.int .i64 ((rd_T45 l0 x5_1).f0), .int .i64 ((rd_T45 l0 x5_1).f1), .int .i64 ((rd_T45 l0 x5_1).f2), .int .i64 ((rd_T45 l0 x5_1).f3), .int .i64 ((rd_T45 l0 x5_1).f4), .int .i64 ((rd_T45 l0 x5_1).f5), .slice A374_6 ((rd_T45 l0 x5_1).f6).length c374_6, .slice A374_7 ((rd_T45 l0 x5_1).f7).length c374_7, .slice A374_8 ((rd_T45 l0 x5_1).f8).length c374_8], .agg #[.int .i64 ((rd_T45 l1 x5_1).f0), .int .i64 ((rd_T45 l1 x5_1).f1), .int .i64 ((rd_T45 l1 x5_1).f2), .int .i64 ((rd_T45 l1 x5_1).f3), .int .i64 ((rd_T45 l1 x5_1).f4), .int .i64 ((rd_T45 l1 x5_1).f5), .slice A375_6 ((rd_T45 l1 x5_1).f6).length c375_6, .slice A375_7 ((rd_T45 l1 x5_1).f7).length c375_7, .slice A375_8 ((rd_T45 l1 x5_1).f8).length c375_8]] (by rfl) rfl rfl (by (try simp only [List.map_toArray, List.map_cons, List.map_nil]); first | done | rfl | (simp only [List.length_drop, List.length_take]; rfl)) ?_
  with_reducible refine (gangwayref0_EqInstrs.q.step k1 (fun j_ hj_ => ih j_ (by have := HK1.out; omega)) ((rd_T45 l0 x5_1).f0) ((rd_T45 l0 x5_1).f1) ((rd_T45 l0 x5_1).f2) ((rd_T45 l0 x5_1).f3) ((rd_T45 l0 x5_1).f4) ((rd_T45 l0 x5_1).f5) _ _ ((rd_T45 l0 x5_1).f6) _ _ ((rd_T45 l0 x5_1).f7) _ _ ((rd_T45 l0 x5_1).f8) ((rd_T45 l1 x5_1).f0) ((rd_T45 l1 x5_1).f1) ((rd_T45 l1 x5_1).f2) ((rd_T45 l1 x5_1).f3) ((rd_T45 l1 x5_1).f4) ((rd_T45 l1 x5_1).f5) _ _ ((rd_T45 l1 x5_1).f6) _ _ ((rd_T45 l1 x5_1).f7) _ _ ((rd_T45 l1 x5_1).f8) false _ ?side1 ?side2 ?side3 ?side4 ?side5 ?side6 ?side7 ?side8 ?side9 ?side10 ?side11 ?side12 A7.out).mono ?_
  (case side1 => exact aa_1); (case side2 => exact HC374_6.out); (case side3 => exact aa_2); (case side4 => exact HC374_7.out); (case side5 => exact aa_3); (case side6 => exact HC374_8.out); (case side7 => exact aa_4); (case side8 => exact HC375_6.out); (case side9 => exact aa_5); (case side10 => exact HC375_7.out); (case side11 => exact aa_6); (case side12 => exact HC375_8.out)
  rintro e w12 ⟨rfl, hb⟩
  refine ⟨_, rfl, ?_⟩; have n0_ := am_ (below_step (by repeat (first | (with_reducible first | exact HB.out | apply below_alloc | apply pw_below_drewN | apply below_drew1) | exact HB.out)) hb); clear HB; have HB := n0_; clear n0_; refine hK.out _ _ ⟨(up HB hw374_0 :), (up HB hw374_1 :), (up HB hw374_2 :), (up HB hw374_3 :), (up HB hw374_4 :), (up HB hw374_5 :), (up HB hw374_6 :), (up HB hw374_7 :), (up HB hw374_8 :), (up HB hw375_0 :), (up HB hw375_1 :), (up HB hw375_2 :), (up HB hw375_3 :), (up HB hw375_4 :), (up HB hw375_5 :), (up HB hw375_6 :), (up HB hw375_7 :), (up HB hw375_8 :)⟩ (fun hHeld => ?_); clear hK K; refine norm_ (a' := ?_) ?_ ?_
  rotate_left
  ·show Act.put _ (some 25) _ = _
   simp only [Act.put, e1, e2, e3, i64_w, i32_w]
   rfl
  refine pure_ (i := 9) (N := some 26) (v := ?_) (a' := ?_) bb0_ rfl rfl (any_of HT_.out (by kernel_rfl)) (fun _ _ _ h => h) (Or.inl ⟨by rfl, ?_⟩) ?_ ?_
  rotate_left; · intro w'; go_simp; with_reducible rfl
  rotate_left; · simp only [Act.put, e1, e2, e3, i64_w, i32_w]; rfl
  refine done_ (done_of HT_.out (by kernel_rfl)) ?_
  try go_wp2
  go_ret; exact ⟨er_, by repeat (first | (with_reducible first | exact HB.out | apply below_alloc | apply pw_below_drewN | apply below_drew1) | exact HB.out)⟩
 subst c8; have H1 : (gangwayref0_EqInstrs.l0 k1 l0 l1 (wrap64 (x5_1 + 1))) = some r := by rw [if_pos rfl] at H; exact H
 clear H; have H := H1; clear H1; have H' := am_ H; clear H
 try go_wp2
 have n0_ := am_ (below_drew1 HB.out); clear HB; have HB := n0_; clear n0_; have p374 : 0 ≤ (x5_1 : Int) := of_decide_eq_true (by first | (with_reducible assumption) | assumption); have q374 : x5_1 < (l0.length : Int) := of_decide_eq_true (by first | (with_reducible assumption) | assumption); obtain ⟨ad374, A374_6, c374_6, A374_7, c374_7, A374_8, c374_8, e374, hx374_0, hx374_1, hx374_2, hx374_3, hx374_4, hx374_5, hx374_6, hx374_7, hx374_8, hl374_6, hi374_6, hl374_7, hi374_7, hl374_8, hi374_8⟩ := at_T45 HR0.out x5_1 p374 q374; have hw374_8 := hx374_8; have hw374_7 := hx374_7; have hw374_6 := hx374_6; have hw374_5 := hx374_5; have hw374_4 := hx374_4; have hw374_3 := hx374_3; have hw374_2 := hx374_2; have hw374_1 := hx374_1; have hw374_0 := hx374_0
 cases e374
 replace hx374_0 := up HB hx374_0; replace hx374_1 := up HB hx374_1; replace hx374_2 := up HB hx374_2; replace hx374_3 := up HB hx374_3; replace hx374_4 := up HB hx374_4; replace hx374_5 := up HB hx374_5; replace hx374_6 := up HB hx374_6; replace hx374_7 := up HB hx374_7; replace hx374_8 := up HB hx374_8; have HR374_6 := am_ hi374_6; have HC374_6 := am_ hl374_6; clear hi374_6 hl374_6; have HR374_7 := am_ hi374_7; have HC374_7 := am_ hl374_7; clear hi374_7 hl374_7; have HR374_8 := am_ hi374_8; have HC374_8 := am_ hl374_8; clear hi374_8 hl374_8; replace p374 := eq_true p374; replace q374 := eq_true q374; have p375 : 0 ≤ (x5_1 : Int) := of_decide_eq_true (by first | (with_reducible assumption) | assumption); have q375 : x5_1 < (l1.length : Int) := of_decide_eq_true (by first | (with_reducible assumption) | assumption); obtain ⟨ad375, A375_6, c375_6, A375_7, c375_7, A375_8, c375_8, e375, hx375_0, hx375_1, hx375_2, hx375_3, hx375_4, hx375_5, hx375_6, hx375_7, hx375_8, hl375_6, hi375_6, hl375_7, hi375_7, hl375_8, hi375_8⟩ := at_T45 HR1.out x5_1 p375 q375; have hw375_8 := hx375_8; have hw375_7 := hx375_7; have hw375_6 := hx375_6; have hw375_5 := hx375_5; have hw375_4 := hx375_4; have hw375_3 := hx375_3; have hw375_2 := hx375_2; have hw375_1 := hx375_1; have hw375_0 := hx375_0
 cases e375
 replace hx375_0 := up HB hx375_0; replace hx375_1 := up HB hx375_1; replace hx375_2 := up HB hx375_2; replace hx375_3 := up HB hx375_3; replace hx375_4 := up HB hx375_4; replace hx375_5 := up HB hx375_5; replace hx375_6 := up HB hx375_6; replace hx375_7 := up HB hx375_7; replace hx375_8 := up HB hx375_8; have HR375_6 := am_ hi375_6; have HC375_6 := am_ hl375_6; clear hi375_6 hl375_6; have HR375_7 := am_ hi375_7; have HC375_7 := am_ hl375_7; clear hi375_7 hl375_7; have HR375_8 := am_ hi375_8; have HC375_8 := am_ hl375_8; clear hi375_8 hl375_8; replace p375 := eq_true p375; replace q375 := eq_true q375; refine start_ (n := 10) (S := fun w' => w'.cell? (ad374.add ((x5_1).toNat * 9)) = some (.int .i64 ((rd_T45 l0 x5_1).f0)) ∧ w'.cell? ⟨(ad374.add ((x5_1).toNat * 9)).block, (ad374.add ((x5_1).toNat * 9)).off + 1, none⟩ = some (.int .i64 ((rd_T45 l0 x5_1).f1)) ∧ w'.cell? ⟨(ad374.add ((x5_1).toNat * 9)).block, (ad374.add ((x5_1).toNat * 9)).off + 2, none⟩ = some (.int .i64 ((rd_T45 l0 x5_1).f2)) ∧ w'.cell? ⟨(ad374.add ((x5_1).toNat * 9)).block, (ad374.add ((x5_1).toNat * 9)).off + 3, none⟩ = some (.int .i64 ((rd_T45 l0 x5_1).f3)) ∧ w'.cell? ⟨(ad374.add ((x5_1).toNat * 9)).block, (ad374.add ((x5_1).toNat * 9)).off + 4, none⟩ = some (.int .i64 ((rd_T45 l0 x5_1).f4)) ∧ w'.cell? ⟨(ad374.add ((x5_1).toNat * 9)).block, (ad374.add ((x5_1).toNat * 9)).off + 5, none⟩ = some (.int .i64 ((rd_T45 l0 x5_1).f5)) ∧ w'.cell? ⟨(ad374.add ((x5_1).toNat * 9)).block, (ad374.add ((x5_1).toNat * 9)).off + 6, none⟩ = some (.slice A374_6 ((rd_T45 l0 x5_1).f6).length c374_6) ∧ w'.cell? ⟨(ad374.add ((x5_1).toNat * 9)).block, (ad374.add ((x5_1).toNat * 9)).off + 7, none⟩ = some (.slice A374_7 ((rd_T45 l0 x5_1).f7).length c374_7) ∧ w'.cell? ⟨(ad374.add ((x5_1).toNat * 9)).block, (ad374.add ((x5_1).toNat * 9)).off + 8, none⟩ = some (.slice A374_8 ((rd_T45 l0 x5_1).f8).length c374_8) ∧ w'.cell? (ad375.add ((x5_1).toNat * 9)) = some (.int .i64 ((rd_T45 l1 x5_1).f0)) ∧ w'.cell? ⟨(ad375.add ((x5_1).toNat * 9)).block, (ad375.add ((x5_1).toNat * 9)).off + 1, none⟩ = some (.int .i64 ((rd_T45 l1 x5_1).f1)) ∧ w'.cell? ⟨(ad375.add ((x5_1).toNat * 9)).block, (ad375.add ((x5_1).toNat * 9)).off + 2, none⟩ = some (.int .i64 ((rd_T45 l1 x5_1).f2)) ∧ w'.cell? ⟨(ad375.add ((x5_1).toNat * 9)).block, (ad375.add ((x5_1).toNat * 9)).off + 3, none⟩ = some (.int .i64 ((rd_T45 l1 x5_1).f3)) ∧ w'.cell? ⟨(ad375.add ((x5_1).toNat * 9)).block, (ad375.add ((x5_1).toNat * 9)).off + 4, none⟩ = some (.int .i64 ((rd_T45 l1 x5_1).f4)) ∧ w'.cell? ⟨(ad375.add ((x5_1).toNat * 9)).block, (ad375.add ((x5_1).toNat * 9)).off + 5, none⟩ = some (.int .i64 ((rd_T45 l1 x5_1).f5)) ∧ w'.cell? ⟨(ad375.add ((x5_1).toNat * 9)).block, (ad375.add ((x5_1).toNat * 9)).off + 6, none⟩ = some (.slice A375_6 ((rd_T45 l1 x5_1).f6).length c375_6) ∧ w'.cell? ⟨(ad375.add ((x5_1).toNat * 9)).block, (ad375.add ((x5_1).toNat * 9)).off + 7, none⟩ = some (.slice A375_7 ((rd_T45 l1 x5_1).f7).length c375_7) ∧ w'.cell? ⟨(ad375.add ((x5_1).toNat * 9)).block, (ad375.add ((x5_1).toNat * 9)).off + 8, none⟩ = some (.slice A375_8 ((rd_T45 l1 x5_1).f8).length c375_8)) (ds := []) bb10_ (by kernel_rfl) rfl rfl ⟨(up HB hw374_0 :), (up HB hw374_1 :), (up HB hw374_2 :), (up HB hw374_3 :), (up HB hw374_4 :), (up HB hw374_5 :), (up HB hw374_6 :), (up HB hw374_7 :), (up HB hw374_8 :), (up HB hw375_0 :), (up HB hw375_1 :), (up HB hw375_2 :), (up HB hw375_3 :), (up HB hw375_4 :), (up HB hw375_5 :), (up HB hw375_6 :), (up HB hw375_7 :), (up HB hw375_8 :)⟩ (fun hHeld => ?_); refine with_tabW gangwayref0_EqInstrs.tab6 gangwayref0_EqInstrs.bits6 (fun HT_ HW_ => ?_)
 generalize wr.drew = w9 at HB HR374_6 HR374_7 HR374_8 HR375_6 HR375_7 HR375_8 hx374_0 hx374_1 hx374_2 hx374_3 hx374_4 hx374_5 hx374_6 hx374_7 hx374_8 hx375_0 hx375_1 hx375_2 hx375_3 hx375_4 hx375_5 hx375_6 hx375_7 hx375_8 hHeld ⊢; refine pure_ (i := 0) (N := some 17) (v := ?_) (a' := ?_) bb9_ rfl rfl (any_of HT_.out (by kernel_rfl)) (fun _ _ _ h => h) (Or.inl ⟨by rfl, ?_⟩) ?_ ?_
 rotate_left; · intro w'; go_simp; with_reducible rfl
 rotate_left; · simp only [Act.put, e1, e2, e3, i64_w, i32_w]; rfl
 refine pure_ (i := 1) (N := some 18) (v := ?_) (a' := ?_) bb8_ rfl rfl (any_of HT_.out (by kernel_rfl)) (fun _ _ _ h => h) (Or.inl ⟨by rfl, ?_⟩) ?_ ?_
 rotate_left; · intro w'; go_simp; with_reducible rfl
 rotate_left; · simp only [Act.put, e1, e2, e3, i64_w, i32_w]; rfl
 refine pure_ (i := 2) (N := some 19) (v := ?_) (a' := ?_) bb7_ rfl rfl (any_of HT_.out (by kernel_rfl)) (fun _ _ _ h => h) (Or.inl ⟨by rfl, ?_⟩) ?_ ?_
 rotate_left; · intro w'; go_simp; with_reducible rfl
 rotate_left; · simp only [Act.put, e1, e2, e3, i64_w, i32_w]; rfl
 refine pure_ (i := 4) (N := some 21) (v := ?_) (a' := ?_) bb6_ rfl rfl (any_of HT_.out (by kernel_rfl)) (fun _ _ _ h => h) (Or.inl ⟨by rfl, ?_⟩) ?_ ?_
 rotate_left; · intro w'; go_simp; with_reducible rfl
 rotate_left; · simp only [Act.put, e1, e2, e3, i64_w, i32_w]; rfl
 refine pure_ (i := 5) (N := some 22) (v := ?_) (a' := ?_) bb5_ rfl rfl (any_of HT_.out (by kernel_rfl)) (fun _ _ _ h => h) (Or.inl ⟨by rfl, ?_⟩) ?_ ?_
 rotate_left; · intro w'; go_simp; with_reducible rfl
 rotate_left; · simp only [Act.put, e1, e2, e3, i64_w, i32_w]; rfl
 refine pure_ (i := 6) (N := some 23) (v := ?_) (a' := ?_) bb4_ rfl rfl (any_of HT_.out (by kernel_rfl)) (fun _ _ _ h => h) (Or.inl ⟨by rfl, ?_⟩) ?_ ?_
 rotate_left; · intro w'; go_simp; with_reducible rfl
 rotate_left; · simp only [Act.put, e1, e2, e3, i64_w, i32_w]; rfl
 refine take_ (i := 3) (N := some 20) (v := ?_) (a' := ?_) bb3_ rfl rfl (take_ofW HT_.out HW_.out (by kernel_rfl)) (fun _ _ _ h => h) (Or.inl ⟨by rfl, ?_⟩) hHeld ?_ ?_
 rotate_left; · rintro w' ⟨s0, s1, s2, s3, s4, s5, s6, s7, s8, s9, s10, s11, s12, s13, s14, s15, s16, s17⟩; go_simp; with_reducible rfl
 rotate_left; · simp only [Act.put, e1, e2, e3, i64_w, i32_w]; rfl
 refine take_ (i := 7) (N := some 24) (v := ?_) (a' := ?_) bb2_ rfl rfl (take_ofW HT_.out HW_.out (by kernel_rfl)) (fun _ _ _ h => h) (Or.inl ⟨by rfl, ?_⟩) hHeld ?_ ?_
 rotate_left; · rintro w' ⟨s0, s1, s2, s3, s4, s5, s6, s7, s8, s9, s10, s11, s12, s13, s14, s15, s16, s17⟩; go_simp; with_reducible rfl
 rotate_left; · simp only [Act.put, e1, e2, e3, i64_w, i32_w]; rfl
 refine one_ (i := 8) (N := some 25) bb1_ rfl rfl (one_of HT_.out (by kernel_rfl)) (by decide) (fun K hK => ?_); refine goes_ Try.func26 (by kernel_rfl) rfl #[.agg #[.int .i64 ((rd_T45 l0 x5_1).f0), .int .i64 ((rd_T45 l0 x5_1).f1), .int .i64 ((rd_T45 l0 x5_1).f2), .int .i64 ((rd_T45 l0 x5_1).f3), .int .i64 ((rd_T45 l0 x5_1).f4), .int .i64 ((rd_T45 l0 x5_1).f5), .slice A374_6 ((rd_T45 l0 x5_1).f6).length c374_6, .slice A374_7 ((rd_T45 l0 x5_1).f7).length c374_7, .slice A374_8 ((rd_T45 l0 x5_1).f8).length c374_8], .agg #[.int .i64 ((rd_T45 l1 x5_1).f0), .int .i64 ((rd_T45 l1 x5_1).f1), .int .i64 ((rd_T45 l1 x5_1).f2), .int .i64 ((rd_T45 l1 x5_1).f3), .int .i64 ((rd_T45 l1 x5_1).f4), .int .i64 ((rd_T45 l1 x5_1).f5), .slice A375_6 ((rd_T45 l1 x5_1).f6).length c375_6, .slice A375_7 ((rd_T45 l1 x5_1).f7).length c375_7, .slice A375_8 ((rd_T45 l1 x5_1).f8).length c375_8]] (by rfl) rfl rfl (by (try simp only [List.map_toArray, List.map_cons, List.map_nil]); first | done | rfl | (simp only [List.length_drop, List.length_take]; rfl)) ?_
 with_reducible refine (gangwayref0_EqInstrs.q.step k1 (fun j_ hj_ => ih j_ (by have := HK1.out; omega)) ((rd_T45 l0 x5_1).f0) ((rd_T45 l0 x5_1).f1) ((rd_T45 l0 x5_1).f2) ((rd_T45 l0 x5_1).f3) ((rd_T45 l0 x5_1).f4) ((rd_T45 l0 x5_1).f5) _ _ ((rd_T45 l0 x5_1).f6) _ _ ((rd_T45 l0 x5_1).f7) _ _ ((rd_T45 l0 x5_1).f8) ((rd_T45 l1 x5_1).f0) ((rd_T45 l1 x5_1).f1) ((rd_T45 l1 x5_1).f2) ((rd_T45 l1 x5_1).f3) ((rd_T45 l1 x5_1).f4) ((rd_T45 l1 x5_1).f5) _ _ ((rd_T45 l1 x5_1).f6) _ _ ((rd_T45 l1 x5_1).f7) _ _ ((rd_T45 l1 x5_1).f8) true _ ?side1 ?side2 ?side3 ?side4 ?side5 ?side6 ?side7 ?side8 ?side9 ?side10 ?side11 ?side12 A7.out).mono ?_
 (case side1 => exact aa_1); (case side2 => exact HC374_6.out); (case side3 => exact aa_2); (case side4 => exact HC374_7.out); (case side5 => exact aa_3); (case side6 => exact HC374_8.out); (case side7 => exact aa_4); (case side8 => exact HC375_6.out); (case side9 => exact aa_5); (case side10 => exact HC375_7.out); (case side11 => exact aa_6); (case side12 => exact HC375_8.out)
 rintro e w10 ⟨rfl, hb⟩
 refine ⟨_, rfl, ?_⟩; have n0_ := am_ (below_step (by repeat (first | (with_reducible first | exact HB.out | apply below_alloc | apply pw_below_drewN | apply below_drew1) | exact HB.out)) hb); clear HB; have HB := n0_; clear n0_; refine hK.out _ _ ⟨(up HB hw374_0 :), (up HB hw374_1 :), (up HB hw374_2 :), (up HB hw374_3 :), (up HB hw374_4 :), (up HB hw374_5 :), (up HB hw374_6 :), (up HB hw374_7 :), (up HB hw374_8 :), (up HB hw375_0 :), (up HB hw375_1 :), (up HB hw375_2 :), (up HB hw375_3 :), (up HB hw375_4 :), (up HB hw375_5 :), (up HB hw375_6 :), (up HB hw375_7 :), (up HB hw375_8 :)⟩ (fun hHeld => ?_); clear hK K; refine norm_ (a' := ?_) ?_ ?_
 rotate_left
 ·show Act.put _ (some 25) _ = _
  simp only [Act.put, e1, e2, e3, i64_w, i32_w]
  rfl
 refine pure_ (i := 9) (N := some 26) (v := ?_) (a' := ?_) bb0_ rfl rfl (any_of HT_.out (by kernel_rfl)) (fun _ _ _ h => h) (Or.inl ⟨by rfl, ?_⟩) ?_ ?_
 rotate_left; · intro w'; go_simp; with_reducible rfl
 rotate_left; · simp only [Act.put, e1, e2, e3, i64_w, i32_w]; rfl
 refine done_ (done_of HT_.out (by kernel_rfl)) ?_
 try go_wp2
 go_roundg k1
 case measure => have := HK1.out; omega
 case rel => exact ⟨(wrap64 (x5_1 + 1)), (es_), H', ⟨by have := HK1.out; omega⟩, ⟨aa_0⟩⟩
theorem gangwayref0_EqInstrs.q.calls (k : Nat) : ∀ (a0_0 : Int) (a0_1 : Int) (a0_2 : Int) (a0_3 : Int) (a0_4 : Int) (a0_5 : Int) (A0_6 : Option Addr) (c0_6 : Nat) (l0_6 : List Int) (A0_7 : Option Addr) (c0_7 : Nat) (l0_7 : List (S45)) (A0_8 : Option Addr) (c0_8 : Nat) (l0_8 : List (S45)) (a1_0 : Int) (a1_1 : Int) (a1_2 : Int) (a1_3 : Int) (a1_4 : Int) (a1_5 : Int) (A1_6 : Option Addr) (c1_6 : Nat) (l1_6 : List Int) (A1_7 : Option Addr) (c1_7 : Nat) (l1_7 : List (S45)) (A1_8 : Option Addr) (c1_8 : Nat) (l1_8 : List (S45)) (r : Bool) (w : World) (hr0_6 : Kd.C (Kd.int .i64) w A0_6 l0_6.length l0_6) (hc0_6 : l0_6.length ≤ c0_6) (hr0_7 : Kd.C k45 w A0_7 l0_7.length l0_7) (hc0_7 : l0_7.length ≤ c0_7) (hr0_8 : Kd.C k45 w A0_8 l0_8.length l0_8) (hc0_8 : l0_8.length ≤ c0_8) (hr1_6 : Kd.C (Kd.int .i64) w A1_6 l1_6.length l1_6) (hc1_6 : l1_6.length ≤ c1_6) (hr1_7 : Kd.C k45 w A1_7 l1_7.length l1_7) (hc1_7 : l1_7.length ≤ c1_7) (hr1_8 : Kd.C k45 w A1_8 l1_8.length l1_8) (hc1_8 : l1_8.length ≤ c1_8) (h : gangwayref0_EqInstrs.q.f k a0_0 a0_1 a0_2 a0_3 a0_4 a0_5 l0_6 l0_7 l0_8 a1_0 a1_1 a1_2 a1_3 a1_4 a1_5 l1_6 l1_7 l1_8 = some r),
  Calls Try.prog 26 #[.agg #[.int .i64 a0_0, .int .i64 a0_1, .int .i64 a0_2, .int .i64 a0_3, .int .i64 a0_4, .int .i64 a0_5, .slice A0_6 l0_6.length c0_6, .slice A0_7 l0_7.length c0_7, .slice A0_8 l0_8.length c0_8], .agg #[.int .i64 a1_0, .int .i64 a1_1, .int .i64 a1_2, .int .i64 a1_3, .int .i64 a1_4, .int .i64 a1_5, .slice A1_6 l1_6.length c1_6, .slice A1_7 l1_7.length c1_7, .slice A1_8 l1_8.length c1_8]] w fun e w' => e = .returned (.bool r) ∧ Below w.heap.size w w' := gangwayref0_EqInstrs.q.step k (fun j_ _ => gangwayref0_EqInstrs.calls j_)

def gangwayref0_EqBytes.l0 : Nat → List Int → List Int → Int → Option (Bool)
  | 0, _, _, _ => none
  | k + 1, x0, x1, x5 => if x5 < (x0.length : Int) then (if 0 ≤ x5 then (if x5 < (x1.length : Int) then (if (rd x0 x5) = (rd x1 x5) then (gangwayref0_EqBytes.l0 k x0 x1 (wrap64 (x5 + 1))) else (some false)) else (none)) else (none)) else (some true)
def gangwayref0_EqBytes.f (k : Nat) (l0 : List Int) (l1 : List Int) : Option (Bool) := if (l0.length : Int) = (l1.length : Int) then (gangwayref0_EqBytes.l0 k l0 l1 0) else (some false)
theorem gangwayref0_EqBytes.mono_l : ∀ k, (∀ y0 y1 y2, LeO (gangwayref0_EqBytes.l0 k y0 y1 y2) (gangwayref0_EqBytes.l0 (k + 1) y0 y1 y2))
  | 0 => fun _ _ _ r h => by simp [gangwayref0_EqBytes.l0] at h
  | k + 1 => by
    have ih0 := gangwayref0_EqBytes.mono_l k
    · intro y0 y1 y2
      unfold gangwayref0_EqBytes.l0
      repeat' first
      | (with_reducible exact ih0 _ _ _)
      | (with_reducible exact LeO.refl _)
      | (with_reducible exact LeO.none _)
      | (with_reducible refine LeO.ite ?_ ?_)
      | (with_reducible refine LeO.bind ?_ (fun _ => ?_))
      | exact ih0 _ _ _
      | exact LeO.none _
      | refine LeO.ite ?_ ?_
      | refine LeO.bind ?_ (fun _ => ?_)
theorem gangwayref0_EqBytes.mono : ∀ a0 a1 k, LeO (gangwayref0_EqBytes.f k a0 a1) (gangwayref0_EqBytes.f (k + 1) a0 a1) := by
  intro a0 a1 k
  have ih0 := gangwayref0_EqBytes.mono_l k
  unfold gangwayref0_EqBytes.f
  repeat' first
      | (with_reducible exact ih0 _ _ _)
      | (with_reducible exact LeO.refl _)
      | (with_reducible exact LeO.none _)
      | (with_reducible refine LeO.ite ?_ ?_)
      | (with_reducible refine LeO.bind ?_ (fun _ => ?_))
      | exact ih0 _ _ _
      | exact LeO.none _
      | refine LeO.ite ?_ ?_
      | refine LeO.bind ?_ (fun _ => ?_)
set_option maxHeartbeats 8000000 in
set_option maxRecDepth 100000 in
theorem gangwayref0_EqBytes.calls (k : Nat) (A0 : Option Addr) (c0 : Nat) (l0 : List Int) (A1 : Option Addr) (c1 : Nat) (l1 : List Int) (r : Bool) (w : World) (hr0 : Kd.C (Kd.int .u8) w A0 l0.length l0) (hc0 : l0.length ≤ c0) (hr1 : Kd.C (Kd.int .u8) w A1 l1.length l1) (hc1 : l1.length ≤ c1) (h : gangwayref0_EqBytes.f k l0 l1 = some r) :
    Calls Try.prog 15 #[.slice A0 l0.length c0, .slice A1 l1.length c1] w fun e w' => e = .returned (.bool r) ∧ Drawn0 w w' := by
  have HR0 := Aside0.mk hr0
  have HC0 := Aside0.mk hc0
  clear hr0 hc0
  have HR1 := Aside0.mk hr1
  have HC1 := Aside0.mk hc1
  clear hr1 hc1
  have H : (if (l0.length : Int) = (l1.length : Int) then (gangwayref0_EqBytes.l0 k l0 l1 0) else (some false)) = some r := h
  clear h
  by_cases c3 : (l0.length : Int) = (l1.length : Int)
  · rw [if_pos c3] at H
    have c3b0 : ((l0.length : Int) == (l1.length : Int)) = true := beq_iff_eq.mpr c3
    have c3b1 : ((l0.length : Int) != (l1.length : Int)) = false := bne_eq_false_iff_eq.mpr c3
    have c3b2 : (l0.length == l1.length) = true := by first | simpa using c3 | (simp at c3 ⊢; omega)
    clear c3
    have H' := Aside0.mk H
    clear H
    go_enter Try.func15, Try.ntmps15
    go_wp2
    repeat (go_quiet (fail); try go_wp2)
    go_loopg [5] k (fun kq v5 w' => ∃ (x5_1 : Int), v5 = .int .i64 x5_1 ∧ Aside0 (gangwayref0_EqBytes.l0 kq l0 l1 x5_1 = some r) ∧ Aside0 (kq ≤ k) ∧ Drawn0 w w')
    case atStart => exact ⟨(0), (by first | rfl | (simp; done) | (simp [*]; done)), H', ⟨Nat.le_refl _⟩, by repeat (first | exact Drawn0.refl _ | apply Drawn0.step)⟩
    case round =>
      clear H'
      try clear c1
      try clear p2
      try clear c3
      try clear c3b0
      try clear c3b1
      try clear c3b2
      obtain ⟨x5_1, rfl, HA, HK1, ⟨m1, rfl⟩⟩ := hrel
      cases gk with
      | zero => exact absurd HA.out (by simp [gangwayref0_EqBytes.l0])
      | succ k1 =>
        have H := HA.out
        clear HA
        simp only [gangwayref0_EqBytes.l0] at H
        by_cases c4 : x5_1 < (l0.length : Int)
        · rw [if_pos c4] at H
          have c4b0 : decide (x5_1 < (l0.length : Int)) = true := decide_eq_true c4
          clear c4
          by_cases c5 : 0 ≤ x5_1
          · rw [if_pos c5] at H
            have c5b0 : decide (0 ≤ x5_1) = true := decide_eq_true c5
            clear c5
            by_cases c6 : x5_1 < (l1.length : Int)
            · rw [if_pos c6] at H
              have c6b0 : decide (x5_1 < (l1.length : Int)) = true := decide_eq_true c6
              clear c6
              by_cases c7 : (rd l0 x5_1) = (rd l1 x5_1)
              · rw [if_pos c7] at H
                have c7b0 : ((rd l0 x5_1) == (rd l1 x5_1)) = true := beq_iff_eq.mpr c7
                have c7b1 : ((rd l0 x5_1) != (rd l1 x5_1)) = false := bne_eq_false_iff_eq.mpr c7
                clear c7
                have H' := Aside0.mk H
                clear H
                have p377 : 0 ≤ (x5_1 : Int) := of_decide_eq_true (by first | (with_reducible assumption) | assumption)
                have q377 : x5_1 < (l0.length : Int) := of_decide_eq_true (by first | (with_reducible assumption) | assumption)
                obtain ⟨ad377, e377, hx377_0⟩ := Kd.at_int HR0.out x5_1 p377 q377
                cases e377
                replace p377 := eq_true p377
                replace q377 := eq_true q377
                have p378 : 0 ≤ (x5_1 : Int) := of_decide_eq_true (by first | (with_reducible assumption) | assumption)
                have q378 : x5_1 < (l1.length : Int) := of_decide_eq_true (by first | (with_reducible assumption) | assumption)
                obtain ⟨ad378, e378, hx378_0⟩ := Kd.at_int HR1.out x5_1 p378 q378
                cases e378
                replace p378 := eq_true p378
                replace q378 := eq_true q378
                go_wp2
                repeat (go_quiet (fail); try go_wp2)
                go_roundg k1
                case measure => have := HK1.out; omega
                case rel => exact ⟨(wrap64 (x5_1 + 1)), (by first | rfl | (simp; done) | (simp [*]; done)), H', ⟨by have := HK1.out; omega⟩, by repeat (first | exact Drawn0.refl _ | apply Drawn0.step)⟩
              · rw [if_neg c7] at H
                have c7b0 : ((rd l0 x5_1) == (rd l1 x5_1)) = false := beq_eq_false_iff_ne.mpr c7
                have c7b1 : ((rd l0 x5_1) != (rd l1 x5_1)) = true := bne_iff_ne.mpr c7
                obtain rfl := Option.some.inj H
                have p377 : 0 ≤ (x5_1 : Int) := of_decide_eq_true (by first | (with_reducible assumption) | assumption)
                have q377 : x5_1 < (l0.length : Int) := of_decide_eq_true (by first | (with_reducible assumption) | assumption)
                obtain ⟨ad377, e377, hx377_0⟩ := Kd.at_int HR0.out x5_1 p377 q377
                cases e377
                replace p377 := eq_true p377
                replace q377 := eq_true q377
                have p378 : 0 ≤ (x5_1 : Int) := of_decide_eq_true (by first | (with_reducible assumption) | assumption)
                have q378 : x5_1 < (l1.length : Int) := of_decide_eq_true (by first | (with_reducible assumption) | assumption)
                obtain ⟨ad378, e378, hx378_0⟩ := Kd.at_int HR1.out x5_1 p378 q378
                cases e378
                replace p378 := eq_true p378
                replace q378 := eq_true q378
                go_wp2
                repeat (go_quiet (fail); try go_wp2)
                go_ret
                exact ⟨by first | rfl | (simp; done) | (simp [*]; done), by repeat (first | exact Drawn0.refl _ | apply Drawn0.step)⟩
            · rw [if_neg c6] at H
              exact absurd H (by simp)
          · rw [if_neg c5] at H
            exact absurd H (by simp)
        · rw [if_neg c4] at H
          have c4b0 : decide (x5_1 < (l0.length : Int)) = false := decide_eq_false c4
          clear c4
          obtain rfl := Option.some.inj H
          go_wp2
          repeat (go_quiet (fail); try go_wp2)
          go_ret
          exact ⟨by first | rfl | (simp; done) | (simp [*]; done), by repeat (first | exact Drawn0.refl _ | apply Drawn0.step)⟩
  · rw [if_neg c3] at H
    have c3b0 : ((l0.length : Int) == (l1.length : Int)) = false := beq_eq_false_iff_ne.mpr c3
    have c3b1 : ((l0.length : Int) != (l1.length : Int)) = true := bne_iff_ne.mpr c3
    have c3b2 : (l0.length == l1.length) = false := by first | simpa using c3 | (simp at c3 ⊢; omega)
    obtain rfl := Option.some.inj H
    go_enter Try.func15, Try.ntmps15
    go_wp2
    repeat (go_quiet (fail); try go_wp2)
    go_ret
    exact ⟨by first | rfl | (simp; done) | (simp [*]; done), by repeat (first | exact Drawn0.refl _ | apply Drawn0.step)⟩

end Go.Proofs.Ytlahigmoljflkaa.PAll
