import Derived.Test.YtlahigmoljflkaaPAllx0
import Derived.Test.YtlahigmoljflkaaPAllx1
import Derived.Test.YtlahigmoljflkaaPAllx2
namespace Go.Proofs.Ytlahigmoljflkaa.PAll
open Go.RowKit Go.Proofs.YtlahigmoljflkaaW.PrintWords Go.Proofs.YtlahigmoljflkaaW.PrintLast Go.Proofs.YtlahigmoljflkaaW.PrintMore
attribute [local go_sem] max2_int min2_int max_two min_two max_three min_three max_four min_four   -- for this text's walks alone
set_option linter.unusedVariables false
set_option linter.unusedSimpArgs false

abbrev code_place_number.t : Bool := true
abbrev code_place_number.f_ : Bool := false
def code_place_number.bb0_ : Array Bool := #[t, t, t, t, t, t, t, t, t, t, t, t, t, t, t, t, t]
def code_place_number.bb1_ : Array Bool := #[t, t, t, t, t, t, t, t, t, t, t, t, t, t, t, t, f_]
def code_place_number.bb2_ : Array Bool := #[t, t, t, t, t, t, t, t, t, t, t, t, t, t, t, f_, f_]
def code_place_number.bb3_ : Array Bool := #[t, t, t, t, t, t, t, t, t, t, t, t, t, t, f_, f_, f_]
def code_place_number.bb4_ : Array Bool := #[t, t, t, t, t, t, t, t, t, t, t, t, t, f_, f_, f_, f_]
def code_place_number.bb5_ : Array Bool := #[t, t, t, t, t, t, t, t, t, t, t, t, f_, f_, f_, f_, f_]
def code_place_number.bb6_ : Array Bool := #[t, t, t, t, t, t, t, t, t, t, t, f_, f_, f_, f_, f_, f_]
def code_place_number.bb7_ : Array Bool := #[t, t, t, t, t, t, t, t, t, t, f_, f_, f_, f_, f_, f_, f_]
def code_place_number.bb8_ : Array Bool := #[t, t, t, t, t, t, t, t, t, f_, f_, f_, f_, f_, f_, f_, f_]
def code_place_number.bb9_ : Array Bool := #[t, t, t, t, t, t, t, t, f_, f_, f_, f_, f_, f_, f_, f_, f_]
def code_place_number.bb10_ : Array Bool := #[t, t, t, t, t, t, t, f_, f_, f_, f_, f_, f_, f_, f_, f_, f_]
def code_place_number.bb11_ : Array Bool := #[t, t, t, f_, t, t, t, f_, f_, f_, f_, f_, f_, f_, f_, f_, f_]
def code_place_number.bb12_ : Array Bool := #[t, t, t, f_, t, t, f_, f_, f_, f_, f_, f_, f_, f_, f_, f_, f_]
def code_place_number.bb13_ : Array Bool := #[t, t, t, f_, t, f_, f_, f_, f_, f_, f_, f_, f_, f_, f_, f_, f_]
def code_place_number.bb14_ : Array Bool := #[t, t, t, f_, f_, f_, f_, f_, f_, f_, f_, f_, f_, f_, f_, f_, f_]
def code_place_number.bb15_ : Array Bool := #[t, t, f_, f_, f_, f_, f_, f_, f_, f_, f_, f_, f_, f_, f_, f_, f_]
def code_place_number.bb16_ : Array Bool := #[t, f_, f_, f_, f_, f_, f_, f_, f_, f_, f_, f_, f_, f_, f_, f_, f_]
def code_place_number.bb17_ : Array Bool := #[f_, f_, f_, f_, f_, f_, f_, f_, f_, f_, f_, f_, f_, f_, f_, f_, f_]
theorem code_place_number.e1 {α : Type _} (xs : List α) (i : Nat) (a : α) : xs.toArray.setIfInBounds i a = (xs.set i a).toArray := by simp
theorem code_place_number.e2 {α : Type _} (x a : α) (xs : List α) : (x :: xs).set 0 a = a :: xs := rfl
theorem code_place_number.e3 {α : Type _} (x a : α) (xs : List α) (n : Nat) : (x :: xs).set (n + 1) a = x :: xs.set n a := rfl
def code_place_number.f (k : Nat) (s0_0 : List Int) (s0_1 : Int) (s0_2 : Bool) : Option (Int × Int × Bool) := if s0_2 = true then (some (0, s0_1, s0_2)) else (if 0 ≤ s0_1 then (if s0_1 ≤ (s0_0.length : Int) then ((leb_Uint.f k (s0_0.drop (s0_1 : Int).toNat) 32).bind fun bt129 => (some (wrap64 (bt129.1), wrap64 (s0_1 + bt129.2.1), (bt129.2.2 != 0)))) else (none)) else (none))
theorem code_place_number.mono : ∀ a0 a1 a2 k, LeO (code_place_number.f k a0 a1 a2) (code_place_number.f (k + 1) a0 a1 a2) := by
 intro a0 a1 a2 k
 unfold code_place_number.f
 repeat' first
   | (with_reducible exact leb_Uint.mono _ _ _)
   | (with_reducible exact LeO.refl _)
   | (with_reducible exact LeO.none _)
   | (with_reducible refine LeO.ite ?_ ?_)
   | (with_reducible refine LeO.bind ?_ (fun _ => ?_))
   | exact leb_Uint.mono _ _ _
   | exact LeO.none _
   | refine LeO.ite ?_ ?_
   | refine LeO.bind ?_ (fun _ => ?_)
def code_place_number.T3 : Bool × List (List Nat × List Nat) := (true, [([], []), ([0], [0]), ([1], [1]), ([2], [2]), ([], []), ([4], [4]), ([5], [5]), ([6], [6]), ([3, 7], [3, 7]), ([8], [8]), ([9], [9]), ([10], [10]), ([10], [10]), ([10], [10]), ([11, 9, 0, 1, 2, 3, 4, 5, 6, 7, 8, 9, 10, 11], [11]), ([12, 14, 0, 1, 2, 3, 4, 5, 6, 7, 8, 9, 10, 11, 12, 14], [12]), ([13, 15, 0, 1, 2, 3, 4, 5, 6, 7, 8, 9, 10, 11, 12, 13, 14, 15], [13])])
def code_place_number.B3 : List Nat := [0, 1, 3, 7, 0, 16, 48, 112, 255, 511, 1023, 2047, 2047, 2047, 4095, 24575, 65535]
theorem code_place_number.tab3 : rtab .any (opsOf Try.f48 3) = code_place_number.T3 := by kernel_rfl
theorem code_place_number.bits3 : waitsOk code_place_number.T3.2 code_place_number.B3 = true := by kernel_rfl
theorem code_place_number.am_ {p : Prop} (h : p) : Aside0 p := Aside0.mk h
theorem code_place_number.bm_ {α β : Type _} {o : Option α} {f : α → Option β} {b : β} (h : o.bind f = some b) : ∃ a, o = some a ∧ f a = some b := Option.bind_eq_some_iff.mp h
set_option maxHeartbeats 8000000 in
set_option maxRecDepth 100000 in
theorem code_place_number.calls (k : Nat) (g : Nat) (s0_0 : List Int) (s0_1 : Int) (s0_2 : Bool) (r1 : Int) (r2 : Int) (r3 : Bool) (w0 w : World) (hI : IsS53 w0 w g s0_0 s0_1 s0_2) (hB : Below w0.heap.size w0 w) (h : code_place_number.f k s0_0 s0_1 s0_2 = some (r1, r2, r3)) :
  Calls Try.prog 48 #[.pointer (some ⟨g, 0, none⟩)] w fun e w' => e = .returned (.int .i64 r1) ∧ IsS53 w0 w' g s0_0 r2 r3 ∧ Below w0.heap.size w0 w' ∧ KeepBut w w' g none := by
 have HI0 := am_ hI; have HK := am_ (KeepBut.refl w g none); have HL := am_ hB.size; clear hI; have HW0 := am_ hB.size; have HB := am_ hB; clear hB; have H : (if s0_2 = true then (some (0, s0_1, s0_2)) else (if 0 ≤ s0_1 then (if s0_1 ≤ (s0_0.length : Int) then ((leb_Uint.f k (s0_0.drop (s0_1 : Int).toNat) 32).bind fun bt129 => (some (wrap64 (bt129.1), wrap64 (s0_1 + bt129.2.1), (bt129.2.2 != 0)))) else (none)) else (none))) = some (r1, r2, r3) := h; clear h; by_cases c2 : s0_2 = true
 ·subst c2; have H1 : (some (0, s0_1, true)) = some (r1, r2, r3) := by rw [if_pos rfl] at H; exact H
  clear H; have H := H1; clear H1; simp only [Option.some.injEq, Prod.mk.injEq] at H; obtain ⟨rfl, rfl, rfl⟩ := H; obtain ⟨ASz3_0, cSz3_0, HGz3, hgz3, HSz3_0⟩ := HI0.out; have Z3_0 := cellS53_0 HGz3; have Z3_1 := cellS53_1 HGz3; have Z3_2 := cellS53_2 HGz3; have Y3_1 := blk_frozen HGz3 1; have Y3_2 := blk_frozen HGz3 2; clear HGz3 hgz3; go_enter Try.func48, Try.ntmps48; go_wp2; go_ret; exact ⟨er_, by repeat (first | (with_reducible first | exact HI0.out | apply IsS53.alloc | apply IsS53.drewN | apply IsS53.drew | apply IsS53.set_1 | apply IsS53.set_2) | exact HI0.out), by repeat (first | (with_reducible first | exact HB.out | apply below_alloc | apply pw_below_drewN | apply below_drew1 | refine below_set ?_ (IsS53.ge HI0.out)) | exact HB.out), by repeat (first | (with_reducible first | exact HK.out | apply KeepBut.set_ | apply keep_drewN | apply keep_drew | apply keep_alloc) | exact HK.out)⟩
 replace c2 := Bool.eq_false_iff.mpr c2; subst c2; have H1 : (if 0 ≤ s0_1 then (if s0_1 ≤ (s0_0.length : Int) then ((leb_Uint.f k (s0_0.drop (s0_1 : Int).toNat) 32).bind fun bt129 => (some (wrap64 (bt129.1), wrap64 (s0_1 + bt129.2.1), (bt129.2.2 != 0)))) else (none)) else (none)) = some (r1, r2, r3) := by rw [if_neg (show ¬ (false = true) by decide)] at H; exact H
 clear H; have H := H1; clear H1; by_cases c4 : 0 ≤ s0_1
 rotate_left
 ·rw [if_neg c4] at H; exact absurd H (by simp)
 rw [if_pos c4] at H; have c4b0 := eq_true c4; have c4b1 : decide (0 ≤ s0_1) = true := decide_eq_true c4; clear c4; by_cases c5 : s0_1 ≤ (s0_0.length : Int)
 rotate_left
 ·rw [if_neg c5] at H; exact absurd H (by simp)
 rw [if_pos c5] at H; have c5b0 := eq_true c5; have c5b1 : decide (s0_1 ≤ (s0_0.length : Int)) = true := decide_eq_true c5; clear c5; obtain ⟨y125, hy125⟩ : ∃ y_ : List Int, y_ = (s0_0.drop (s0_1 : Int).toNat) := ⟨_, rfl⟩
 replace H : ((leb_Uint.f k y125 32).bind fun bt129 => (some (wrap64 (bt129.1), wrap64 (s0_1 + bt129.2.1), (bt129.2.2 != 0)))) = some (r1, r2, r3) := by first | (rw [hy125]; with_reducible exact H) | (have H2_ := (Option.bind_some _ _).symm.trans H; rw [hy125]; with_reducible exact H2_) | (have H2_ := (Option.bind_some _ _).symm.trans H; with_reducible exact H2_) | with_reducible exact H | (rw [hy125]; exact H) | exact H
 have Ny125 := am_ hy125; clear hy125; replace H := bm_ H; obtain ⟨⟨t129, t130, t131⟩, A60, H⟩ := H; replace H : (some (wrap64 (t129), wrap64 (s0_1 + t130), (t131 != 0))) = some (r1, r2, r3) := H; have A6 := am_ A60; clear A60; simp only [Option.some.injEq, Prod.mk.injEq] at H; obtain ⟨rfl, rfl, rfl⟩ := H; obtain ⟨ASz7_0, cSz7_0, HGz7, hgz7, HSz7_0⟩ := HI0.out; have Z7_0 := cellS53_0 HGz7; have Z7_1 := cellS53_1 HGz7; have Z7_2 := cellS53_2 HGz7; have Y7_1 := blk_frozen HGz7 1; have Y7_2 := blk_frozen HGz7 2; clear HGz7 hgz7; go_enter Try.func48, Try.ntmps48
 try go_wp2
 have n0_ := am_ (IsS53.drew HI0.out); have n1_ := am_ (keep_drew HK.out); have n2_ := am_ (below_drew1 HB.out); clear HI0; clear HK; clear HB; have HI0 := n0_; have HK := n1_; have HB := n2_; clear n0_ n1_ n2_; obtain ⟨ASz9_0, cSz9_0, HGz9, hgz9, HSz9_0⟩ := HI0.out; have q10 : (s0_1 : Int) ≤ ((s0_0.length : Int) : Int) := of_decide_eq_true (by first | (with_reducible assumption) | assumption); obtain ⟨i010, hi010, _, hsz10, _⟩ := info_parts info5; have hroom10 : s0_0.length ≤ cSz9_0 := HSz9_0.1; have hC10 : Kd.C (Kd.int .u8) _ ASz9_0 s0_0.length s0_0 := (Kd.C_below HSz9_0.2 HB.out); have q010 : (0 : Int) ≤ (s0_1 : Int) := of_decide_eq_true (by first | (with_reducible assumption) | assumption); have hcut10 := cut_from (P := Try.prog) 24 5 .i64 Try.underlying24 hi010 1 hsz10 ASz9_0 s0_0.length cSz9_0 s0_1 q010 q10; have hr10 := Kd.C_drop (m := (s0_1 : Int).toNat) (c := cSz9_0) hC10 (by omega) hroom10; obtain ⟨A10, hA10⟩ : ∃ A1, A1 = (if cSz9_0 = (s0_1 : Int).toNat then ASz9_0 else (ASz9_0 : Option Addr).map (·.add ((s0_1 : Int).toNat * 1))) := ⟨_, rfl⟩
 obtain ⟨c10, hc10⟩ : ∃ c1, c1 = cSz9_0 - (s0_1 : Int).toNat := ⟨_, rfl⟩
 have hy10 : y125.length = s0_0.length - (s0_1 : Int).toNat := (by rw [Ny125.out, List.length_drop] <;> omega); rw [show (s0_0).drop (s0_1 : Int).toNat = y125 from Ny125.out.symm] at hr10; replace hr10 : Kd.C (Kd.int .u8) _ A10 y125.length y125 := (by rw [hA10]; exact hr10); rw [← hy10, ← hA10, ← hc10] at hcut10; have HR128 := am_ hr10; have HC128 := am_ (show y125.length ≤ c10 from by rw [hy10, hc10]; exact Nat.sub_le_sub_right hroom10 _); clear hr10 hC10 hroom10 hi010 hsz10 hc10; have KY10 := am_ hy10; have KA10 := am_ hA10; clear hy10 hA10; replace q10 := eq_true q10; refine start_ (n := 17) (S := fun w' => w'.cell? ⟨g, 0, none⟩ = some (.slice ASz9_0 s0_0.length cSz9_0) ∧ w'.cell? ⟨g, 1, none⟩ = some (.int .i64 s0_1)) (ds := []) bb17_ (by kernel_rfl) rfl rfl ⟨(blk_cell HGz9 0).trans rfl, (blk_cell HGz9 1).trans rfl⟩ (fun hHeld => ?_); refine with_tabW code_place_number.tab3 code_place_number.bits3 (fun HT_ HW_ => ?_); generalize w.drew = w8 at HI0 HK HB HR128 hHeld ⊢; refine pure_ (i := 0) (N := some 11) (v := ?_) (a' := ?_) bb16_ rfl rfl (any_of HT_.out (by kernel_rfl)) (fun _ _ _ h => h) (Or.inl ⟨by rfl, ?_⟩) ?_ ?_
 rotate_left; · intro w'; go_simp; with_reducible rfl
 rotate_left; · simp only [Act.put, e1, e2, e3, i64_w, i32_w]; rfl
 refine pure_ (i := 1) (N := some 12) (v := ?_) (a' := ?_) bb15_ rfl rfl (any_of HT_.out (by kernel_rfl)) (fun _ _ _ h => h) (Or.inl ⟨by rfl, ?_⟩) ?_ ?_
 rotate_left; · intro w'; go_simp; with_reducible rfl
 rotate_left; · simp only [Act.put, e1, e2, e3, i64_w, i32_w]; rfl
 refine pure_ (i := 2) (N := some 13) (v := ?_) (a' := ?_) bb14_ rfl rfl (any_of HT_.out (by kernel_rfl)) (fun _ _ _ h => h) (Or.inl ⟨by rfl, ?_⟩) ?_ ?_
 rotate_left; · intro w'; go_simp; with_reducible rfl
 rotate_left; · simp only [Act.put, e1, e2, e3, i64_w, i32_w]; rfl
 refine pure_ (i := 4) (N := some 15) (v := ?_) (a' := ?_) bb13_ rfl rfl (any_of HT_.out (by kernel_rfl)) (fun _ _ _ h => h) (Or.inl ⟨by rfl, ?_⟩) ?_ ?_
 rotate_left; · intro w'; go_simp; with_reducible rfl
 rotate_left; · simp only [Act.put, e1, e2, e3, i64_w, i32_w]; rfl
 refine pure_ (i := 5) (N := some 16) (v := ?_) (a' := ?_) bb12_ rfl rfl (any_of HT_.out (by kernel_rfl)) (fun _ _ _ h => h) (Or.inl ⟨by rfl, ?_⟩) ?_ ?_
 rotate_left; · intro w'; go_simp; with_reducible rfl
 rotate_left; · simp only [Act.put, e1, e2, e3, i64_w, i32_w]; rfl
 refine pure_ (i := 6) (N := some 17) (v := ?_) (a' := ?_) bb11_ rfl rfl (any_of HT_.out (by kernel_rfl)) (fun _ _ _ h => h) (Or.inl ⟨by rfl, ?_⟩) ?_ ?_
 rotate_left; · intro w'; go_simp; with_reducible rfl
 rotate_left; · simp only [Act.put, e1, e2, e3, i64_w, i32_w]; rfl
 refine take_ (i := 3) (N := some 14) (v := ?_) (a' := ?_) bb10_ rfl rfl (take_ofW HT_.out HW_.out (by kernel_rfl)) (fun _ _ _ h => h) (Or.inl ⟨by rfl, ?_⟩) hHeld ?_ ?_
 rotate_left; · rintro w' ⟨s0, s1⟩; go_simp; with_reducible rfl
 rotate_left; · simp only [Act.put, e1, e2, e3, i64_w, i32_w]; rfl
 refine take_ (i := 7) (N := some 18) (v := ?_) (a' := ?_) bb9_ rfl rfl (take_ofW HT_.out HW_.out (by kernel_rfl)) (fun _ _ _ h => h) (Or.inl ⟨by rfl, ?_⟩) hHeld ?_ ?_
 rotate_left; · rintro w' ⟨s0, s1⟩; go_simp; with_reducible rfl
 rotate_left; · simp only [Act.put, e1, e2, e3, i64_w, i32_w]; rfl
 refine pure_ (i := 8) (N := some 19) (v := ?_) (a' := ?_) bb8_ rfl rfl (any_of HT_.out (by kernel_rfl)) (fun _ _ _ h => h) (Or.inl ⟨by rfl, ?_⟩) ?_ ?_
 rotate_left; · intro w'; go_simp; with_reducible rfl
 rotate_left; · simp only [Act.put, e1, e2, e3, i64_w, i32_w]; rfl
 refine one_ (i := 9) (N := some 20) bb7_ rfl rfl (one_of HT_.out (by kernel_rfl)) (by decide) (fun K hK => ?_); refine goes_ Try.func64 (by kernel_rfl) rfl #[.slice A10 y125.length c10, .int .i64 32] (by rfl) rfl rfl (by (try simp only [List.map_toArray, List.map_cons, List.map_nil]); first | done | rfl | (simp only [List.length_drop, List.length_take]; rfl)) ?_
 with_reducible refine (leb_Uint.calls k _ _ y125 32 t129 t130 t131 _ ?side1 ?side2 A6.out).mono ?_
 (case side1 => repeat (first | exact (by repeat (first | (with_reducible exact HR128.out) | (with_reducible refine Kd.C_alloc ?_ _) | (with_reducible refine Kd.C_drewN ?_ _) | (with_reducible refine Kd.C_drew ?_) | exact HR128.out)) | (with_reducible refine Kd.C_alloc ?_ _) | (with_reducible refine Kd.C_drewN ?_ _) | (with_reducible refine Kd.C_drew ?_))); (case side2 => exact HC128.out)
 rintro e w11 ⟨rfl, hb⟩
 have HS0_ := (hb.cell (World.block_lt_of_cell? _ _ (hHeld.1))).trans (hHeld.1); have HS1_ := (hb.cell (World.block_lt_of_cell? _ _ (hHeld.2))).trans (hHeld.2); refine ⟨_, rfl, ?_⟩; have n0_ := am_ (IsS53.below (by repeat (first | (with_reducible first | exact HI0.out | apply IsS53.alloc | apply IsS53.drewN | apply IsS53.drew | apply IsS53.set_1 | apply IsS53.set_2) | exact HI0.out)) hb); have n1_ := am_ (Kd.C_below (by repeat (first | (with_reducible exact HR128.out) | (with_reducible refine Kd.C_alloc ?_ _) | (with_reducible refine Kd.C_drewN ?_ _) | (with_reducible refine Kd.C_drew ?_) | exact HR128.out)) hb); have n2_ := am_ (KeepBut.trans (by repeat (first | (with_reducible first | exact HK.out | apply KeepBut.set_ | apply keep_drewN | apply keep_drew | apply keep_alloc) | exact HK.out)) (KeepBut.of_below hb g none) (.inl rfl)); have n3_ := am_ (below_step (by repeat (first | (with_reducible first | exact HB.out | apply below_alloc | apply pw_below_drewN | apply below_drew1 | refine below_set ?_ (IsS53.ge HI0.out)) | exact HB.out)) hb); clear HI0; clear HR128; clear HK; clear HB; have HI0 := n0_; have HR128 := n1_; have HK := n2_; have HB := n3_; clear n0_ n1_ n2_ n3_; refine hK.out _ _ ⟨HS0_, HS1_⟩ (fun hHeld => ?_); clear hK K; refine norm_ (a' := ?_) ?_ ?_
 rotate_left
 ·show Act.put _ (some 20) _ = _
  simp only [Act.put, e1, e2, e3, i64_w, i32_w]
  rfl
 refine pure_ (i := 10) (N := some 10) (v := ?_) (a' := ?_) bb6_ rfl rfl (any_of HT_.out (by kernel_rfl)) (fun _ _ _ h => h) (Or.inl ⟨by rfl, ?_⟩) ?_ ?_
 rotate_left; · intro w'; go_simp; with_reducible rfl
 rotate_left; · simp only [Act.put, e1, e2, e3, i64_w, i32_w]; rfl
 refine pure_ (i := 11) (N := some 21) (v := ?_) (a' := ?_) bb5_ rfl rfl (any_of HT_.out (by kernel_rfl)) (fun _ _ _ h => h) (Or.inl ⟨by rfl, ?_⟩) ?_ ?_
 rotate_left; · intro w'; go_simp; with_reducible rfl
 rotate_left; · simp only [Act.put, e1, e2, e3, i64_w, i32_w]; rfl
 refine pure_ (i := 12) (N := some 22) (v := ?_) (a' := ?_) bb4_ rfl rfl (any_of HT_.out (by kernel_rfl)) (fun _ _ _ h => h) (Or.inl ⟨by rfl, ?_⟩) ?_ ?_
 rotate_left; · intro w'; go_simp; with_reducible rfl
 rotate_left; · simp only [Act.put, e1, e2, e3, i64_w, i32_w]; rfl
 refine pure_ (i := 13) (N := some 23) (v := ?_) (a' := ?_) bb3_ rfl rfl (any_of HT_.out (by kernel_rfl)) (fun _ _ _ h => h) (Or.inl ⟨by rfl, ?_⟩) ?_ ?_
 rotate_left; · intro w'; go_simp; with_reducible rfl
 rotate_left; · simp only [Act.put, e1, e2, e3, i64_w, i32_w]; rfl
 refine pure_ (i := 14) (N := some 3) (v := ?_) (a' := ?_) bb2_ rfl rfl (any_of HT_.out (by kernel_rfl)) (fun _ _ _ h => h) (Or.inl ⟨by rfl, ?_⟩) ?_ ?_
 rotate_left; · intro w'; go_simp; with_reducible rfl
 rotate_left; · simp only [Act.put, e1, e2, e3, i64_w, i32_w]; rfl
 refine pure_ (i := 15) (N := some 4) (v := ?_) (a' := ?_) bb1_ rfl rfl (any_of HT_.out (by kernel_rfl)) (fun _ _ _ h => h) (Or.inl ⟨by rfl, ?_⟩) ?_ ?_
 rotate_left; · intro w'; go_simp; with_reducible rfl
 rotate_left; · simp only [Act.put, e1, e2, e3, i64_w, i32_w]; rfl
 refine pure_ (i := 16) (N := some 5) (v := ?_) (a' := ?_) bb0_ rfl rfl (any_of HT_.out (by kernel_rfl)) (fun _ _ _ h => h) (Or.inl ⟨by rfl, ?_⟩) ?_ ?_
 rotate_left; · intro w'; go_simp; with_reducible rfl
 rotate_left; · simp only [Act.put, e1, e2, e3, i64_w, i32_w]; rfl
 refine done_ (done_of HT_.out (by kernel_rfl)) ?_; obtain ⟨ASz12_0, cSz12_0, HGz12, hgz12, HSz12_0⟩ := HI0.out; have Z12_0 := cellS53_0 HGz12; have Z12_1 := cellS53_1 HGz12; have Z12_2 := cellS53_2 HGz12; have Y12_1 := blk_frozen HGz12 1; have Y12_2 := blk_frozen HGz12 2; clear HGz12 hgz12
 try go_wp2
 go_ret; exact ⟨er_, by repeat (first | (with_reducible first | exact HI0.out | apply IsS53.alloc | apply IsS53.drewN | apply IsS53.drew | apply IsS53.set_1 | apply IsS53.set_2) | exact HI0.out), by repeat (first | (with_reducible first | exact HB.out | apply below_alloc | apply pw_below_drewN | apply below_drew1 | refine below_set ?_ (IsS53.ge HI0.out)) | exact HB.out), by repeat (first | (with_reducible first | exact HK.out | apply KeepBut.set_ | apply keep_drewN | apply keep_drew | apply keep_alloc) | exact HK.out)⟩
theorem code_shape.eb {α : Type} [BEq α] [LawfulBEq α] {a b : α} (h : a = b) : (a == b) = true ∧ (a != b) = false := ⟨beq_iff_eq.mpr h, bne_eq_false_iff_eq.mpr h⟩
theorem code_shape.nb {α : Type} [BEq α] [LawfulBEq α] {a b : α} (h : ¬ a = b) : (a == b) = false ∧ (a != b) = true := ⟨beq_eq_false_iff_ne.mpr h, bne_iff_ne.mpr h⟩
mutual
def code_shape.j0 : Nat → Int → Bool → Option (Int)
 | 0, _, _ => none
 | k + 1, x0, x3 => if x3 = true then (some 2) else (if x0 = 4 then (some 3) else (if x0 = 12 then (code_shape.j1 k x0 true) else (if x0 = 13 then (code_shape.j1 k x0 true) else (if x0 = 16 then (code_shape.j1 k x0 true) else (if x0 ≥ 32 then (code_shape.j1 k x0 (decide (x0 ≤ 36))) else (code_shape.j1 k x0 false))))))
def code_shape.j1 : Nat → Int → Bool → Option (Int)
 | 0, _, _ => none
 | k + 1, x0, x13 => if x13 = true then (some 4) else (if x0 = 14 then (some 5) else (if x0 = 17 then (some 6) else (if x0 = 40 then (code_shape.j2 k x0 true) else (if x0 = 41 then (code_shape.j2 k x0 true) else (if x0 ≥ 44 then (if x0 ≤ 55 then (code_shape.j2 k x0 true) else (if x0 ≥ 58 then (code_shape.j2 k x0 (decide (x0 ≤ 62))) else (code_shape.j2 k x0 false))) else (if x0 ≥ 58 then (none) else (code_shape.j2 k x0 false)))))))
def code_shape.j2 : Nat → Int → Bool → Option (Int)
 | 0, _, _ => none
 | k + 1, x0, x38 => if x38 = true then (some 7) else (if x0 = 63 then (code_shape.j3 k x0 true) else (code_shape.j3 k x0 (x0 == 64)))
def code_shape.j3 : Nat → Int → Bool → Option (Int)
 | 0, _, _ => none
 | k + 1, x0, x61 => if x61 = true then (some 8) else (if x0 = 65 then (some 9) else (if x0 = 66 then (some 10) else (if x0 = 0 then (some 1) else (if x0 = 1 then (some 1) else (if x0 = 15 then (some 1) else (if x0 = 26 then (some 1) else (if x0 = 27 then (some 1) else (if x0 ≥ 69 then (if x0 ≤ 90 then (some 1) else (if x0 ≥ 103 then (if x0 ≤ 138 then (some 1) else (if x0 = 167 then (some 1) else (if x0 = 172 then (some 1) else (if x0 = 173 then (some 1) else (some 0))))) else (if x0 = 167 then (none) else (if x0 = 172 then (none) else (if x0 = 173 then (none) else (some 0)))))) else (if x0 ≥ 103 then (none) else (if x0 = 167 then (none) else (if x0 = 172 then (none) else (if x0 = 173 then (none) else (some 0)))))))))))))
end
def code_shape.f (k : Nat) (a0 : Int) : Option (Int) := if a0 = 2 then (code_shape.j0 k a0 true) else (code_shape.j0 k a0 (a0 == 3))
theorem code_shape.mono_l : ∀ k, (∀ y0 y1, LeO (code_shape.j0 k y0 y1) (code_shape.j0 (k + 1) y0 y1)) ∧ (∀ y0 y1, LeO (code_shape.j1 k y0 y1) (code_shape.j1 (k + 1) y0 y1)) ∧ (∀ y0 y1, LeO (code_shape.j2 k y0 y1) (code_shape.j2 (k + 1) y0 y1)) ∧ (∀ y0 y1, LeO (code_shape.j3 k y0 y1) (code_shape.j3 (k + 1) y0 y1))
 | 0 => ⟨fun _ _ r h => by simp [code_shape.j0] at h, fun _ _ r h => by simp [code_shape.j1] at h, fun _ _ r h => by simp [code_shape.j2] at h, fun _ _ r h => by simp [code_shape.j3] at h⟩
 | k + 1 => by
  obtain ⟨ih0, ih1, ih2, ih3⟩ := code_shape.mono_l k; refine ⟨?_, ?_, ?_, ?_⟩ <;> (intros; (first | unfold code_shape.j0 | unfold code_shape.j1 | unfold code_shape.j2 | unfold code_shape.j3); repeat' first | (with_reducible apply ih0) | (with_reducible apply ih1) | (with_reducible apply ih2) | (with_reducible apply ih3) | (with_reducible exact LeO.refl _) | (with_reducible exact LeO.none _) | (with_reducible refine LeO.ite ?_ ?_) | (with_reducible refine LeO.bind ?_ (fun _ => ?_)) | apply ih0 | apply ih1 | apply ih2 | apply ih3 | exact LeO.none _ | refine LeO.ite ?_ ?_ | refine LeO.bind ?_ (fun _ => ?_))
theorem code_shape.mono : ∀ a0 k, LeO (code_shape.f k a0) (code_shape.f (k + 1) a0) := by
 intro a0 k; obtain ⟨ih0, ih1, ih2, ih3⟩ := code_shape.mono_l k
 unfold code_shape.f
 repeat' first
   | (with_reducible apply ih0)
   | (with_reducible apply ih1)
   | (with_reducible apply ih2)
   | (with_reducible apply ih3)
   | (with_reducible exact LeO.refl _)
   | (with_reducible exact LeO.none _)
   | (with_reducible refine LeO.ite ?_ ?_)
   | (with_reducible refine LeO.bind ?_ (fun _ => ?_))
   | apply ih0
   | apply ih1
   | apply ih2
   | apply ih3
   | exact LeO.none _
   | refine LeO.ite ?_ ?_
   | refine LeO.bind ?_ (fun _ => ?_)
theorem code_shape.aa_0 {p : Prop} (h : p := by first | rfl | (simp; done) | (simp [*]; done)) : p := h
theorem code_shape.am_ {p : Prop} (h : p) : Aside0 p := Aside0.mk h
set_option maxHeartbeats 8000000 in
set_option maxRecDepth 100000 in
theorem code_shape.calls (k : Nat) (a0 : Int) (r : Int) (w : World) (h : code_shape.f k a0 = some r) :
  Calls Try.prog 49 #[.int .i64 a0] w fun e w' => e = .returned (.int .i64 r) ∧ Drawn0 w w' := by
 have H : (if a0 = 2 then (j0 k a0 true) else (j0 k a0 (a0 == 3))) = some r := h; clear h; have HC2 := am_ H; clear H; go_enter Try.func49, Try.ntmps49
 go_upto_region 1 with (fail)
 go_cut [3] (fun v3 wc => ∃ (kq : Nat) (x3_1 : Bool), v3 = .bool x3_1 ∧ Aside0 (j0 kq a0 x3_1 = some r) ∧ Aside0 (kq ≤ k) ∧ Drawn0 w wc)
 case first =>
  have H := HC2.out; clear HC2; by_cases c3 : a0 = 2
  ·rw [if_pos c3] at H; obtain ⟨c3b0, c3b1⟩ := eb c3; clear c3; (first | rw [c3b0] | (simp only [i64_w, i32_w]; rw [c3b0]) | skip); have H' := am_ H; clear H; go_wp2; go_meet
   case rel => exact ⟨_, (true), aa_0, H', ⟨by first | omega | exact Nat.le_refl _⟩, dr_⟩
  rw [if_neg c3] at H; obtain ⟨c3b0, c3b1⟩ := nb c3; (first | rw [c3b0] | (simp only [i64_w, i32_w]; rw [c3b0]) | skip); have H' := am_ H; clear H; go_wp2; go_meet
  case rel => exact ⟨_, ((a0 == 3)), aa_0, H', ⟨by first | omega | exact Nat.le_refl _⟩, dr_⟩
 case rest =>
 clear HC2; obtain ⟨kq, x3_1, rfl, HA, HJ1, ⟨mc1, rfl⟩⟩ := hcut
 cases kq with
 | zero => exact absurd HA.out (by simp [j0])
 | succ kj1 =>
 have H := HA.out; clear HA; simp only [j0] at H; by_cases c4 : x3_1 = true
 ·subst c4; have H1 : (some 2) = some r := by rw [if_pos rfl] at H; exact H
  clear H; have H := H1; clear H1; obtain rfl := Option.some.inj H; go_wp2; go_ret; exact ⟨es_, dr_⟩
 replace c4 := Bool.eq_false_iff.mpr c4; subst c4; have H1 : (if a0 = 4 then (some 3) else (if a0 = 12 then (j1 kj1 a0 true) else (if a0 = 13 then (j1 kj1 a0 true) else (if a0 = 16 then (j1 kj1 a0 true) else (if a0 ≥ 32 then (j1 kj1 a0 (decide (a0 ≤ 36))) else (j1 kj1 a0 false)))))) = some r := by rw [if_neg (show ¬ (false = true) by decide)] at H; exact H
 clear H; have H := H1; clear H1; by_cases c5 : a0 = 4
 ·rw [if_pos c5] at H; obtain ⟨c5b0, c5b1⟩ := eb c5; clear c5; obtain rfl := Option.some.inj H; go_wp2; go_ret; exact ⟨es_, dr_⟩
 rw [if_neg c5] at H; obtain ⟨c5b0, c5b1⟩ := nb c5; have HC6 := am_ H; clear H
 go_upto_region 5 with (fail)
 go_cut [13] (fun v13 wc => ∃ (kq : Nat) (x13_5 : Bool), v13 = .bool x13_5 ∧ Aside0 (j1 kq a0 x13_5 = some r) ∧ Aside0 (kq ≤ kj1) ∧ Drawn0 w wc)
 case first =>
  have H := HC6.out; clear HC6; by_cases c7 : a0 = 12
  ·rw [if_pos c7] at H; obtain ⟨c7b0, c7b1⟩ := eb c7; clear c7; (first | rw [c7b0] | (simp only [i64_w, i32_w]; rw [c7b0]) | skip); have H' := am_ H; clear H; go_wp2; go_meet
   case rel => exact ⟨_, (true), aa_0, H', ⟨by have := HJ1.out; first | omega | exact Nat.le_refl _⟩, dr_⟩
  rw [if_neg c7] at H; obtain ⟨c7b0, c7b1⟩ := nb c7; (first | rw [c7b0] | (simp only [i64_w, i32_w]; rw [c7b0]) | skip); by_cases c8 : a0 = 13
  ·rw [if_pos c8] at H; obtain ⟨c8b0, c8b1⟩ := eb c8; clear c8; have H' := am_ H; clear H; go_wp2; go_meet
   case rel => exact ⟨_, (true), aa_0, H', ⟨by have := HJ1.out; first | omega | exact Nat.le_refl _⟩, dr_⟩
  rw [if_neg c8] at H; obtain ⟨c8b0, c8b1⟩ := nb c8; by_cases c9 : a0 = 16
  ·rw [if_pos c9] at H; obtain ⟨c9b0, c9b1⟩ := eb c9; clear c9; have H' := am_ H; clear H; go_wp2; go_meet
   case rel => exact ⟨_, (true), aa_0, H', ⟨by have := HJ1.out; first | omega | exact Nat.le_refl _⟩, dr_⟩
  rw [if_neg c9] at H; obtain ⟨c9b0, c9b1⟩ := nb c9; by_cases c10 : a0 ≥ 32
  ·rw [if_pos c10] at H; have c10b0 : decide (32 ≤ a0) = true := decide_eq_true c10; clear c10; have H' := am_ H; clear H; go_wp2; go_meet
   case rel => exact ⟨_, (decide (a0 ≤ 36)), aa_0, H', ⟨by have := HJ1.out; first | omega | exact Nat.le_refl _⟩, dr_⟩
  rw [if_neg c10] at H; have c10b0 : decide (32 ≤ a0) = false := decide_eq_false c10; clear c10; have H' := am_ H; clear H; go_wp2; go_meet
  case rel => exact ⟨_, (false), aa_0, H', ⟨by have := HJ1.out; first | omega | exact Nat.le_refl _⟩, dr_⟩
 case rest =>
 clear HC6; (try clear c4); (try clear c5); (try clear c5b0); (try clear c5b1); obtain ⟨kq, x13_5, rfl, HA, HJ5, ⟨mc5, rfl⟩⟩ := hcut
 cases kq with
 | zero => exact absurd HA.out (by simp [j1])
 | succ kj5 =>
 have H := HA.out; clear HA; simp only [j1] at H; by_cases c11 : x13_5 = true
 ·subst c11; have H1 : (some 4) = some r := by rw [if_pos rfl] at H; exact H
  clear H; have H := H1; clear H1; obtain rfl := Option.some.inj H; go_wp2; go_ret; exact ⟨es_, dr_⟩
 replace c11 := Bool.eq_false_iff.mpr c11; subst c11; have H1 : (if a0 = 14 then (some 5) else (if a0 = 17 then (some 6) else (if a0 = 40 then (j2 kj5 a0 true) else (if a0 = 41 then (j2 kj5 a0 true) else (if a0 ≥ 44 then (if a0 ≤ 55 then (j2 kj5 a0 true) else (if a0 ≥ 58 then (j2 kj5 a0 (decide (a0 ≤ 62))) else (j2 kj5 a0 false))) else (if a0 ≥ 58 then (none) else (j2 kj5 a0 false))))))) = some r := by rw [if_neg (show ¬ (false = true) by decide)] at H; exact H
 clear H; have H := H1; clear H1; by_cases c12 : a0 = 14
 ·rw [if_pos c12] at H; obtain ⟨c12b0, c12b1⟩ := eb c12; clear c12; obtain rfl := Option.some.inj H; go_wp2; go_ret; exact ⟨es_, dr_⟩
 rw [if_neg c12] at H; obtain ⟨c12b0, c12b1⟩ := nb c12; by_cases c13 : a0 = 17
 ·rw [if_pos c13] at H; obtain ⟨c13b0, c13b1⟩ := eb c13; clear c13; obtain rfl := Option.some.inj H; go_wp2; go_ret; exact ⟨es_, dr_⟩
 rw [if_neg c13] at H; obtain ⟨c13b0, c13b1⟩ := nb c13; have HC14 := am_ H; clear H
 go_upto_region 11 with (fail)
 go_cut [38] (fun v38 wc => ∃ (kq : Nat) (x38_13 : Bool), v38 = .bool x38_13 ∧ Aside0 (j2 kq a0 x38_13 = some r) ∧ Aside0 (kq ≤ kj5) ∧ Drawn0 w wc)
 case first =>
  have H := HC14.out; clear HC14; by_cases c15 : a0 = 40
  ·rw [if_pos c15] at H; obtain ⟨c15b0, c15b1⟩ := eb c15; clear c15; (first | rw [c15b0] | (simp only [i64_w, i32_w]; rw [c15b0]) | skip); have H' := am_ H; clear H; go_wp2; go_meet
   case rel => exact ⟨_, (true), aa_0, H', ⟨by have := HJ1.out; have := HJ5.out; first | omega | exact Nat.le_refl _⟩, dr_⟩
  rw [if_neg c15] at H; obtain ⟨c15b0, c15b1⟩ := nb c15; (first | rw [c15b0] | (simp only [i64_w, i32_w]; rw [c15b0]) | skip); by_cases c16 : a0 = 41
  ·rw [if_pos c16] at H; obtain ⟨c16b0, c16b1⟩ := eb c16; clear c16; have H' := am_ H; clear H; go_wp2; go_meet
   case rel => exact ⟨_, (true), aa_0, H', ⟨by have := HJ1.out; have := HJ5.out; first | omega | exact Nat.le_refl _⟩, dr_⟩
  rw [if_neg c16] at H; obtain ⟨c16b0, c16b1⟩ := nb c16; by_cases c17 : a0 ≥ 44
  rotate_left
  ·rw [if_neg c17] at H; have c17b0 : decide (44 ≤ a0) = false := decide_eq_false c17; clear c17; by_cases c20 : a0 ≥ 58
   ·rw [if_pos c20] at H; exact absurd H (by simp)
   rw [if_neg c20] at H; have c20b0 : decide (58 ≤ a0) = false := decide_eq_false c20; clear c20; have H' := am_ H; clear H; go_wp2; go_meet
   case rel => exact ⟨_, (false), aa_0, H', ⟨by have := HJ1.out; have := HJ5.out; first | omega | exact Nat.le_refl _⟩, dr_⟩
  rw [if_pos c17] at H; have c17b0 : decide (44 ≤ a0) = true := decide_eq_true c17; clear c17; by_cases c18 : a0 ≤ 55
  ·rw [if_pos c18] at H; have c18b0 : decide (a0 ≤ 55) = true := decide_eq_true c18; clear c18; have H' := am_ H; clear H; go_wp2; go_meet
   case rel => exact ⟨_, (true), aa_0, H', ⟨by have := HJ1.out; have := HJ5.out; first | omega | exact Nat.le_refl _⟩, dr_⟩
  rw [if_neg c18] at H; have c18b0 : decide (a0 ≤ 55) = false := decide_eq_false c18; clear c18; by_cases c19 : a0 ≥ 58
  ·rw [if_pos c19] at H; have c19b0 : decide (58 ≤ a0) = true := decide_eq_true c19; clear c19; have H' := am_ H; clear H; go_wp2; go_meet
   case rel => exact ⟨_, (decide (a0 ≤ 62)), aa_0, H', ⟨by have := HJ1.out; have := HJ5.out; first | omega | exact Nat.le_refl _⟩, dr_⟩
  rw [if_neg c19] at H; have c19b0 : decide (58 ≤ a0) = false := decide_eq_false c19; clear c19; have H' := am_ H; clear H; go_wp2; go_meet
  case rel => exact ⟨_, (false), aa_0, H', ⟨by have := HJ1.out; have := HJ5.out; first | omega | exact Nat.le_refl _⟩, dr_⟩
 case rest =>
 clear HC14; (try clear c11); (try clear c12); (try clear c12b0); (try clear c12b1); (try clear c13); (try clear c13b0); (try clear c13b1); obtain ⟨kq, x38_13, rfl, HA, HJ13, ⟨mc13, rfl⟩⟩ := hcut
 cases kq with
 | zero => exact absurd HA.out (by simp [j2])
 | succ kj13 =>
 have H := HA.out; clear HA; simp only [j2] at H; by_cases c21 : x38_13 = true
 ·subst c21; have H1 : (some 7) = some r := by rw [if_pos rfl] at H; exact H
  clear H; have H := H1; clear H1; obtain rfl := Option.some.inj H; go_wp2; go_ret; exact ⟨es_, dr_⟩
 replace c21 := Bool.eq_false_iff.mpr c21; subst c21; have H1 : (if a0 = 63 then (j3 kj13 a0 true) else (j3 kj13 a0 (a0 == 64))) = some r := by rw [if_neg (show ¬ (false = true) by decide)] at H; exact H
 clear H; have H := H1; clear H1; have HC22 := am_ H; clear H
 go_upto_region 13 with (fail)
 go_cut [61] (fun v61 wc => ∃ (kq : Nat) (x61_21 : Bool), v61 = .bool x61_21 ∧ Aside0 (j3 kq a0 x61_21 = some r) ∧ Aside0 (kq ≤ kj13) ∧ Drawn0 w wc)
 case first =>
  have H := HC22.out; clear HC22; by_cases c23 : a0 = 63
  ·rw [if_pos c23] at H; obtain ⟨c23b0, c23b1⟩ := eb c23; clear c23; (first | rw [c23b0] | (simp only [i64_w, i32_w]; rw [c23b0]) | skip); have H' := am_ H; clear H; go_wp2; go_meet
   case rel => exact ⟨_, (true), aa_0, H', ⟨by have := HJ1.out; have := HJ5.out; have := HJ13.out; first | omega | exact Nat.le_refl _⟩, dr_⟩
  rw [if_neg c23] at H; obtain ⟨c23b0, c23b1⟩ := nb c23; (first | rw [c23b0] | (simp only [i64_w, i32_w]; rw [c23b0]) | skip); have H' := am_ H; clear H; go_wp2; go_meet
  case rel => exact ⟨_, ((a0 == 64)), aa_0, H', ⟨by have := HJ1.out; have := HJ5.out; have := HJ13.out; first | omega | exact Nat.le_refl _⟩, dr_⟩
 case rest =>
 clear HC22; (try clear c21); obtain ⟨kq, x61_21, rfl, HA, HJ21, ⟨mc21, rfl⟩⟩ := hcut
 cases kq with
 | zero => exact absurd HA.out (by simp [j3])
 | succ kj21 =>
 have H := HA.out; clear HA; simp only [j3] at H; by_cases c24 : x61_21 = true
 ·subst c24; have H1 : (some 8) = some r := by rw [if_pos rfl] at H; exact H
  clear H; have H := H1; clear H1; obtain rfl := Option.some.inj H; go_wp2; go_ret; exact ⟨es_, dr_⟩
 replace c24 := Bool.eq_false_iff.mpr c24; subst c24; have H1 : (if a0 = 65 then (some 9) else (if a0 = 66 then (some 10) else (if a0 = 0 then (some 1) else (if a0 = 1 then (some 1) else (if a0 = 15 then (some 1) else (if a0 = 26 then (some 1) else (if a0 = 27 then (some 1) else (if a0 ≥ 69 then (if a0 ≤ 90 then (some 1) else (if a0 ≥ 103 then (if a0 ≤ 138 then (some 1) else (if a0 = 167 then (some 1) else (if a0 = 172 then (some 1) else (if a0 = 173 then (some 1) else (some 0))))) else (if a0 = 167 then (none) else (if a0 = 172 then (none) else (if a0 = 173 then (none) else (some 0)))))) else (if a0 ≥ 103 then (none) else (if a0 = 167 then (none) else (if a0 = 172 then (none) else (if a0 = 173 then (none) else (some 0))))))))))))) = some r := by rw [if_neg (show ¬ (false = true) by decide)] at H; exact H
 clear H; have H := H1; clear H1; by_cases c25 : a0 = 65
 ·rw [if_pos c25] at H; obtain ⟨c25b0, c25b1⟩ := eb c25; clear c25; obtain rfl := Option.some.inj H; go_wp2; go_ret; exact ⟨es_, dr_⟩
 rw [if_neg c25] at H; obtain ⟨c25b0, c25b1⟩ := nb c25; by_cases c26 : a0 = 66
 ·rw [if_pos c26] at H; obtain ⟨c26b0, c26b1⟩ := eb c26; clear c26; obtain rfl := Option.some.inj H; go_wp2; go_ret; exact ⟨es_, dr_⟩
 rw [if_neg c26] at H; obtain ⟨c26b0, c26b1⟩ := nb c26; by_cases c27 : a0 = 0
 ·rw [if_pos c27] at H; obtain ⟨c27b0, c27b1⟩ := eb c27; clear c27; obtain rfl := Option.some.inj H; go_wp2; go_ret; exact ⟨es_, dr_⟩
 rw [if_neg c27] at H; obtain ⟨c27b0, c27b1⟩ := nb c27; by_cases c28 : a0 = 1
 ·rw [if_pos c28] at H; obtain ⟨c28b0, c28b1⟩ := eb c28; clear c28; obtain rfl := Option.some.inj H; go_wp2; go_ret; exact ⟨es_, dr_⟩
 rw [if_neg c28] at H; obtain ⟨c28b0, c28b1⟩ := nb c28; by_cases c29 : a0 = 15
 ·rw [if_pos c29] at H; obtain ⟨c29b0, c29b1⟩ := eb c29; clear c29; obtain rfl := Option.some.inj H; go_wp2; go_ret; exact ⟨es_, dr_⟩
 rw [if_neg c29] at H; obtain ⟨c29b0, c29b1⟩ := nb c29; by_cases c30 : a0 = 26
 ·rw [if_pos c30] at H; obtain ⟨c30b0, c30b1⟩ := eb c30; clear c30; obtain rfl := Option.some.inj H; go_wp2; go_ret; exact ⟨es_, dr_⟩
 rw [if_neg c30] at H; obtain ⟨c30b0, c30b1⟩ := nb c30; by_cases c31 : a0 = 27
 ·rw [if_pos c31] at H; obtain ⟨c31b0, c31b1⟩ := eb c31; clear c31; obtain rfl := Option.some.inj H; go_wp2; go_ret; exact ⟨es_, dr_⟩
 rw [if_neg c31] at H; obtain ⟨c31b0, c31b1⟩ := nb c31; by_cases c32 : a0 ≥ 69
 rotate_left
 ·rw [if_neg c32] at H; have c32b0 : decide (69 ≤ a0) = false := decide_eq_false c32; clear c32; by_cases c42 : a0 ≥ 103
  ·rw [if_pos c42] at H; exact absurd H (by simp)
  rw [if_neg c42] at H; have c42b0 : decide (103 ≤ a0) = false := decide_eq_false c42; clear c42; by_cases c43 : a0 = 167
  ·rw [if_pos c43] at H; exact absurd H (by simp)
  rw [if_neg c43] at H; obtain ⟨c43b0, c43b1⟩ := nb c43; by_cases c44 : a0 = 172
  ·rw [if_pos c44] at H; exact absurd H (by simp)
  rw [if_neg c44] at H; obtain ⟨c44b0, c44b1⟩ := nb c44; by_cases c45 : a0 = 173
  ·rw [if_pos c45] at H; exact absurd H (by simp)
  rw [if_neg c45] at H; obtain ⟨c45b0, c45b1⟩ := nb c45; obtain rfl := Option.some.inj H; go_wp2; go_ret; exact ⟨es_, dr_⟩
 rw [if_pos c32] at H; have c32b0 : decide (69 ≤ a0) = true := decide_eq_true c32; clear c32; by_cases c33 : a0 ≤ 90
 ·rw [if_pos c33] at H; have c33b0 : decide (a0 ≤ 90) = true := decide_eq_true c33; clear c33; obtain rfl := Option.some.inj H; go_wp2; go_ret; exact ⟨es_, dr_⟩
 rw [if_neg c33] at H; have c33b0 : decide (a0 ≤ 90) = false := decide_eq_false c33; clear c33; by_cases c34 : a0 ≥ 103
 rotate_left
 ·rw [if_neg c34] at H; have c34b0 : decide (103 ≤ a0) = false := decide_eq_false c34; clear c34; by_cases c39 : a0 = 167
  ·rw [if_pos c39] at H; exact absurd H (by simp)
  rw [if_neg c39] at H; obtain ⟨c39b0, c39b1⟩ := nb c39; by_cases c40 : a0 = 172
  ·rw [if_pos c40] at H; exact absurd H (by simp)
  rw [if_neg c40] at H; obtain ⟨c40b0, c40b1⟩ := nb c40; by_cases c41 : a0 = 173
  ·rw [if_pos c41] at H; exact absurd H (by simp)
  rw [if_neg c41] at H; obtain ⟨c41b0, c41b1⟩ := nb c41; obtain rfl := Option.some.inj H; go_wp2; go_ret; exact ⟨es_, dr_⟩
 rw [if_pos c34] at H; have c34b0 : decide (103 ≤ a0) = true := decide_eq_true c34; clear c34; by_cases c35 : a0 ≤ 138
 ·rw [if_pos c35] at H; have c35b0 : decide (a0 ≤ 138) = true := decide_eq_true c35; clear c35; obtain rfl := Option.some.inj H; go_wp2; go_ret; exact ⟨es_, dr_⟩
 rw [if_neg c35] at H; have c35b0 : decide (a0 ≤ 138) = false := decide_eq_false c35; clear c35; by_cases c36 : a0 = 167
 ·rw [if_pos c36] at H; obtain ⟨c36b0, c36b1⟩ := eb c36; clear c36; obtain rfl := Option.some.inj H; go_wp2; go_ret; exact ⟨es_, dr_⟩
 rw [if_neg c36] at H; obtain ⟨c36b0, c36b1⟩ := nb c36; by_cases c37 : a0 = 172
 ·rw [if_pos c37] at H; obtain ⟨c37b0, c37b1⟩ := eb c37; clear c37; obtain rfl := Option.some.inj H; go_wp2; go_ret; exact ⟨es_, dr_⟩
 rw [if_neg c37] at H; obtain ⟨c37b0, c37b1⟩ := nb c37; by_cases c38 : a0 = 173
 ·rw [if_pos c38] at H; obtain ⟨c38b0, c38b1⟩ := eb c38; clear c38; obtain rfl := Option.some.inj H; go_wp2; go_ret; exact ⟨es_, dr_⟩
 rw [if_neg c38] at H; obtain ⟨c38b0, c38b1⟩ := nb c38; obtain rfl := Option.some.inj H; go_wp2; go_ret; exact ⟨es_, dr_⟩
end Go.Proofs.Ytlahigmoljflkaa.PAll
