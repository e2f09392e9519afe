/- Printed by a copy of the printer that was turned for this claim: functions as plain Lean functions, with proofs that their calls come to these; or words that such proofs use. -/
import Derived.Test.YtlahigmoljflkaaPAllx0
import Derived.Test.YtlahigmoljflkaaPAllx1
import Derived.Test.YtlahigmoljflkaaPAllx2
import Derived.Test.YtlahigmoljflkaaPAllx3
import Derived.Test.YtlahigmoljflkaaPAllx4
namespace Go.Proofs.Ytlahigmoljflkaa.PAll
open Go.RowKit Go.Proofs.YtlahigmoljflkaaW.PrintWords Go.Proofs.YtlahigmoljflkaaW.PrintLast Go.Proofs.YtlahigmoljflkaaW.PrintMore
attribute [local go_sem] max2_int min2_int max_two min_two max_three min_three max_four min_four   -- for this text's walks alone
set_option linter.unusedVariables false
set_option linter.unusedSimpArgs false

abbrev code_place_signed.t : Bool := true
abbrev code_place_signed.f_ : Bool := false
def code_place_signed.bb0_ : Array Bool := #[t, t, t, t, t, t, t, t, t, t, t, t, t, t, t, t, t, t]
def code_place_signed.bb1_ : Array Bool := #[t, t, t, t, t, t, t, t, t, t, t, t, t, t, t, t, t, f_]
def code_place_signed.bb2_ : Array Bool := #[t, t, t, t, t, t, t, t, t, t, t, t, t, t, t, t, f_, f_]
def code_place_signed.bb3_ : Array Bool := #[t, t, t, t, t, t, t, t, t, t, t, t, t, t, t, f_, f_, f_]
def code_place_signed.bb4_ : Array Bool := #[t, t, t, t, t, t, t, t, t, t, t, t, t, t, f_, f_, f_, f_]
def code_place_signed.bb5_ : Array Bool := #[t, t, t, t, t, t, t, t, t, t, t, t, t, f_, f_, f_, f_, f_]
def code_place_signed.bb6_ : Array Bool := #[t, t, t, t, t, t, t, t, t, t, t, t, f_, f_, f_, f_, f_, f_]
def code_place_signed.bb7_ : Array Bool := #[t, t, t, t, t, t, t, t, t, t, t, f_, f_, f_, f_, f_, f_, f_]
def code_place_signed.bb8_ : Array Bool := #[t, t, t, t, t, t, t, t, t, t, f_, f_, f_, f_, f_, f_, f_, f_]
def code_place_signed.bb9_ : Array Bool := #[t, t, t, t, t, t, t, t, f_, t, f_, f_, f_, f_, f_, f_, f_, f_]
def code_place_signed.bb10_ : Array Bool := #[t, t, t, t, t, t, t, f_, f_, t, f_, f_, f_, f_, f_, f_, f_, f_]
def code_place_signed.bb11_ : Array Bool := #[t, t, t, f_, t, t, t, f_, f_, t, f_, f_, f_, f_, f_, f_, f_, f_]
def code_place_signed.bb12_ : Array Bool := #[t, t, t, f_, t, t, t, f_, f_, f_, f_, f_, f_, f_, f_, f_, f_, f_]
def code_place_signed.bb13_ : Array Bool := #[t, t, t, f_, t, t, f_, f_, f_, f_, f_, f_, f_, f_, f_, f_, f_, f_]
def code_place_signed.bb14_ : Array Bool := #[t, t, t, f_, t, f_, f_, f_, f_, f_, f_, f_, f_, f_, f_, f_, f_, f_]
def code_place_signed.bb15_ : Array Bool := #[t, t, t, f_, f_, f_, f_, f_, f_, f_, f_, f_, f_, f_, f_, f_, f_, f_]
def code_place_signed.bb16_ : Array Bool := #[t, t, f_, f_, f_, f_, f_, f_, f_, f_, f_, f_, f_, f_, f_, f_, f_, f_]
def code_place_signed.bb17_ : Array Bool := #[t, f_, f_, f_, f_, f_, f_, f_, f_, f_, f_, f_, f_, f_, f_, f_, f_, f_]
def code_place_signed.bb18_ : Array Bool := #[f_, f_, f_, f_, f_, f_, f_, f_, f_, f_, f_, f_, f_, f_, f_, f_, f_, f_]
theorem code_place_signed.e1 {α : Type _} (xs : List α) (i : Nat) (a : α) : xs.toArray.setIfInBounds i a = (xs.set i a).toArray := by simp
theorem code_place_signed.e2 {α : Type _} (x a : α) (xs : List α) : (x :: xs).set 0 a = a :: xs := rfl
theorem code_place_signed.e3 {α : Type _} (x a : α) (xs : List α) (n : Nat) : (x :: xs).set (n + 1) a = x :: xs.set n a := rfl
def code_place_signed.f (k : Nat) (s0_0 : List Int) (s0_1 : Int) (s0_2 : Bool) (a1 : Int) : Option (Int × Int × Bool) := if s0_2 = true then (some (0, s0_1, s0_2)) else (if 0 ≤ s0_1 then (if s0_1 ≤ (s0_0.length : Int) then ((leb_Sint.f k (s0_0.drop (s0_1 : Int).toNat) a1).bind fun bt154 => (some (bt154.1, wrap64 (s0_1 + bt154.2.1), (bt154.2.2 != 0)))) else (none)) else (none))
theorem code_place_signed.mono : ∀ a0 a1 a2 a3 k, LeO (code_place_signed.f k a0 a1 a2 a3) (code_place_signed.f (k + 1) a0 a1 a2 a3) := by
 intro a0 a1 a2 a3 k
 unfold code_place_signed.f
 repeat' first
   | (with_reducible exact leb_Sint.mono _ _ _)
   | (with_reducible exact LeO.refl _)
   | (with_reducible exact LeO.none _)
   | (with_reducible refine LeO.ite ?_ ?_)
   | (with_reducible refine LeO.bind ?_ (fun _ => ?_))
   | exact leb_Sint.mono _ _ _
   | exact LeO.none _
   | refine LeO.ite ?_ ?_
   | refine LeO.bind ?_ (fun _ => ?_)
def code_place_signed.T3 : Bool × List (List Nat × List Nat) := (true, [([], []), ([0], [0]), ([1], [1]), ([2], [2]), ([], []), ([4], [4]), ([5], [5]), ([6], [6]), ([3, 7], [3, 7]), ([], []), ([8, 9], [8, 9]), ([10], [10]), ([11], [11]), ([11], [11]), ([11], [11]), ([12, 10, 0, 1, 2, 3, 4, 5, 6, 7, 8, 9, 10, 11, 12], [12]), ([13, 15, 0, 1, 2, 3, 4, 5, 6, 7, 8, 9, 10, 11, 12, 13, 15], [13]), ([14, 16, 0, 1, 2, 3, 4, 5, 6, 7, 8, 9, 10, 11, 12, 13, 14, 15, 16], [14])])
def code_place_signed.B3 : List Nat := [0, 1, 3, 7, 0, 16, 48, 112, 255, 0, 1023, 2047, 4095, 4095, 4095, 8191, 49151, 131071]
theorem code_place_signed.tab3 : rtab .any (opsOf Try.f53 3) = code_place_signed.T3 := by kernel_rfl
theorem code_place_signed.bits3 : waitsOk code_place_signed.T3.2 code_place_signed.B3 = true := by kernel_rfl
theorem code_place_signed.am_ {p : Prop} (h : p) : Aside0 p := Aside0.mk h
theorem code_place_signed.bm_ {α β : Type _} {o : Option α} {f : α → Option β} {b : β} (h : o.bind f = some b) : ∃ a, o = some a ∧ f a = some b := Option.bind_eq_some_iff.mp h
set_option maxHeartbeats 8000000 in
set_option maxRecDepth 100000 in
theorem code_place_signed.calls (k : Nat) (g : Nat) (s0_0 : List Int) (s0_1 : Int) (s0_2 : Bool) (a1 : Int) (r1 : Int) (r2 : Int) (r3 : Bool) (w0 w : World) (hI : IsS53 w0 w g s0_0 s0_1 s0_2) (hB : Below w0.heap.size w0 w) (h : code_place_signed.f k s0_0 s0_1 s0_2 a1 = some (r1, r2, r3)) :
  Calls Try.prog 53 #[.pointer (some ⟨g, 0, none⟩), .int .i64 a1] w fun e w' => e = .returned (.int .i64 r1) ∧ IsS53 w0 w' g s0_0 r2 r3 ∧ Below w0.heap.size w0 w' ∧ KeepBut w w' g none := by
 have HI0 := am_ hI
 have HK := am_ (KeepBut.refl w g none)
 have HL := am_ hB.size
 clear hI
 have HW0 := am_ hB.size
 have HB := am_ hB
 clear hB
 have H : (if s0_2 = true then (some (0, s0_1, s0_2)) else (if 0 ≤ s0_1 then (if s0_1 ≤ (s0_0.length : Int) then ((leb_Sint.f k (s0_0.drop (s0_1 : Int).toNat) a1).bind fun bt154 => (some (bt154.1, wrap64 (s0_1 + bt154.2.1), (bt154.2.2 != 0)))) else (none)) else (none))) = some (r1, r2, r3) := h
 clear h
 by_cases c3 : s0_2 = true
 ·subst c3
  have H1 : (some (0, s0_1, true)) = some (r1, r2, r3) := by rw [if_pos rfl] at H; exact H
  clear H
  have H := H1
  clear H1
  simp only [Option.some.injEq, Prod.mk.injEq] at H
  obtain ⟨rfl, rfl, rfl⟩ := H
  obtain ⟨ASz4_0, cSz4_0, HGz4, hgz4, HSz4_0⟩ := HI0.out
  have hcz4_0 := cellS53_0 HGz4
  have hcz4_1 := cellS53_1 HGz4
  have hcz4_2 := cellS53_2 HGz4
  have hfz4_1 := blk_frozen HGz4 1
  have hfz4_2 := blk_frozen HGz4 2
  clear HGz4 hgz4
  go_enter Try.func53, Try.ntmps53
  go_wp2
  go_ret
  exact ⟨by first | rfl | (simp [errW_none, errW_some] <;> rfl) | (simp [*, errW_none, errW_some] <;> rfl), by repeat (first | (with_reducible first | exact HI0.out | apply IsS53.alloc | apply IsS53.drewN | apply IsS53.drew | apply IsS53.set_1 | apply IsS53.set_2) | exact HI0.out), by repeat (first | (with_reducible first | exact HB.out | apply below_alloc | apply pw_below_drewN | apply below_drew1 | refine below_set ?_ (IsS53.ge HI0.out)) | exact HB.out), by repeat (first | (with_reducible first | exact HK.out | apply KeepBut.set_ | apply keep_drewN | apply keep_drew | apply keep_alloc) | exact HK.out)⟩
 replace c3 := Bool.eq_false_iff.mpr c3
 subst c3
 have H1 : (if 0 ≤ s0_1 then (if s0_1 ≤ (s0_0.length : Int) then ((leb_Sint.f k (s0_0.drop (s0_1 : Int).toNat) a1).bind fun bt154 => (some (bt154.1, wrap64 (s0_1 + bt154.2.1), (bt154.2.2 != 0)))) else (none)) else (none)) = some (r1, r2, r3) := by rw [if_neg (show ¬ (false = true) by decide)] at H; exact H
 clear H
 have H := H1
 clear H1
 by_cases c5 : 0 ≤ s0_1
 rotate_left
 ·rw [if_neg c5] at H
  exact absurd H (by simp)
 rw [if_pos c5] at H
 have c5b0 := eq_true c5
 have c5b1 : decide (0 ≤ s0_1) = true := decide_eq_true c5
 clear c5
 by_cases c6 : s0_1 ≤ (s0_0.length : Int)
 rotate_left
 ·rw [if_neg c6] at H
  exact absurd H (by simp)
 rw [if_pos c6] at H
 have c6b0 := eq_true c6
 have c6b1 : decide (s0_1 ≤ (s0_0.length : Int)) = true := decide_eq_true c6
 clear c6
 obtain ⟨y150, hy150⟩ : ∃ y_ : List Int, y_ = (s0_0.drop (s0_1 : Int).toNat) := ⟨_, rfl⟩
 replace H : ((leb_Sint.f k y150 a1).bind fun bt154 => (some (bt154.1, wrap64 (s0_1 + bt154.2.1), (bt154.2.2 != 0)))) = some (r1, r2, r3) := by first | (rw [hy150]; with_reducible exact H) | (have H2_ := (Option.bind_some _ _).symm.trans H; rw [hy150]; with_reducible exact H2_) | (have H2_ := (Option.bind_some _ _).symm.trans H; with_reducible exact H2_) | with_reducible exact H | (rw [hy150]; exact H) | exact H
 have Ny150 := am_ hy150
 clear hy150
 replace H := bm_ H
 obtain ⟨⟨t154, t155, t156⟩, A70, H⟩ := H
 replace H : (some (t154, wrap64 (s0_1 + t155), (t156 != 0))) = some (r1, r2, r3) := H
 have A7 := am_ A70
 clear A70
 simp only [Option.some.injEq, Prod.mk.injEq] at H
 obtain ⟨rfl, rfl, rfl⟩ := H
 obtain ⟨ASz8_0, cSz8_0, HGz8, hgz8, HSz8_0⟩ := HI0.out
 have hcz8_0 := cellS53_0 HGz8
 have hcz8_1 := cellS53_1 HGz8
 have hcz8_2 := cellS53_2 HGz8
 have hfz8_1 := blk_frozen HGz8 1
 have hfz8_2 := blk_frozen HGz8 2
 clear HGz8 hgz8
 go_enter Try.func53, Try.ntmps53
 try go_wp2
 have n0_ := am_ (IsS53.drew HI0.out)
 have n1_ := am_ (keep_drew HK.out)
 have n2_ := am_ (below_drew1 HB.out)
 clear HI0
 clear HK
 clear HB
 have HI0 := n0_
 have HK := n1_
 have HB := n2_
 clear n0_ n1_ n2_
 obtain ⟨ASz10_0, cSz10_0, HGz10, hgz10, HSz10_0⟩ := HI0.out
 have q11 : (s0_1 : Int) ≤ ((s0_0.length : Int) : Int) := of_decide_eq_true (by first | (with_reducible assumption) | assumption)
 obtain ⟨i011, hi011, _, hsz11, _⟩ := info_parts info5
 have hroom11 : s0_0.length ≤ cSz10_0 := HSz10_0.1
 have hC11 : Kd.C (Kd.int .u8) _ ASz10_0 s0_0.length s0_0 := (Kd.C_below HSz10_0.2 HB.out)
 have q011 : (0 : Int) ≤ (s0_1 : Int) := of_decide_eq_true (by first | (with_reducible assumption) | assumption)
 have hcut11 := cut_from (P := Try.prog) 24 5 .i64 Try.underlying24 hi011 1 hsz11 ASz10_0 s0_0.length cSz10_0 s0_1 q011 q11
 have hr11 := Kd.C_drop (m := (s0_1 : Int).toNat) (c := cSz10_0) hC11 (by omega) hroom11
 obtain ⟨A11, hA11⟩ : ∃ A1, A1 = (if cSz10_0 = (s0_1 : Int).toNat then ASz10_0 else (ASz10_0 : Option Addr).map (·.add ((s0_1 : Int).toNat * 1))) := ⟨_, rfl⟩
 obtain ⟨c11, hc11⟩ : ∃ c1, c1 = cSz10_0 - (s0_1 : Int).toNat := ⟨_, rfl⟩
 have hy11 : y150.length = s0_0.length - (s0_1 : Int).toNat := (by rw [Ny150.out, List.length_drop] <;> omega)
 rw [show (s0_0).drop (s0_1 : Int).toNat = y150 from Ny150.out.symm] at hr11
 replace hr11 : Kd.C (Kd.int .u8) _ A11 y150.length y150 := (by rw [hA11]; exact hr11)
 rw [← hy11, ← hA11, ← hc11] at hcut11
 have HR153 := am_ hr11
 have HC153 := am_ (show y150.length ≤ c11 from by rw [hy11, hc11]; exact Nat.sub_le_sub_right hroom11 _)
 clear hr11 hC11 hroom11 hi011 hsz11 hc11
 have KY11 := am_ hy11
 have KA11 := am_ hA11
 clear hy11 hA11
 replace q11 := eq_true q11
 refine start_ (n := 18) (S := fun w' => w'.cell? ⟨g, 0, none⟩ = some (.slice ASz10_0 s0_0.length cSz10_0) ∧ w'.cell? ⟨g, 1, none⟩ = some (.int .i64 s0_1)) (ds := []) bb18_ (by kernel_rfl) rfl rfl ⟨(blk_cell HGz10 0).trans rfl, (blk_cell HGz10 1).trans rfl⟩ (fun hHeld => ?_); refine with_tabW code_place_signed.tab3 code_place_signed.bits3 (fun HT_ HW_ => ?_)
 generalize w.drew = w9 at HI0 HK HB HR153 hHeld ⊢
 refine pure_ (i := 0) (N := some 13) (v := ?_) (a' := ?_) bb17_ rfl rfl (any_of HT_.out (by kernel_rfl)) (fun _ _ _ h => h) (Or.inl ⟨by rfl, ?_⟩) ?_ ?_
 rotate_left; · intro w'; go_simp; with_reducible rfl
 rotate_left; · simp only [Act.put, e1, e2, e3, i64_w, i32_w]; rfl
 refine pure_ (i := 1) (N := some 14) (v := ?_) (a' := ?_) bb16_ rfl rfl (any_of HT_.out (by kernel_rfl)) (fun _ _ _ h => h) (Or.inl ⟨by rfl, ?_⟩) ?_ ?_
 rotate_left; · intro w'; go_simp; with_reducible rfl
 rotate_left; · simp only [Act.put, e1, e2, e3, i64_w, i32_w]; rfl
 refine pure_ (i := 2) (N := some 15) (v := ?_) (a' := ?_) bb15_ rfl rfl (any_of HT_.out (by kernel_rfl)) (fun _ _ _ h => h) (Or.inl ⟨by rfl, ?_⟩) ?_ ?_
 rotate_left; · intro w'; go_simp; with_reducible rfl
 rotate_left; · simp only [Act.put, e1, e2, e3, i64_w, i32_w]; rfl
 refine pure_ (i := 4) (N := some 17) (v := ?_) (a' := ?_) bb14_ rfl rfl (any_of HT_.out (by kernel_rfl)) (fun _ _ _ h => h) (Or.inl ⟨by rfl, ?_⟩) ?_ ?_
 rotate_left; · intro w'; go_simp; with_reducible rfl
 rotate_left; · simp only [Act.put, e1, e2, e3, i64_w, i32_w]; rfl
 refine pure_ (i := 5) (N := some 18) (v := ?_) (a' := ?_) bb13_ rfl rfl (any_of HT_.out (by kernel_rfl)) (fun _ _ _ h => h) (Or.inl ⟨by rfl, ?_⟩) ?_ ?_
 rotate_left; · intro w'; go_simp; with_reducible rfl
 rotate_left; · simp only [Act.put, e1, e2, e3, i64_w, i32_w]; rfl
 refine pure_ (i := 6) (N := some 19) (v := ?_) (a' := ?_) bb12_ rfl rfl (any_of HT_.out (by kernel_rfl)) (fun _ _ _ h => h) (Or.inl ⟨by rfl, ?_⟩) ?_ ?_
 rotate_left; · intro w'; go_simp; with_reducible rfl
 rotate_left; · simp only [Act.put, e1, e2, e3, i64_w, i32_w]; rfl
 refine pure_ (i := 9) (N := some 22) (v := ?_) (a' := ?_) bb11_ rfl rfl (any_of HT_.out (by kernel_rfl)) (fun _ _ _ h => h) (Or.inl ⟨by rfl, ?_⟩) ?_ ?_
 rotate_left; · intro w'; go_simp; with_reducible rfl
 rotate_left; · simp only [Act.put, e1, e2, e3, i64_w, i32_w]; rfl
 refine take_ (i := 3) (N := some 16) (v := ?_) (a' := ?_) bb10_ rfl rfl (take_ofW HT_.out HW_.out (by kernel_rfl)) (fun _ _ _ h => h) (Or.inl ⟨by rfl, ?_⟩) hHeld ?_ ?_
 rotate_left; · rintro w' ⟨s0, s1⟩; go_simp; with_reducible rfl
 rotate_left; · simp only [Act.put, e1, e2, e3, i64_w, i32_w]; rfl
 refine take_ (i := 7) (N := some 20) (v := ?_) (a' := ?_) bb9_ rfl rfl (take_ofW HT_.out HW_.out (by kernel_rfl)) (fun _ _ _ h => h) (Or.inl ⟨by rfl, ?_⟩) hHeld ?_ ?_
 rotate_left; · rintro w' ⟨s0, s1⟩; go_simp; with_reducible rfl
 rotate_left; · simp only [Act.put, e1, e2, e3, i64_w, i32_w]; rfl
 refine pure_ (i := 8) (N := some 21) (v := ?_) (a' := ?_) bb8_ rfl rfl (any_of HT_.out (by kernel_rfl)) (fun _ _ _ h => h) (Or.inl ⟨by rfl, ?_⟩) ?_ ?_
 rotate_left; · intro w'; go_simp; with_reducible rfl
 rotate_left; · simp only [Act.put, e1, e2, e3, i64_w, i32_w]; rfl
 refine one_ (i := 10) (N := some 23) bb7_ rfl rfl (one_of HT_.out (by kernel_rfl)) (by decide) (fun K hK => ?_)
 refine goes_ Try.func65 (by kernel_rfl) rfl #[.slice A11 y150.length c11, .int .i64 a1] (by rfl) rfl rfl (by (try simp only [List.map_toArray, List.map_cons, List.map_nil]); first | done | rfl | (simp only [List.length_drop, List.length_take]; rfl)) ?_
 with_reducible refine (leb_Sint.calls k _ _ y150 a1 t154 t155 t156 _ ?side1 ?side2 A7.out).mono ?_
 (case side1 => repeat (first | exact (by repeat (first | (with_reducible exact HR153.out) | (with_reducible refine Kd.C_alloc ?_ _) | (with_reducible refine Kd.C_drewN ?_ _) | (with_reducible refine Kd.C_drew ?_) | exact HR153.out)) | (with_reducible refine Kd.C_alloc ?_ _) | (with_reducible refine Kd.C_drewN ?_ _) | (with_reducible refine Kd.C_drew ?_)))
 (case side2 => exact HC153.out)
 rintro e w12 ⟨rfl, hb⟩
 have HS0_ := (hb.cell (World.block_lt_of_cell? _ _ (hHeld.1))).trans (hHeld.1)
 have HS1_ := (hb.cell (World.block_lt_of_cell? _ _ (hHeld.2))).trans (hHeld.2)
 refine ⟨_, rfl, ?_⟩
 have n0_ := am_ (IsS53.below (by repeat (first | (with_reducible first | exact HI0.out | apply IsS53.alloc | apply IsS53.drewN | apply IsS53.drew | apply IsS53.set_1 | apply IsS53.set_2) | exact HI0.out)) hb)
 have n1_ := am_ (Kd.C_below (by repeat (first | (with_reducible exact HR153.out) | (with_reducible refine Kd.C_alloc ?_ _) | (with_reducible refine Kd.C_drewN ?_ _) | (with_reducible refine Kd.C_drew ?_) | exact HR153.out)) hb)
 have n2_ := am_ (KeepBut.trans (by repeat (first | (with_reducible first | exact HK.out | apply KeepBut.set_ | apply keep_drewN | apply keep_drew | apply keep_alloc) | exact HK.out)) (KeepBut.of_below hb g none) (.inl rfl))
 have n3_ := am_ (below_step (by repeat (first | (with_reducible first | exact HB.out | apply below_alloc | apply pw_below_drewN | apply below_drew1 | refine below_set ?_ (IsS53.ge HI0.out)) | exact HB.out)) hb)
 clear HI0
 clear HR153
 clear HK
 clear HB
 have HI0 := n0_
 have HR153 := n1_
 have HK := n2_
 have HB := n3_
 clear n0_ n1_ n2_ n3_
 refine hK.out _ _ ⟨HS0_, HS1_⟩ (fun hHeld => ?_)
 clear hK K
 refine norm_ (a' := ?_) ?_ ?_
 rotate_left
 ·show Act.put _ (some 23) _ = _
  simp only [Act.put, e1, e2, e3, i64_w, i32_w]
  rfl
 refine pure_ (i := 11) (N := some 12) (v := ?_) (a' := ?_) bb6_ rfl rfl (any_of HT_.out (by kernel_rfl)) (fun _ _ _ h => h) (Or.inl ⟨by rfl, ?_⟩) ?_ ?_
 rotate_left; · intro w'; go_simp; with_reducible rfl
 rotate_left; · simp only [Act.put, e1, e2, e3, i64_w, i32_w]; rfl
 refine pure_ (i := 12) (N := some 24) (v := ?_) (a' := ?_) bb5_ rfl rfl (any_of HT_.out (by kernel_rfl)) (fun _ _ _ h => h) (Or.inl ⟨by rfl, ?_⟩) ?_ ?_
 rotate_left; · intro w'; go_simp; with_reducible rfl
 rotate_left; · simp only [Act.put, e1, e2, e3, i64_w, i32_w]; rfl
 refine pure_ (i := 13) (N := some 25) (v := ?_) (a' := ?_) bb4_ rfl rfl (any_of HT_.out (by kernel_rfl)) (fun _ _ _ h => h) (Or.inl ⟨by rfl, ?_⟩) ?_ ?_
 rotate_left; · intro w'; go_simp; with_reducible rfl
 rotate_left; · simp only [Act.put, e1, e2, e3, i64_w, i32_w]; rfl
 refine pure_ (i := 14) (N := some 26) (v := ?_) (a' := ?_) bb3_ rfl rfl (any_of HT_.out (by kernel_rfl)) (fun _ _ _ h => h) (Or.inl ⟨by rfl, ?_⟩) ?_ ?_
 rotate_left; · intro w'; go_simp; with_reducible rfl
 rotate_left; · simp only [Act.put, e1, e2, e3, i64_w, i32_w]; rfl
 refine pure_ (i := 15) (N := some 5) (v := ?_) (a' := ?_) bb2_ rfl rfl (any_of HT_.out (by kernel_rfl)) (fun _ _ _ h => h) (Or.inl ⟨by rfl, ?_⟩) ?_ ?_
 rotate_left; · intro w'; go_simp; with_reducible rfl
 rotate_left; · simp only [Act.put, e1, e2, e3, i64_w, i32_w]; rfl
 refine pure_ (i := 16) (N := some 6) (v := ?_) (a' := ?_) bb1_ rfl rfl (any_of HT_.out (by kernel_rfl)) (fun _ _ _ h => h) (Or.inl ⟨by rfl, ?_⟩) ?_ ?_
 rotate_left; · intro w'; go_simp; with_reducible rfl
 rotate_left; · simp only [Act.put, e1, e2, e3, i64_w, i32_w]; rfl
 refine pure_ (i := 17) (N := some 7) (v := ?_) (a' := ?_) bb0_ rfl rfl (any_of HT_.out (by kernel_rfl)) (fun _ _ _ h => h) (Or.inl ⟨by rfl, ?_⟩) ?_ ?_
 rotate_left; · intro w'; go_simp; with_reducible rfl
 rotate_left; · simp only [Act.put, e1, e2, e3, i64_w, i32_w]; rfl
 refine done_ (done_of HT_.out (by kernel_rfl)) ?_
 obtain ⟨ASz13_0, cSz13_0, HGz13, hgz13, HSz13_0⟩ := HI0.out
 have hcz13_0 := cellS53_0 HGz13
 have hcz13_1 := cellS53_1 HGz13
 have hcz13_2 := cellS53_2 HGz13
 have hfz13_1 := blk_frozen HGz13 1
 have hfz13_2 := blk_frozen HGz13 2
 clear HGz13 hgz13
 try go_wp2
 go_ret
 exact ⟨by first | rfl | (simp [errW_none, errW_some] <;> rfl) | (simp [*, errW_none, errW_some] <;> rfl), by repeat (first | (with_reducible first | exact HI0.out | apply IsS53.alloc | apply IsS53.drewN | apply IsS53.drew | apply IsS53.set_1 | apply IsS53.set_2) | exact HI0.out), by repeat (first | (with_reducible first | exact HB.out | apply below_alloc | apply pw_below_drewN | apply below_drew1 | refine below_set ?_ (IsS53.ge HI0.out)) | exact HB.out), by repeat (first | (with_reducible first | exact HK.out | apply KeepBut.set_ | apply keep_drewN | apply keep_drew | apply keep_alloc) | exact HK.out)⟩
abbrev code_place_list.t : Bool := true
theorem code_place_list.bc {w : World} {g : Nat} {cs : Array Value} {t : TypeId} (h : Aside0 (w.heap[g]? = some (.cells cs t (0, 0)))) (i : Nat) {v : Value} (e : cs[i]? = some v := by rfl) : w.cell? ⟨g, i, none⟩ = some v := (blk_cell h.out i).trans e
theorem code_place_list.e1 {α : Type _} (xs : List α) (i : Nat) (a : α) : xs.toArray.setIfInBounds i a = (xs.set i a).toArray := by simp
theorem code_place_list.e2 {α : Type _} (x a : α) (xs : List α) : (x :: xs).set 0 a = a :: xs := rfl
theorem code_place_list.e3 {α : Type _} (x a : α) (xs : List α) (n : Nat) : (x :: xs).set (n + 1) a = x :: xs.set n a := rfl
mutual
def code_place_list.q.j0 : Nat → Int → Int → Int → Bool → List Int → Int → Bool → Int → Int → Int → Int → Int → Int → Option (Int × Int × Int × Int × Int × Int × List Int × (List (S45)) × (List (S45)) × Int × Bool)
 | 0, _, _, _, _, _, _, _, _, _, _, _, _, _ => none
 | k + 1, x1, x2, x14, x20, x1000, x1001, x1002, x0z, x1z, x2z, x3z, x4z, x5z => if x20 = true then ((code_place_next.f x1000 x1001 x1002).bind fun bt159 => ((code_typ.f bt159.1).bind fun t162 => (if t162 = true then (code_place_list.q.j1 k x1 x2 (x2 == 40) x1000 bt159.2.1 bt159.2.2 x0z bt159.1 x2z x3z x4z x5z) else (code_place_list.q.j1 k x1 x2 true x1000 bt159.2.1 bt159.2.2 x0z bt159.1 x2z x3z x4z x5z)))) else (if x14 = 4 then ((code_place_number.f k x1000 x1001 x1002).bind fun bt175 => (some (x0z, x1z, bt175.1, x3z, x4z, x5z, ([] : List Int), ([] : List (S45)), ([] : List (S45)), bt175.2.1, bt175.2.2))) else (if x14 = 5 then ((code_place_labels.f k x1000 x1001 x1002).bind fun bt178 => ((code_place_number.f k x1000 bt178.2.1 bt178.2.2).bind fun bt183 => (some (x0z, x1z, bt183.1, x3z, x4z, x5z, bt178.1, ([] : List (S45)), ([] : List (S45)), bt183.2.1, bt183.2.2)))) else (if x14 = 6 then ((code_place_number.f k x1000 x1001 x1002).bind fun bt186 => ((code_place_nought.f x1000 bt186.2.1 bt186.2.2).bind fun bt189 => (some (x0z, x1z, bt186.1, x3z, x4z, x5z, ([] : List Int), ([] : List (S45)), ([] : List (S45)), bt189.1, bt189.2)))) else (if x14 = 7 then ((code_place_number.f k x1000 x1001 x1002).bind fun bt191 => ((code_place_number.f k x1000 bt191.2.1 bt191.2.2).bind fun bt194 => (some (x0z, x1z, x2z, bt191.1, bt194.1, x5z, ([] : List Int), ([] : List (S45)), ([] : List (S45)), bt194.2.1, bt194.2.2)))) else (if x14 = 8 then ((code_place_nought.f x1000 x1001 x1002).bind fun bt197 => (some (x0z, x1z, x2z, x3z, x4z, x5z, ([] : List Int), ([] : List (S45)), ([] : List (S45)), bt197.1, bt197.2))) else (if x14 = 9 then ((code_place_signed.f k x1000 x1001 x1002 32).bind fun bt199 => (some (x0z, x1z, x2z, x3z, x4z, bt199.1, ([] : List Int), ([] : List (S45)), ([] : List (S45)), bt199.2.1, bt199.2.2))) else (if x14 = 10 then ((code_place_signed.f k x1000 x1001 x1002 64).bind fun bt202 => (some (x0z, x1z, x2z, x3z, x4z, bt202.1, ([] : List Int), ([] : List (S45)), ([] : List (S45)), bt202.2.1, bt202.2.2))) else (some (x0z, x1z, x2z, x3z, x4z, x5z, ([] : List Int), ([] : List (S45)), ([] : List (S45)), x1001, true)))))))))
def code_place_list.q.j1 : Nat → Int → Int → Bool → List Int → Int → Bool → Int → Int → Int → Int → Int → Int → Option (Int × Int × Int × Int × Int × Int × List Int × (List (S45)) × (List (S45)) × Int × Bool)
 | 0, _, _, _, _, _, _, _, _, _, _, _, _ => none
 | k + 1, x1, x2, x33, x1000, x1001, x1002, x0z, x1z, x2z, x3z, x4z, x5z => if x33 = true then (some (x0z, x1z, x2z, x3z, x4z, x5z, ([] : List Int), ([] : List (S45)), ([] : List (S45)), x1001, true)) else ((code_place_list.f k x1000 x1001 x1002 (wrap64 (x2 + 1))).bind fun bt163 => (if bt163.2.1 = 5 then (if x1 = 4 then ((code_place_list.f k x1000 bt163.2.2.1 bt163.2.2.2 (wrap64 (x2 + 1))).bind fun bt169 => (if bt169.2.2.2 = true then (some (x0z, x1z, x2z, x3z, x4z, x5z, ([] : List Int), bt163.1, bt169.1, bt169.2.2.1, true)) else (some (x0z, x1z, x2z, x3z, x4z, x5z, ([] : List Int), bt163.1, bt169.1, bt169.2.2.1, (bt169.2.1 != 11))))) else (if bt163.2.2.2 = true then (some (x0z, x1z, x2z, x3z, x4z, x5z, ([] : List Int), bt163.1, ([] : List (S45)), bt163.2.2.1, true)) else (some (x0z, x1z, x2z, x3z, x4z, x5z, ([] : List Int), bt163.1, ([] : List (S45)), bt163.2.2.1, (bt163.2.1 != 11))))) else (if bt163.2.2.2 = true then (some (x0z, x1z, x2z, x3z, x4z, x5z, ([] : List Int), bt163.1, ([] : List (S45)), bt163.2.2.1, true)) else (some (x0z, x1z, x2z, x3z, x4z, x5z, ([] : List Int), bt163.1, ([] : List (S45)), bt163.2.2.1, (bt163.2.1 != 11))))))
def code_place_list.q.f : Nat → List Int → Int → Bool → Int → Int → Option (Int × Int × Int × Int × Int × Int × List Int × (List (S45)) × (List (S45)) × Int × Bool)
 | 0, _, _, _, _, _ => none
 | k + 1, s0_0, s0_1, s0_2, a1, a2 => (code_shape.f k a1).bind fun t158 => (if t158 = 1 then (some (a1, 0, 0, 0, 0, 0, ([] : List Int), ([] : List (S45)), ([] : List (S45)), s0_1, s0_2)) else (if t158 = 2 then (code_place_list.q.j0 k a1 a2 t158 (t158 == 2) s0_0 s0_1 s0_2 a1 0 0 0 0 0) else (code_place_list.q.j0 k a1 a2 t158 (t158 == 3) s0_0 s0_1 s0_2 a1 0 0 0 0 0)))
def code_place_list.l0 : Nat → Int → List (S45) → List Int → Int → Bool → Option ((List (S45)) × Int × Int × Bool)
 | 0, _, _, _, _, _ => none
 | k + 1, x1, x4, x1000, x1001, x1002 => (code_place_next.f x1000 x1001 x1002).bind fun bt205 => (if bt205.2.2 = true then (some (x4, bt205.1, bt205.2.1, bt205.2.2)) else (if bt205.1 = 11 then (some (x4, bt205.1, bt205.2.1, bt205.2.2)) else (if bt205.1 = 5 then (some (x4, bt205.1, bt205.2.1, bt205.2.2)) else ((code_place_list.q.f k x1000 bt205.2.1 bt205.2.2 bt205.1 x1).bind fun bt208 => (if x4.length < 1172812402961 then (code_place_list.l0 k x1 (x4 ++ [(⟨bt208.1, bt208.2.1, bt208.2.2.1, bt208.2.2.2.1, bt208.2.2.2.2.1, bt208.2.2.2.2.2.1, bt208.2.2.2.2.2.2.1, bt208.2.2.2.2.2.2.2.1, bt208.2.2.2.2.2.2.2.2.1⟩ : S45)]) x1000 bt208.2.2.2.2.2.2.2.2.2.1 bt208.2.2.2.2.2.2.2.2.2.2) else (none))))))
def code_place_list.f : Nat → List Int → Int → Bool → Int → Option ((List (S45)) × Int × Int × Bool)
 | 0, _, _, _, _ => none
 | k + 1, s0_0, s0_1, s0_2, a1 => code_place_list.l0 k a1 ([] : List (S45)) s0_0 s0_1 s0_2
end
theorem code_place_list.mono_l : ∀ k, (∀ y0 y1 y2 y3, LeO (code_place_list.f k y0 y1 y2 y3) (code_place_list.f (k + 1) y0 y1 y2 y3)) ∧ (∀ y0 y1 y2 y3 y4, LeO (code_place_list.l0 k y0 y1 y2 y3 y4) (code_place_list.l0 (k + 1) y0 y1 y2 y3 y4)) ∧ (∀ y0 y1 y2 y3 y4, LeO (code_place_list.q.f k y0 y1 y2 y3 y4) (code_place_list.q.f (k + 1) y0 y1 y2 y3 y4)) ∧ (∀ y0 y1 y2 y3 y4 y5 y6 y7 y8 y9 y10 y11 y12, LeO (code_place_list.q.j0 k y0 y1 y2 y3 y4 y5 y6 y7 y8 y9 y10 y11 y12) (code_place_list.q.j0 (k + 1) y0 y1 y2 y3 y4 y5 y6 y7 y8 y9 y10 y11 y12)) ∧ (∀ y0 y1 y2 y3 y4 y5 y6 y7 y8 y9 y10 y11, LeO (code_place_list.q.j1 k y0 y1 y2 y3 y4 y5 y6 y7 y8 y9 y10 y11) (code_place_list.q.j1 (k + 1) y0 y1 y2 y3 y4 y5 y6 y7 y8 y9 y10 y11))
 | 0 => ⟨fun _ _ _ _ r h => by simp [code_place_list.f] at h, fun _ _ _ _ _ r h => by simp [code_place_list.l0] at h, fun _ _ _ _ _ r h => by simp [code_place_list.q.f] at h, fun _ _ _ _ _ _ _ _ _ _ _ _ _ r h => by simp [code_place_list.q.j0] at h, fun _ _ _ _ _ _ _ _ _ _ _ _ r h => by simp [code_place_list.q.j1] at h⟩
 | k + 1 => by
  obtain ⟨ih0, ih1, ih2, ih3, ih4⟩ := code_place_list.mono_l k
  refine ⟨?_, ?_, ?_, ?_, ?_⟩
  ·intro y0 y1 y2 y3
   unfold code_place_list.f
   repeat' first
   | (with_reducible apply ih0)
   | (with_reducible apply ih1)
   | (with_reducible apply ih2)
   | (with_reducible apply ih3)
   | (with_reducible apply ih4)
   | (with_reducible exact code_place_labels.mono _ _ _ _)
   | (with_reducible exact code_place_number.mono _ _ _ _)
   | (with_reducible exact code_place_signed.mono _ _ _ _ _)
   | (with_reducible exact code_shape.mono _ _)
   | (with_reducible exact LeO.refl _)
   | (with_reducible exact LeO.none _)
   | (with_reducible refine LeO.ite ?_ ?_)
   | (with_reducible refine LeO.bind ?_ (fun _ => ?_))
   | apply ih0
   | apply ih1
   | apply ih2
   | apply ih3
   | apply ih4
   | exact code_place_labels.mono _ _ _ _
   | exact code_place_number.mono _ _ _ _
   | exact code_place_signed.mono _ _ _ _ _
   | exact code_shape.mono _ _
   | exact LeO.none _
   | refine LeO.ite ?_ ?_
   | refine LeO.bind ?_ (fun _ => ?_)
  ·intro y0 y1 y2 y3 y4
   unfold code_place_list.l0
   repeat' first
   | (with_reducible apply ih0)
   | (with_reducible apply ih1)
   | (with_reducible apply ih2)
   | (with_reducible apply ih3)
   | (with_reducible apply ih4)
   | (with_reducible exact code_place_labels.mono _ _ _ _)
   | (with_reducible exact code_place_number.mono _ _ _ _)
   | (with_reducible exact code_place_signed.mono _ _ _ _ _)
   | (with_reducible exact code_shape.mono _ _)
   | (with_reducible exact LeO.refl _)
   | (with_reducible exact LeO.none _)
   | (with_reducible refine LeO.ite ?_ ?_)
   | (with_reducible refine LeO.bind ?_ (fun _ => ?_))
   | apply ih0
   | apply ih1
   | apply ih2
   | apply ih3
   | apply ih4
   | exact code_place_labels.mono _ _ _ _
   | exact code_place_number.mono _ _ _ _
   | exact code_place_signed.mono _ _ _ _ _
   | exact code_shape.mono _ _
   | exact LeO.none _
   | refine LeO.ite ?_ ?_
   | refine LeO.bind ?_ (fun _ => ?_)
  ·intro y0 y1 y2 y3 y4
   unfold code_place_list.q.f
   repeat' first
   | (with_reducible apply ih0)
   | (with_reducible apply ih1)
   | (with_reducible apply ih2)
   | (with_reducible apply ih3)
   | (with_reducible apply ih4)
   | (with_reducible exact code_place_labels.mono _ _ _ _)
   | (with_reducible exact code_place_number.mono _ _ _ _)
   | (with_reducible exact code_place_signed.mono _ _ _ _ _)
   | (with_reducible exact code_shape.mono _ _)
   | (with_reducible exact LeO.refl _)
   | (with_reducible exact LeO.none _)
   | (with_reducible refine LeO.ite ?_ ?_)
   | (with_reducible refine LeO.bind ?_ (fun _ => ?_))
   | apply ih0
   | apply ih1
   | apply ih2
   | apply ih3
   | apply ih4
   | exact code_place_labels.mono _ _ _ _
   | exact code_place_number.mono _ _ _ _
   | exact code_place_signed.mono _ _ _ _ _
   | exact code_shape.mono _ _
   | exact LeO.none _
   | refine LeO.ite ?_ ?_
   | refine LeO.bind ?_ (fun _ => ?_)
  ·intro y0 y1 y2 y3 y4 y5 y6 y7 y8 y9 y10 y11 y12
   unfold code_place_list.q.j0
   repeat' first
   | (with_reducible apply ih0)
   | (with_reducible apply ih1)
   | (with_reducible apply ih2)
   | (with_reducible apply ih3)
   | (with_reducible apply ih4)
   | (with_reducible exact code_place_labels.mono _ _ _ _)
   | (with_reducible exact code_place_number.mono _ _ _ _)
   | (with_reducible exact code_place_signed.mono _ _ _ _ _)
   | (with_reducible exact code_shape.mono _ _)
   | (with_reducible exact LeO.refl _)
   | (with_reducible exact LeO.none _)
   | (with_reducible refine LeO.ite ?_ ?_)
   | (with_reducible refine LeO.bind ?_ (fun _ => ?_))
   | apply ih0
   | apply ih1
   | apply ih2
   | apply ih3
   | apply ih4
   | exact code_place_labels.mono _ _ _ _
   | exact code_place_number.mono _ _ _ _
   | exact code_place_signed.mono _ _ _ _ _
   | exact code_shape.mono _ _
   | exact LeO.none _
   | refine LeO.ite ?_ ?_
   | refine LeO.bind ?_ (fun _ => ?_)
  ·intro y0 y1 y2 y3 y4 y5 y6 y7 y8 y9 y10 y11
   unfold code_place_list.q.j1
   repeat' first
   | (with_reducible apply ih0)
   | (with_reducible apply ih1)
   | (with_reducible apply ih2)
   | (with_reducible apply ih3)
   | (with_reducible apply ih4)
   | (with_reducible exact code_place_labels.mono _ _ _ _)
   | (with_reducible exact code_place_number.mono _ _ _ _)
   | (with_reducible exact code_place_signed.mono _ _ _ _ _)
   | (with_reducible exact code_shape.mono _ _)
   | (with_reducible exact LeO.refl _)
   | (with_reducible exact LeO.none _)
   | (with_reducible refine LeO.ite ?_ ?_)
   | (with_reducible refine LeO.bind ?_ (fun _ => ?_))
   | apply ih0
   | apply ih1
   | apply ih2
   | apply ih3
   | apply ih4
   | exact code_place_labels.mono _ _ _ _
   | exact code_place_number.mono _ _ _ _
   | exact code_place_signed.mono _ _ _ _ _
   | exact code_shape.mono _ _
   | exact LeO.none _
   | refine LeO.ite ?_ ?_
   | refine LeO.bind ?_ (fun _ => ?_)
theorem code_place_list.mono : ∀ a0 a1 a2 a3 k, LeO (code_place_list.f k a0 a1 a2 a3) (code_place_list.f (k + 1) a0 a1 a2 a3) := by
 intro a0 a1 a2 a3 k
 obtain ⟨ih0, ih1, ih2, ih3, ih4⟩ := code_place_list.mono_l k
 exact ih0 a0 a1 a2 a3
theorem code_place_list.q.mono : ∀ a0 a1 a2 a3 a4 k, LeO (code_place_list.q.f k a0 a1 a2 a3 a4) (code_place_list.q.f (k + 1) a0 a1 a2 a3 a4) := by
  intro a0 a1 a2 a3 a4 k
  obtain ⟨ih0, ih1, ih2, ih3, ih4⟩ := code_place_list.mono_l k
  exact ih2 a0 a1 a2 a3 a4

end Go.Proofs.Ytlahigmoljflkaa.PAll
