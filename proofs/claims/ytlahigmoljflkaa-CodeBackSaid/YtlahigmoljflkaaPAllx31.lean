import Derived.Test.YtlahigmoljflkaaPAllx0
import Derived.Test.YtlahigmoljflkaaPAllx1
import Derived.Test.YtlahigmoljflkaaPAllx7
import Derived.Test.YtlahigmoljflkaaPAllx12
import Derived.Test.YtlahigmoljflkaaPAllx13
import Derived.Test.YtlahigmoljflkaaPAllx14
import Derived.Test.YtlahigmoljflkaaPAllx15
import Derived.Test.YtlahigmoljflkaaPAllx18
import Derived.Test.YtlahigmoljflkaaPAllx25
namespace Go.Proofs.Ytlahigmoljflkaa.PAll
open Go.RowKit Go.Proofs.YtlahigmoljflkaaW.PrintWords Go.Proofs.YtlahigmoljflkaaW.PrintLast Go.Proofs.YtlahigmoljflkaaW.PrintMore
attribute [local go_sem] max2_int min2_int max_two min_two max_three min_three max_four min_four   -- for this text's walks alone
set_option linter.unusedVariables false
set_option linter.unusedSimpArgs false

theorem gangwaylaw5_CodeBack.eb {α : Type} [BEq α] [LawfulBEq α] {a b : α} (h : a = b) : (a == b) = true ∧ (a != b) = false := ⟨beq_iff_eq.mpr h, bne_eq_false_iff_eq.mpr h⟩
theorem gangwaylaw5_CodeBack.nb {α : Type} [BEq α] [LawfulBEq α] {a b : α} (h : ¬ a = b) : (a == b) = false ∧ (a != b) = true := ⟨beq_eq_false_iff_ne.mpr h, bne_iff_ne.mpr h⟩
theorem gangwaylaw5_CodeBack.m_ {p q : Prop} (h : p) (k : q) : Aside0 p ∧ q := ⟨Aside0.mk h, k⟩
abbrev gangwaylaw5_CodeBack.t : Bool := true
abbrev gangwaylaw5_CodeBack.f_ : Bool := false
def gangwaylaw5_CodeBack.bb0_ : Array Bool := #[t, t, t, t, t, t, t, t, t, t, t, t, t]
def gangwaylaw5_CodeBack.bb1_ : Array Bool := #[t, t, t, t, t, t, t, t, t, t, t, t, f_]
def gangwaylaw5_CodeBack.bb2_ : Array Bool := #[t, t, t, t, t, t, t, t, t, t, t, f_, f_]
def gangwaylaw5_CodeBack.bb3_ : Array Bool := #[t, t, t, t, t, t, t, t, t, t, f_, f_, f_]
def gangwaylaw5_CodeBack.bb4_ : Array Bool := #[t, t, t, t, t, t, t, t, t, f_, f_, f_, f_]
def gangwaylaw5_CodeBack.bb5_ : Array Bool := #[t, t, t, t, t, t, t, t, f_, f_, f_, f_, f_]
def gangwaylaw5_CodeBack.bb6_ : Array Bool := #[t, t, t, t, t, t, t, f_, f_, f_, f_, f_, f_]
def gangwaylaw5_CodeBack.bb7_ : Array Bool := #[t, t, t, t, t, t, f_, f_, f_, f_, f_, f_, f_]
def gangwaylaw5_CodeBack.bb8_ : Array Bool := #[t, t, t, t, t, f_, f_, f_, f_, f_, f_, f_, f_]
def gangwaylaw5_CodeBack.bb9_ : Array Bool := #[t, t, t, t, f_, f_, f_, f_, f_, f_, f_, f_, f_]
def gangwaylaw5_CodeBack.bb10_ : Array Bool := #[t, f_, t, t, f_, f_, f_, f_, f_, f_, f_, f_, f_]
def gangwaylaw5_CodeBack.bb11_ : Array Bool := #[t, f_, t, f_, f_, f_, f_, f_, f_, f_, f_, f_, f_]
def gangwaylaw5_CodeBack.bb12_ : Array Bool := #[t, f_, f_, f_, f_, f_, f_, f_, f_, f_, f_, f_, f_]
def gangwaylaw5_CodeBack.bb13_ : Array Bool := #[f_, f_, f_, f_, f_, f_, f_, f_, f_, f_, f_, f_, f_]
theorem gangwaylaw5_CodeBack.bc {w : World} {g : Nat} {cs : Array Value} {t : TypeId} (h : Aside0 (w.heap[g]? = some (.cells cs t (0, 0)))) (i : Nat) {v : Value} (e : cs[i]? = some v := by rfl) : w.cell? ⟨g, i, none⟩ = some v := (blk_cell h.out i).trans e
theorem gangwaylaw5_CodeBack.bbelow {W0 w w1 : World} {g : Nat} {o : Obj} (_b : Aside0 (W0.heap[g]? = some o)) (h : w.heap[g]? = some o) (hb : Below w.heap.size w w1) : w1.heap[g]? = some o := blk_below h hb
theorem gangwaylaw5_CodeBack.e1 {α : Type _} (xs : List α) (i : Nat) (a : α) : xs.toArray.setIfInBounds i a = (xs.set i a).toArray := by simp
theorem gangwaylaw5_CodeBack.e2 {α : Type _} (x a : α) (xs : List α) : (x :: xs).set 0 a = a :: xs := rfl
theorem gangwaylaw5_CodeBack.e3 {α : Type _} (x a : α) (xs : List α) (n : Nat) : (x :: xs).set (n + 1) a = x :: xs.set n a := rfl
theorem gangwaylaw5_CodeBack.up {w w' : World} {a : Addr} {v : Value} (hb : Aside0 (Below w.heap.size w w')) (h : w.cell? a = some v) : w'.cell? a = some v := (hb.out.cell (World.block_lt_of_cell? w _ h)).trans h
mutual
def gangwaylaw5_CodeBack.l0 : Nat → List (S26) → Int → Option (Bool)
 | 0, _, _ => none
 | k + 1, x0, x3 => if x3 < (x0.length : Int) then (gangwaylaw5_CodeBack.j1 k x0 x3 (decide (x3 < 10))) else (gangwaylaw5_CodeBack.j1 k x0 x3 false)
def gangwaylaw5_CodeBack.j1 : Nat → List (S26) → Int → Bool → Option (Bool)
 | 0, _, _, _ => none
 | k + 1, x0, x3, x26 => if x26 = true then (if 0 ≤ x3 then (if x3 < (x0.length : Int) then ((gangwaylaw5_heavy.f k ((rd_T26 x0 x3).f0) ((rd_T26 x0 x3).f1)).bind fun t913 => (if t913 = true then (some true) else ((code_Encode.f k ((rd_T26 x0 x3).f0)).bind fun bt914 => ((gangwaylaw5_num.f bt914.2).bind fun t918 => (if t918 = 0 then ((gangwayref0_CopyBytes.f k bt914.1).bind fun t919 => (if t919.length + ((rd_T26 x0 x3).f1).length < 140737488355328 then ((code_Decode.f k (t919 ++ ((rd_T26 x0 x3).f1))).bind fun bt925 => ((gangwaylaw5_num.f bt925.2.2).bind fun t930 => (if t930 = 0 then (if bt925.2.1 = (bt914.1.length : Int) then ((gangwayref0_EqInstrs.f k bt925.1 ((rd_T26 x0 x3).f0)).bind fun t931 => (if t931 = true then (gangwaylaw5_CodeBack.l1 k x0 x3 bt914.1 0 ((rd_T26 x0 x3).f0) ((rd_T26 x0 x3).f1)) else (none))) else (none)) else (none)))) else (none))) else (gangwaylaw5_CodeBack.j3 k x0 x3 ((rd_T26 x0 x3).f0) ((rd_T26 x0 x3).f1))))))) else (none)) else (none)) else ((gangwaylaw5_wakes.f k).bind fun t910 => (some t910))
def gangwaylaw5_CodeBack.j3 : Nat → List (S26) → Int → List (S45) → List Int → Option (Bool)
 | 0, _, _, _, _ => none
 | k + 1, x0, x3, x0z, x1z => (code_Decode.f k x1z).bind fun bt952 => ((gangwaylaw5_num.f bt952.2.2).bind fun t957 => (if t957 = 0 then ((code_Encode.f k bt952.1).bind fun bt958 => ((gangwaylaw5_num.f bt958.2).bind fun t962 => (if t962 = 0 then (if (bt958.1.length : Int) > bt952.2.1 then (none) else ((code_Check.f k bt952.1).bind fun t963 => ((gangwaylaw5_num.f t963).bind fun t964 => (if t964 = 0 then (gangwaylaw5_CodeBack.l0 k x0 (wrap64 (x3 + 1))) else (none))))) else (none)))) else (gangwaylaw5_CodeBack.l0 k x0 (wrap64 (x3 + 1)))))
def gangwaylaw5_CodeBack.l1 : Nat → List (S26) → Int → List Int → Int → List (S45) → List Int → Option (Bool)
 | 0, _, _, _, _, _, _ => none
 | k + 1, x0, x3, x5, x10, x0z, x1z => if x10 < (x5.length : Int) then (if 0 ≤ x10 then (if x10 ≤ (x5.length : Int) then ((code_Decode.f k (x5.take (x10 : Int).toNat)).bind fun bt946 => ((gangwaylaw5_num.f bt946.2.2).bind fun t951 => (if t951 = 100 then (gangwaylaw5_CodeBack.l1 k x0 x3 x5 (wrap64 ((wrap64 (x10 + 1)) + (wrap64 ((x5.length : Int) / 20)))) x0z x1z) else (none)))) else (none)) else (none)) else (gangwaylaw5_CodeBack.j3 k x0 x3 x0z x1z)
end
def gangwaylaw5_CodeBack.f (k : Nat) (l0 : List (S26)) : Option (Bool) := gangwaylaw5_CodeBack.l0 k l0 0
theorem gangwaylaw5_CodeBack.mono_l : ∀ k, (∀ y0 y1, LeO (gangwaylaw5_CodeBack.l0 k y0 y1) (gangwaylaw5_CodeBack.l0 (k + 1) y0 y1)) ∧ (∀ y0 y1 y2, LeO (gangwaylaw5_CodeBack.j1 k y0 y1 y2) (gangwaylaw5_CodeBack.j1 (k + 1) y0 y1 y2)) ∧ (∀ y0 y1 y2 y3, LeO (gangwaylaw5_CodeBack.j3 k y0 y1 y2 y3) (gangwaylaw5_CodeBack.j3 (k + 1) y0 y1 y2 y3)) ∧ (∀ y0 y1 y2 y3 y4 y5, LeO (gangwaylaw5_CodeBack.l1 k y0 y1 y2 y3 y4 y5) (gangwaylaw5_CodeBack.l1 (k + 1) y0 y1 y2 y3 y4 y5))
 | 0 => ⟨fun _ _ r h => by simp [gangwaylaw5_CodeBack.l0] at h, fun _ _ _ r h => by simp [gangwaylaw5_CodeBack.j1] at h, fun _ _ _ _ r h => by simp [gangwaylaw5_CodeBack.j3] at h, fun _ _ _ _ _ _ r h => by simp [gangwaylaw5_CodeBack.l1] at h⟩
 | k + 1 => by
  obtain ⟨ih0, ih1, ih2, ih3⟩ := gangwaylaw5_CodeBack.mono_l k; refine ⟨?_, ?_, ?_, ?_⟩ <;> (intros; (first | unfold gangwaylaw5_CodeBack.l0 | unfold gangwaylaw5_CodeBack.j1 | unfold gangwaylaw5_CodeBack.j3 | unfold gangwaylaw5_CodeBack.l1); repeat' first | (with_reducible apply ih0) | (with_reducible apply ih1) | (with_reducible apply ih2) | (with_reducible apply ih3) | (with_reducible exact code_Check.mono _ _) | (with_reducible exact code_Decode.mono _ _) | (with_reducible exact code_Encode.mono _ _) | (with_reducible exact gangwaylaw5_heavy.mono _ _ _) | (with_reducible exact gangwaylaw5_wakes.mono _) | (with_reducible exact gangwayref0_CopyBytes.mono _ _) | (with_reducible exact gangwayref0_EqInstrs.mono _ _ _) | (with_reducible exact LeO.refl _) | (with_reducible exact LeO.none _) | (with_reducible refine LeO.ite ?_ ?_) | (with_reducible refine LeO.bind ?_ (fun _ => ?_)) | apply ih0 | apply ih1 | apply ih2 | apply ih3 | exact code_Check.mono _ _ | exact code_Decode.mono _ _ | exact code_Encode.mono _ _ | exact gangwaylaw5_heavy.mono _ _ _ | exact gangwaylaw5_wakes.mono _ | exact gangwayref0_CopyBytes.mono _ _ | exact gangwayref0_EqInstrs.mono _ _ _ | exact LeO.none _ | refine LeO.ite ?_ ?_ | refine LeO.bind ?_ (fun _ => ?_))
theorem gangwaylaw5_CodeBack.mono : ∀ a0 k, LeO (gangwaylaw5_CodeBack.f k a0) (gangwaylaw5_CodeBack.f (k + 1) a0) := by
 intro a0 k; obtain ⟨ih0, ih1, ih2, ih3⟩ := gangwaylaw5_CodeBack.mono_l k
 unfold gangwaylaw5_CodeBack.f
 repeat' first
   | (with_reducible apply ih0)
   | (with_reducible apply ih1)
   | (with_reducible apply ih2)
   | (with_reducible apply ih3)
   | (with_reducible exact code_Check.mono _ _)
   | (with_reducible exact code_Decode.mono _ _)
   | (with_reducible exact code_Encode.mono _ _)
   | (with_reducible exact gangwaylaw5_heavy.mono _ _ _)
   | (with_reducible exact gangwaylaw5_wakes.mono _)
   | (with_reducible exact gangwayref0_CopyBytes.mono _ _)
   | (with_reducible exact gangwayref0_EqInstrs.mono _ _ _)
   | (with_reducible exact LeO.refl _)
   | (with_reducible exact LeO.none _)
   | (with_reducible refine LeO.ite ?_ ?_)
   | (with_reducible refine LeO.bind ?_ (fun _ => ?_))
   | apply ih0
   | apply ih1
   | apply ih2
   | apply ih3
   | exact code_Check.mono _ _
   | exact code_Decode.mono _ _
   | exact code_Encode.mono _ _
   | exact gangwaylaw5_heavy.mono _ _ _
   | exact gangwaylaw5_wakes.mono _
   | exact gangwayref0_CopyBytes.mono _ _
   | exact gangwayref0_EqInstrs.mono _ _ _
   | exact LeO.none _
   | refine LeO.ite ?_ ?_
   | refine LeO.bind ?_ (fun _ => ?_)
def gangwaylaw5_CodeBack.T9 : Bool × List (List Nat × List Nat) := (true, [([], []), ([0], [0]), ([], []), ([2], [2]), ([1, 3, 1], [1, 3]), ([4, 4], [4]), ([5], [5]), ([6], [6]), ([6], [6]), ([6], [6]), ([7, 5, 0, 1, 2, 3, 4, 5, 6, 7], [7]), ([8, 10, 0, 1, 2, 3, 4, 5, 6, 7, 8, 10], [8]), ([9, 11, 0, 1, 2, 3, 4, 5, 6, 7, 8, 9, 10, 11], [9])])
def gangwaylaw5_CodeBack.B9 : List Nat := [0, 1, 0, 4, 15, 31, 63, 127, 127, 127, 255, 1535, 4095]
theorem gangwaylaw5_CodeBack.tab9 : rtab .any (opsOf Try.f8 9) = gangwaylaw5_CodeBack.T9 := by kernel_rfl
theorem gangwaylaw5_CodeBack.bits9 : waitsOk gangwaylaw5_CodeBack.T9.2 gangwaylaw5_CodeBack.B9 = true := by kernel_rfl
theorem gangwaylaw5_CodeBack.aa_0 {p : Prop} (h : p := by repeat (first | (with_reducible first | exact HB.out | apply below_alloc | apply pw_below_drewN | apply below_drew1 | refine below_set ?_ GE912.out) | exact HB.out)) : p := h
theorem gangwaylaw5_CodeBack.aa_1 {p : Prop} (h : p := by (try simp only [List.map_toArray, List.map_cons, List.map_nil]); first | done | rfl | (simp only [List.length_drop, List.length_take]; rfl)) : p := h
theorem gangwaylaw5_CodeBack.aa_2 {p : Prop} (h : p := by (with_reducible repeat (first | refine blk_drewN ?_ _ | refine blk_drew ?_ | refine blk_alloc ?_ _)); exact BK912.out) : p := h
theorem gangwaylaw5_CodeBack.aa_3 {p : Prop} (h : p := by repeat (first | (with_reducible first | exact HB.out | apply below_alloc | apply pw_below_drewN | apply below_drew1) | exact HB.out)) : p := h
theorem gangwaylaw5_CodeBack.aa_4 {p : Prop} (h : p := by (with_reducible repeat (first | apply Kd.R_alloc | apply Kd.R_drewN | apply Kd.R_drew)); exact HO917.out) : p := h
theorem gangwaylaw5_CodeBack.aa_5 {p : Prop} (h : p := by repeat (first | exact (Kd.C_below HR911_1.out HB.out) | (with_reducible refine Kd.C_alloc ?_ _) | (with_reducible refine Kd.C_drewN ?_ _) | (with_reducible refine Kd.C_drew ?_))) : p := h
theorem gangwaylaw5_CodeBack.aa_6 {p : Prop} (h : p := by repeat (first | exact (Kd.R_reads' HO956.out).2.2 | (with_reducible refine Kd.C_alloc ?_ _) | (with_reducible refine Kd.C_drewN ?_ _) | (with_reducible refine Kd.C_drew ?_))) : p := h
theorem gangwaylaw5_CodeBack.am_ {p : Prop} (h : p) : Aside0 p := Aside0.mk h
theorem gangwaylaw5_CodeBack.bm_ {α β : Type _} {o : Option α} {f : α → Option β} {b : β} (h : o.bind f = some b) : ∃ a, o = some a ∧ f a = some b := Option.bind_eq_some_iff.mp h
set_option maxHeartbeats 8000000 in
set_option maxRecDepth 100000 in
theorem gangwaylaw5_CodeBack.calls (k : Nat) (A0 : Option Addr) (c0 : Nat) (l0 : List (S26)) (r : Bool) (w : World) (hr0 : Kd.C k26 w A0 l0.length l0) (hc0 : l0.length ≤ c0) (h : gangwaylaw5_CodeBack.f k l0 = some r) :
  Calls Try.prog 8 #[.slice A0 l0.length c0] w fun e w' => e = .returned (.bool r) ∧ Below w.heap.size w w' := by
 have hu26 := Try.underlying26; have HR0 := am_ hr0; have HC0 := am_ hc0; clear hr0 hc0; have HB := am_ (Below.refl w.heap.size w); have H : (gangwaylaw5_CodeBack.l0 k l0 0) = some r := h; clear h; have H' := am_ H; clear H; go_enter Try.func8, Try.ntmps8; go_wp2
 go_loopg [3] k (fun kq v3 w' => ∃ (x3_1 : Int), v3 = .int .i64 x3_1 ∧ Aside0 (gangwaylaw5_CodeBack.l0 kq l0 x3_1 = some r) ∧ Aside0 (kq ≤ k) ∧ Aside0 (Below w.heap.size w w'))
 case atStart => exact ⟨(0), (es_), H', ⟨Nat.le_refl _⟩, ⟨aa_3⟩⟩
 case round =>
 clear H'; obtain ⟨x3_1, rfl, HA, HK1, HB⟩ := hrel
 cases gk with
 | zero => exact absurd HA.out (by simp [gangwaylaw5_CodeBack.l0])
 | succ k1 =>
 have H := HA.out; clear HA; simp only [gangwaylaw5_CodeBack.l0] at H; have HC2 := am_ H; clear H
 go_upto_region 2 with (fail)
 go_cut [26] (fun v26 wc => ∃ (kq : Nat) (x26_1 : Bool), v26 = .bool x26_1 ∧ Aside0 (j1 kq l0 x3_1 x26_1 = some r) ∧ Aside0 (kq ≤ k1) ∧ Aside0 (Below w.heap.size w wc))
 case first =>
  have H := HC2.out; clear HC2; by_cases c3 : x3_1 < (l0.length : Int)
  ·rw [if_pos c3] at H; have c3b0 : decide (x3_1 < (l0.length : Int)) = true := decide_eq_true c3; clear c3; (first | rw [c3b0] | (simp only [i64_w, i32_w]; rw [c3b0]) | skip); have H' := am_ H; clear H; go_wp2; go_meet
   case rel => exact ⟨_, (decide (x3_1 < 10)), (es_), H', ⟨by have := HK1.out; first | omega | exact Nat.le_refl _⟩, ⟨aa_3⟩⟩
  rw [if_neg c3] at H; have c3b0 : decide (x3_1 < (l0.length : Int)) = false := decide_eq_false c3; clear c3; (first | rw [c3b0] | (simp only [i64_w, i32_w]; rw [c3b0]) | skip); have H' := am_ H; clear H; go_wp2; go_meet
  case rel => exact ⟨_, (false), (es_), H', ⟨by have := HK1.out; first | omega | exact Nat.le_refl _⟩, ⟨aa_3⟩⟩
 case rest =>
 clear HC2; obtain ⟨kq, x26_1, rfl, HA, HJ1, HB⟩ := hcut
 cases kq with
 | zero => exact absurd HA.out (by simp [j1])
 | succ kj1 =>
 have H := HA.out; clear HA; simp only [j1] at H; by_cases c4 : x26_1 = true
 rotate_left
 ·replace c4 := Bool.eq_false_iff.mpr c4; subst c4; have H1 : ((gangwaylaw5_wakes.f kj1).bind fun t910 => (some t910)) = some r := by rw [if_neg (show ¬ (false = true) by decide)] at H; exact H
  clear H; have H := H1; clear H1; replace H := bm_ H; obtain ⟨t910, A640, H⟩ := H; replace H : (some t910) = some r := H; have A64 := am_ A640; clear A640; obtain rfl := Option.some.inj H
  go_wp2_with (first | ((with_reducible refine gate_callee (f := 17) rfl ?_); refine goesL_ (some 121) rfl rfl Try.func17 (by kernel_rfl) rfl #[] rfl aa_1 ?_; (with_reducible refine (gangwaylaw5_wakes.calls kj1  t910 _ A64.out).mono ?_); rintro e w65 ⟨rfl, hb⟩; refine ⟨_, rfl, ?_⟩; have n0_ := am_ (below_step aa_3 hb); clear HB; have HB := n0_; clear n0_; (try clear hb); (try clear hb2); (try clear hk); (try clear hi)))
  go_ret; exact ⟨er_, by repeat (first | (with_reducible first | exact HB.out | apply below_alloc | apply pw_below_drewN | apply below_drew1) | exact HB.out)⟩
 subst c4; have H1 : (if 0 ≤ x3_1 then (if x3_1 < (l0.length : Int) then ((gangwaylaw5_heavy.f kj1 ((rd_T26 l0 x3_1).f0) ((rd_T26 l0 x3_1).f1)).bind fun t913 => (if t913 = true then (some true) else ((code_Encode.f kj1 ((rd_T26 l0 x3_1).f0)).bind fun bt914 => ((gangwaylaw5_num.f bt914.2).bind fun t918 => (if t918 = 0 then ((gangwayref0_CopyBytes.f kj1 bt914.1).bind fun t919 => (if t919.length + ((rd_T26 l0 x3_1).f1).length < 140737488355328 then ((code_Decode.f kj1 (t919 ++ ((rd_T26 l0 x3_1).f1))).bind fun bt925 => ((gangwaylaw5_num.f bt925.2.2).bind fun t930 => (if t930 = 0 then (if bt925.2.1 = (bt914.1.length : Int) then ((gangwayref0_EqInstrs.f kj1 bt925.1 ((rd_T26 l0 x3_1).f0)).bind fun t931 => (if t931 = true then (gangwaylaw5_CodeBack.l1 kj1 l0 x3_1 bt914.1 0 ((rd_T26 l0 x3_1).f0) ((rd_T26 l0 x3_1).f1)) else (none))) else (none)) else (none)))) else (none))) else (j3 kj1 l0 x3_1 ((rd_T26 l0 x3_1).f0) ((rd_T26 l0 x3_1).f1))))))) else (none)) else (none)) = some r := by rw [if_pos rfl] at H; exact H
 clear H; have H := H1; clear H1; by_cases c5 : 0 ≤ x3_1
 rotate_left
 ·rw [if_neg c5] at H; exact absurd H (by simp)
 rw [if_pos c5] at H; have c5b0 : decide (0 ≤ x3_1) = true := decide_eq_true c5; clear c5; by_cases c6 : x3_1 < (l0.length : Int)
 rotate_left
 ·rw [if_neg c6] at H; exact absurd H (by simp)
 rw [if_pos c6] at H; have c6b0 : decide (x3_1 < (l0.length : Int)) = true := decide_eq_true c6; clear c6; replace H := bm_ H; obtain ⟨t913, A70, H⟩ := H; replace H : (if t913 = true then (some true) else ((code_Encode.f kj1 ((rd_T26 l0 x3_1).f0)).bind fun bt914 => ((gangwaylaw5_num.f bt914.2).bind fun t918 => (if t918 = 0 then ((gangwayref0_CopyBytes.f kj1 bt914.1).bind fun t919 => (if t919.length + ((rd_T26 l0 x3_1).f1).length < 140737488355328 then ((code_Decode.f kj1 (t919 ++ ((rd_T26 l0 x3_1).f1))).bind fun bt925 => ((gangwaylaw5_num.f bt925.2.2).bind fun t930 => (if t930 = 0 then (if bt925.2.1 = (bt914.1.length : Int) then ((gangwayref0_EqInstrs.f kj1 bt925.1 ((rd_T26 l0 x3_1).f0)).bind fun t931 => (if t931 = true then (gangwaylaw5_CodeBack.l1 kj1 l0 x3_1 bt914.1 0 ((rd_T26 l0 x3_1).f0) ((rd_T26 l0 x3_1).f1)) else (none))) else (none)) else (none)))) else (none))) else (j3 kj1 l0 x3_1 ((rd_T26 l0 x3_1).f0) ((rd_T26 l0 x3_1).f1)))))) = some r := H; have A7 := am_ A70; clear A70; by_cases c8 : t913 = true
 ·subst c8; have H1 : (some true) = some r := by rw [if_pos rfl] at H; exact H
  clear H; have H := H1; clear H1; obtain rfl := Option.some.inj H; have p911 : 0 ≤ (x3_1 : Int) := of_decide_eq_true (by first | (with_reducible assumption) | assumption); have q911 : x3_1 < (l0.length : Int) := of_decide_eq_true (by first | (with_reducible assumption) | assumption); obtain ⟨ad911, A911_0, c911_0, A911_1, c911_1, e911, hx911_0, hx911_1, hl911_0, hi911_0, hl911_1, hi911_1⟩ := at_T26 HR0.out x3_1 p911 q911
  cases e911
  replace hx911_0 := up HB hx911_0; replace hx911_1 := up HB hx911_1; have HR911_0 := am_ hi911_0; have HC911_0 := am_ hl911_0; clear hi911_0 hl911_0; have HR911_1 := am_ hi911_1; have HC911_1 := am_ hl911_1; clear hi911_1 hl911_1; replace p911 := eq_true p911; replace q911 := eq_true q911
  go_wp2_with (first | ((with_reducible refine gate_dst (N := 4) rfl ?_); (try (refine gate_guard (by rfl) ?_; dsimp only)); refine box_event ?hg (N := 4) ?hd (cs := #[.slice none 0 0, .slice none 0 0]) (t := 26) ?hr ?_; (case hd => rfl); (case hg => rfl); (case hr => first | (go_simp; done) | (go_simp; rfl)); intro gb912 hg w9 hbox hb; have N_ := m_ (below_step aa_3 hb) <| m_ (hbox) <| m_ ((by rw [hg]; exact (below_size aa_3) : w.heap.size ≤ gb912)) <| am_ ((by rw [hg]; exact (below_size aa_3) : w.heap.size ≤ gb912)); clear HB; obtain ⟨HB, BK912, GW912, GE912⟩ := N_; clear hb hbox hg; have Z10_0 : w9.cell? ⟨gb912, 0, none⟩ = some (.slice none 0 0) := (bc BK912 0); have Z10_1 : w9.cell? ⟨gb912, 1, none⟩ = some (.slice none 0 0) := (bc BK912 1); have Y10_0 := blk_frozen BK912.out 0; have Y10_1 := blk_frozen BK912.out 1) | ((with_reducible refine gate_callee (f := 9) rfl ?_); refine goesL_ (some 34) rfl rfl Try.func9 (by kernel_rfl) rfl #[.agg #[.slice A911_0 ((rd_T26 l0 x3_1).f0).length c911_0, .slice A911_1 ((rd_T26 l0 x3_1).f1).length c911_1]] rfl aa_1 ?_; (with_reducible refine (gangwaylaw5_heavy.calls kj1 _ _ ((rd_T26 l0 x3_1).f0) _ _ ((rd_T26 l0 x3_1).f1) true _ ?side1 ?side2 ?side3 ?side4 A7.out).mono ?_); (case side1 => exact Kd.C_below HR911_0.out aa_0); (case side2 => exact HC911_0.out); (case side3 => exact Kd.C_below HR911_1.out aa_0); (case side4 => exact HC911_1.out); rintro e w11 ⟨rfl, hb⟩; refine ⟨_, rfl, ?_⟩; have N_ := m_ (blk_below (g := gb912) (o := .cells #[.slice A911_0 ((rd_T26 l0 x3_1).f0).length c911_0, .slice A911_1 ((rd_T26 l0 x3_1).f1).length c911_1] 26 (0, 0)) (by (with_reducible repeat (first | refine blk_drewN ?_ _ | refine blk_drew ?_ | refine blk_alloc ?_ _)); refine blk_put (cs := #[.slice A911_0 ((rd_T26 l0 x3_1).f0).length c911_0, .slice none 0 0]) ?_ 1 _ rfl; (with_reducible repeat (first | refine blk_drewN ?_ _ | refine blk_drew ?_ | refine blk_alloc ?_ _)); refine blk_put (cs := #[.slice none 0 0, .slice none 0 0]) ?_ 0 _ rfl; (with_reducible repeat (first | refine blk_drewN ?_ _ | refine blk_drew ?_ | refine blk_alloc ?_ _)); exact BK912.out) hb) <| am_ (below_step aa_0 hb); clear BK912 HB; obtain ⟨BK912, HB⟩ := N_; (try clear hb); (try clear hb2); (try clear hk); (try clear hi)))
  go_ret; exact ⟨er_, by repeat (first | (with_reducible first | exact HB.out | apply below_alloc | apply pw_below_drewN | apply below_drew1 | refine below_set ?_ GE912.out) | exact HB.out)⟩
 replace c8 := Bool.eq_false_iff.mpr c8; subst c8; have H1 : ((code_Encode.f kj1 ((rd_T26 l0 x3_1).f0)).bind fun bt914 => ((gangwaylaw5_num.f bt914.2).bind fun t918 => (if t918 = 0 then ((gangwayref0_CopyBytes.f kj1 bt914.1).bind fun t919 => (if t919.length + ((rd_T26 l0 x3_1).f1).length < 140737488355328 then ((code_Decode.f kj1 (t919 ++ ((rd_T26 l0 x3_1).f1))).bind fun bt925 => ((gangwaylaw5_num.f bt925.2.2).bind fun t930 => (if t930 = 0 then (if bt925.2.1 = (bt914.1.length : Int) then ((gangwayref0_EqInstrs.f kj1 bt925.1 ((rd_T26 l0 x3_1).f0)).bind fun t931 => (if t931 = true then (gangwaylaw5_CodeBack.l1 kj1 l0 x3_1 bt914.1 0 ((rd_T26 l0 x3_1).f0) ((rd_T26 l0 x3_1).f1)) else (none))) else (none)) else (none)))) else (none))) else (j3 kj1 l0 x3_1 ((rd_T26 l0 x3_1).f0) ((rd_T26 l0 x3_1).f1))))) = some r := by rw [if_neg (show ¬ (false = true) by decide)] at H; exact H
 clear H; have H := H1; clear H1; replace H := bm_ H; obtain ⟨⟨t914, t915⟩, A120, H⟩ := H; replace H : ((gangwaylaw5_num.f t915).bind fun t918 => (if t918 = 0 then ((gangwayref0_CopyBytes.f kj1 t914).bind fun t919 => (if t919.length + ((rd_T26 l0 x3_1).f1).length < 140737488355328 then ((code_Decode.f kj1 (t919 ++ ((rd_T26 l0 x3_1).f1))).bind fun bt925 => ((gangwaylaw5_num.f bt925.2.2).bind fun t930 => (if t930 = 0 then (if bt925.2.1 = (t914.length : Int) then ((gangwayref0_EqInstrs.f kj1 bt925.1 ((rd_T26 l0 x3_1).f0)).bind fun t931 => (if t931 = true then (gangwaylaw5_CodeBack.l1 kj1 l0 x3_1 t914 0 ((rd_T26 l0 x3_1).f0) ((rd_T26 l0 x3_1).f1)) else (none))) else (none)) else (none)))) else (none))) else (j3 kj1 l0 x3_1 ((rd_T26 l0 x3_1).f0) ((rd_T26 l0 x3_1).f1)))) = some r := H; have A12 := am_ A120; clear A120; replace H := bm_ H; obtain ⟨t918, A130, H⟩ := H; replace H : (if t918 = 0 then ((gangwayref0_CopyBytes.f kj1 t914).bind fun t919 => (if t919.length + ((rd_T26 l0 x3_1).f1).length < 140737488355328 then ((code_Decode.f kj1 (t919 ++ ((rd_T26 l0 x3_1).f1))).bind fun bt925 => ((gangwaylaw5_num.f bt925.2.2).bind fun t930 => (if t930 = 0 then (if bt925.2.1 = (t914.length : Int) then ((gangwayref0_EqInstrs.f kj1 bt925.1 ((rd_T26 l0 x3_1).f0)).bind fun t931 => (if t931 = true then (gangwaylaw5_CodeBack.l1 kj1 l0 x3_1 t914 0 ((rd_T26 l0 x3_1).f0) ((rd_T26 l0 x3_1).f1)) else (none))) else (none)) else (none)))) else (none))) else (j3 kj1 l0 x3_1 ((rd_T26 l0 x3_1).f0) ((rd_T26 l0 x3_1).f1))) = some r := H; have A13 := am_ A130; clear A130; have HC14 := am_ H; clear H; have p911 : 0 ≤ (x3_1 : Int) := of_decide_eq_true (by first | (with_reducible assumption) | assumption); have q911 : x3_1 < (l0.length : Int) := of_decide_eq_true (by first | (with_reducible assumption) | assumption); obtain ⟨ad911, A911_0, c911_0, A911_1, c911_1, e911, hx911_0, hx911_1, hl911_0, hi911_0, hl911_1, hi911_1⟩ := at_T26 HR0.out x3_1 p911 q911
 cases e911
 replace hx911_0 := up HB hx911_0; replace hx911_1 := up HB hx911_1; have HR911_0 := am_ hi911_0; have HC911_0 := am_ hl911_0; clear hi911_0 hl911_0; have HR911_1 := am_ hi911_1; have HC911_1 := am_ hl911_1; clear hi911_1 hl911_1; replace p911 := eq_true p911; replace q911 := eq_true q911
 go_upto_if 43 with (first | ((with_reducible refine gate_dst (N := 4) rfl ?_); (try (refine gate_guard (by rfl) ?_; dsimp only)); refine box_event ?hg (N := 4) ?hd (cs := #[.slice none 0 0, .slice none 0 0]) (t := 26) ?hr ?_; (case hd => rfl); (case hg => rfl); (case hr => first | (go_simp; done) | (go_simp; rfl)); intro gb912 hg w15 hbox hb; have N_ := m_ (below_step aa_3 hb) <| m_ (hbox) <| m_ ((by rw [hg]; exact (below_size aa_3) : w.heap.size ≤ gb912)) <| am_ ((by rw [hg]; exact (below_size aa_3) : w.heap.size ≤ gb912)); clear HB; obtain ⟨HB, BK912, GW912, GE912⟩ := N_; clear hb hbox hg; have Z16_0 : w15.cell? ⟨gb912, 0, none⟩ = some (.slice none 0 0) := (bc BK912 0); have Z16_1 : w15.cell? ⟨gb912, 1, none⟩ = some (.slice none 0 0) := (bc BK912 1); have Y16_0 := blk_frozen BK912.out 0; have Y16_1 := blk_frozen BK912.out 1) | ((with_reducible refine gate_callee (f := 9) rfl ?_); refine goesL_ (some 34) rfl rfl Try.func9 (by kernel_rfl) rfl #[.agg #[.slice A911_0 ((rd_T26 l0 x3_1).f0).length c911_0, .slice A911_1 ((rd_T26 l0 x3_1).f1).length c911_1]] rfl aa_1 ?_; (with_reducible refine (gangwaylaw5_heavy.calls kj1 _ _ ((rd_T26 l0 x3_1).f0) _ _ ((rd_T26 l0 x3_1).f1) false _ ?side1 ?side2 ?side3 ?side4 A7.out).mono ?_); (case side1 => exact Kd.C_below HR911_0.out aa_0); (case side2 => exact HC911_0.out); (case side3 => exact Kd.C_below HR911_1.out aa_0); (case side4 => exact HC911_1.out); rintro e w17 ⟨rfl, hb⟩; refine ⟨_, rfl, ?_⟩; have N_ := m_ (blk_below (g := gb912) (o := .cells #[.slice A911_0 ((rd_T26 l0 x3_1).f0).length c911_0, .slice A911_1 ((rd_T26 l0 x3_1).f1).length c911_1] 26 (0, 0)) (by (with_reducible repeat (first | refine blk_drewN ?_ _ | refine blk_drew ?_ | refine blk_alloc ?_ _)); refine blk_put (cs := #[.slice A911_0 ((rd_T26 l0 x3_1).f0).length c911_0, .slice none 0 0]) ?_ 1 _ rfl; (with_reducible repeat (first | refine blk_drewN ?_ _ | refine blk_drew ?_ | refine blk_alloc ?_ _)); refine blk_put (cs := #[.slice none 0 0, .slice none 0 0]) ?_ 0 _ rfl; (with_reducible repeat (first | refine blk_drewN ?_ _ | refine blk_drew ?_ | refine blk_alloc ?_ _)); exact BK912.out) hb) <| am_ (below_step aa_0 hb); clear BK912 HB; obtain ⟨BK912, HB⟩ := N_; (try clear hb); (try clear hb2); (try clear hk); (try clear hi); have Z18_0 : w17.cell? ⟨gb912, 0, none⟩ = some (.slice A911_0 ((rd_T26 l0 x3_1).f0).length c911_0) := (bc BK912 0); have Z18_1 : w17.cell? ⟨gb912, 1, none⟩ = some (.slice A911_1 ((rd_T26 l0 x3_1).f1).length c911_1) := (bc BK912 1); have Y18_0 := blk_frozen BK912.out 0; have Y18_1 := blk_frozen BK912.out 1) | ((with_reducible refine gate_callee (f := 20) rfl ?_); refine goesL_ (some 38) rfl rfl Try.func20 (by kernel_rfl) rfl #[.slice A911_0 ((rd_T26 l0 x3_1).f0).length c911_0] rfl aa_1 ?_; (with_reducible refine (code_Encode.calls kj1 _ _ ((rd_T26 l0 x3_1).f0) t914 t915 _ ?side1 ?side2 A12.out).mono ?_); (case side1 => repeat (first | exact (Kd.C_below HR911_0.out HB.out) | (with_reducible refine Kd.C_alloc ?_ _) | (with_reducible refine Kd.C_drewN ?_ _) | (with_reducible refine Kd.C_drew ?_))); (case side2 => exact HC911_0.out); rintro e w19 ⟨v916, rfl, ho0, hb⟩; refine ⟨_, rfl, ?_⟩; have N_ := m_ (Kd.R_lower ho0 (below_size aa_0)) <| m_ (bbelow BK912 aa_2 hb) <| am_ (below_step aa_0 hb); clear BK912 HB; obtain ⟨HO917, BK912, HB⟩ := N_; (try clear hb); (try clear hb2); (try clear hk); (try clear hi); (try clear ho0)) | ((with_reducible refine gate_callee (f := 13) rfl ?_); refine goesL_ (some 42) rfl rfl Try.func13 (by kernel_rfl) rfl #[.int .i64 t915] rfl aa_1 ?_; (with_reducible refine (gangwaylaw5_num.calls t915 t918 _ A13.out).mono ?_); rintro e w' ⟨rfl, ⟨nd, rfl⟩⟩; refine ⟨_, rfl, ?_⟩))
 (try simp only [Act.put, e1, e2, e3])
 go_cut [] (fun wc => ∃ (kq : Nat), Aside0 (j3 kq l0 x3_1 ((rd_T26 l0 x3_1).f0) ((rd_T26 l0 x3_1).f1) = some r) ∧ Aside0 (kq ≤ kj1) ∧ Aside0 (wc.heap[gb912]? = some (.cells #[(.slice A911_0 ((rd_T26 l0 x3_1).f0).length c911_0), (.slice A911_1 ((rd_T26 l0 x3_1).f1).length c911_1)] 26 (0, 0))) ∧ Aside0 (Below w.heap.size w wc))
 case first =>
  have H := HC14.out; clear HC14; by_cases c20 : t918 = 0
  rotate_left
  ·rw [if_neg c20] at H; obtain ⟨c20b0, c20b1⟩ := nb c20; (first | rw [c20b0] | (simp only [i64_w, i32_w]; rw [c20b0]) | skip); have H' := am_ H; clear H; go_wp2; go_meet
   case rel => exact ⟨_, H', ⟨by have := HK1.out; have := HJ1.out; first | omega | exact Nat.le_refl _⟩, ⟨aa_2⟩, ⟨aa_0⟩⟩
  rw [if_pos c20] at H; obtain ⟨c20b0, c20b1⟩ := eb c20; clear c20; (first | rw [c20b0] | (simp only [i64_w, i32_w]; rw [c20b0]) | skip); replace H := bm_ H; obtain ⟨t919, A210, H⟩ := H; replace H : (if t919.length + ((rd_T26 l0 x3_1).f1).length < 140737488355328 then ((code_Decode.f kj1 (t919 ++ ((rd_T26 l0 x3_1).f1))).bind fun bt925 => ((gangwaylaw5_num.f bt925.2.2).bind fun t930 => (if t930 = 0 then (if bt925.2.1 = (t914.length : Int) then ((gangwayref0_EqInstrs.f kj1 bt925.1 ((rd_T26 l0 x3_1).f0)).bind fun t931 => (if t931 = true then (gangwaylaw5_CodeBack.l1 kj1 l0 x3_1 t914 0 ((rd_T26 l0 x3_1).f0) ((rd_T26 l0 x3_1).f1)) else (none))) else (none)) else (none)))) else (none)) = some r := H; have A21 := am_ A210; clear A210; by_cases c22 : t919.length + ((rd_T26 l0 x3_1).f1).length < 140737488355328
  rotate_left
  ·rw [if_neg c22] at H; exact absurd H (by simp)
  rw [if_pos c22] at H; have LMc22 := am_ c22; clear c22; obtain ⟨y922, hy922⟩ : ∃ y_ : List Int, y_ = (t919 ++ ((rd_T26 l0 x3_1).f1)) := ⟨_, rfl⟩
  replace H : ((code_Decode.f kj1 y922).bind fun bt925 => ((gangwaylaw5_num.f bt925.2.2).bind fun t930 => (if t930 = 0 then (if bt925.2.1 = (t914.length : Int) then ((gangwayref0_EqInstrs.f kj1 bt925.1 ((rd_T26 l0 x3_1).f0)).bind fun t931 => (if t931 = true then (gangwaylaw5_CodeBack.l1 kj1 l0 x3_1 t914 0 ((rd_T26 l0 x3_1).f0) ((rd_T26 l0 x3_1).f1)) else (none))) else (none)) else (none)))) = some r := by first | (rw [hy922]; with_reducible exact H) | (have H2_ := (Option.bind_some _ _).symm.trans H; rw [hy922]; with_reducible exact H2_) | (have H2_ := (Option.bind_some _ _).symm.trans H; with_reducible exact H2_) | with_reducible exact H | (rw [hy922]; exact H) | exact H
  have Ny922 := am_ hy922; clear hy922; replace H := bm_ H; obtain ⟨⟨t925, t926, t927⟩, A230, H⟩ := H; replace H : ((gangwaylaw5_num.f t927).bind fun t930 => (if t930 = 0 then (if t926 = (t914.length : Int) then ((gangwayref0_EqInstrs.f kj1 t925 ((rd_T26 l0 x3_1).f0)).bind fun t931 => (if t931 = true then (gangwaylaw5_CodeBack.l1 kj1 l0 x3_1 t914 0 ((rd_T26 l0 x3_1).f0) ((rd_T26 l0 x3_1).f1)) else (none))) else (none)) else (none))) = some r := H; have A23 := am_ A230; clear A230; replace H := bm_ H; obtain ⟨t930, A240, H⟩ := H; replace H : (if t930 = 0 then (if t926 = (t914.length : Int) then ((gangwayref0_EqInstrs.f kj1 t925 ((rd_T26 l0 x3_1).f0)).bind fun t931 => (if t931 = true then (gangwaylaw5_CodeBack.l1 kj1 l0 x3_1 t914 0 ((rd_T26 l0 x3_1).f0) ((rd_T26 l0 x3_1).f1)) else (none))) else (none)) else (none)) = some r := H; have A24 := am_ A240; clear A240; by_cases c25 : t930 = 0
  rotate_left
  ·rw [if_neg c25] at H; exact absurd H (by simp)
  rw [if_pos c25] at H; obtain ⟨c25b0, c25b1⟩ := eb c25; clear c25; by_cases c26 : t926 = (t914.length : Int)
  rotate_left
  ·rw [if_neg c26] at H; exact absurd H (by simp)
  rw [if_pos c26] at H; obtain ⟨c26b0, c26b1⟩ := eb c26; clear c26; replace H := bm_ H; obtain ⟨t931, A270, H⟩ := H; replace H : (if t931 = true then (gangwaylaw5_CodeBack.l1 kj1 l0 x3_1 t914 0 ((rd_T26 l0 x3_1).f0) ((rd_T26 l0 x3_1).f1)) else (none)) = some r := H; have A27 := am_ A270; clear A270; by_cases c28 : t931 = true
  rotate_left
  ·replace c28 := Bool.eq_false_iff.mpr c28; subst c28; have H1 : (none) = some r := by rw [if_neg (show ¬ (false = true) by decide)] at H; exact H
   clear H; have H := H1; clear H1; exact absurd H (by simp)
  subst c28; have H1 : (gangwaylaw5_CodeBack.l1 kj1 l0 x3_1 t914 0 ((rd_T26 l0 x3_1).f0) ((rd_T26 l0 x3_1).f1)) = some r := by rw [if_pos rfl] at H; exact H
  clear H; have H := H1; clear H1; have H' := am_ H; clear H
  try go_wp2
  have n0_ := am_ (Kd.R_drewN HO917.out nd); have n1_ := am_ (blk_drewN BK912.out nd); have n2_ := am_ (pw_below_drewN HB.out nd); clear HO917; clear BK912; clear HB; have HO917 := n0_; have BK912 := n1_; have HB := n2_; clear n0_ n1_ n2_; obtain ⟨w19, hq_⟩ : ∃ q_, q_ = w19.drewN nd := ⟨_, rfl⟩; rw [← hq_] at HO917 BK912 HB ⊢; clear hq_
  have n0_ := am_ (Kd.R_drew HO917.out); have n1_ := am_ (blk_drew BK912.out); have n2_ := am_ (below_drew1 HB.out); clear HO917; clear BK912; clear HB; have HO917 := n0_; have BK912 := n1_; have HB := n2_; clear n0_ n1_ n2_; obtain ⟨Ao30, co30, eo30⟩ := Kd.R_slice HO917.out; (first | subst eo30 | (injection eo30 with f1_ f2_ f3_; have f4_ := f1_.symm; have f5_ := f3_.symm; clear f1_ f2_ f3_; subst f4_; subst f5_)); refine start_ (n := 13) (S := fun w' => w'.cell? ⟨gb912, 0, none⟩ = some (.slice A911_0 ((rd_T26 l0 x3_1).f0).length c911_0) ∧ w'.cell? ⟨gb912, 1, none⟩ = some (.slice A911_1 ((rd_T26 l0 x3_1).f1).length c911_1)) (ds := []) bb13_ (by kernel_rfl) rfl rfl ⟨bc BK912 0, bc BK912 1⟩ (fun hHeld => ?_); refine with_tabW gangwaylaw5_CodeBack.tab9 gangwaylaw5_CodeBack.bits9 (fun HT_ HW_ => ?_); generalize w19.drew = w29 at HO917 BK912 HB hHeld ⊢; refine pure_ (i := 0) (N := some 45) (v := ?_) (a' := ?_) bb12_ rfl rfl (any_of HT_.out (by kernel_rfl)) (fun _ _ _ h => h) (Or.inl ⟨by rfl, ?_⟩) ?_ ?_
  rotate_left; · intro w'; go_simp; with_reducible rfl
  rotate_left; · simp only [Act.put, e1, e2, e3, i64_w, i32_w]; rfl
  refine pure_ (i := 2) (N := some 47) (v := ?_) (a' := ?_) bb11_ rfl rfl (any_of HT_.out (by kernel_rfl)) (fun _ _ _ h => h) (Or.inl ⟨by rfl, ?_⟩) ?_ ?_
  rotate_left; · intro w'; go_simp; with_reducible rfl
  rotate_left; · simp only [Act.put, e1, e2, e3, i64_w, i32_w]; rfl
  refine take_ (i := 3) (N := some 48) (v := ?_) (a' := ?_) bb10_ rfl rfl (take_ofW HT_.out HW_.out (by kernel_rfl)) (fun _ _ _ h => h) (Or.inl ⟨by rfl, ?_⟩) hHeld ?_ ?_
  rotate_left; · rintro w' ⟨s0, s1⟩; go_simp; with_reducible rfl
  rotate_left; · simp only [Act.put, e1, e2, e3, i64_w, i32_w]; rfl
  refine one_ (i := 1) (N := some 46) bb9_ rfl rfl (one_of HT_.out (by kernel_rfl)) (by decide) (fun K hK => ?_); refine goes_ Try.func10 (by kernel_rfl) rfl #[.slice Ao30 t914.length co30] (by rfl) rfl rfl aa_1 ?_
  with_reducible refine (gangwayref0_CopyBytes.calls kj1 _ _ t914 t919 _ ?side1 ?side2 A21.out).mono ?_
  (case side1 => repeat (first | exact (Kd.R_reads' HO917.out).2.2 | (with_reducible refine Kd.C_alloc ?_ _) | (with_reducible refine Kd.C_drewN ?_ _) | (with_reducible refine Kd.C_drew ?_))); (case side2 => exact (Kd.R_reads' HO917.out).2.1)
  rintro e w31 ⟨v920, rfl, ho0, hb⟩
  refine ⟨_, rfl, ?_⟩; have n0_ := am_ (Kd.R_elder' aa_4 (Kd.R_base ho0) hb); have n1_ := am_ (Kd.R_lower (Kd.R_new' ho0 (Kd.R_lt aa_4)) (below_size aa_0)); have n2_ := am_ (bbelow BK912 aa_2 hb); have n3_ := am_ (below_step aa_0 hb); clear HO917; clear BK912; clear HB; have HO917 := n0_; have HO921 := n1_; have BK912 := n2_; have HB := n3_; clear n0_ n1_ n2_ n3_; refine hK.out _ _ ⟨bc BK912 0, bc BK912 1⟩ (fun hHeld => ?_); clear hK K; refine norm_ (a' := ?_) ?_ ?_
  rotate_left
  ·show Act.put _ (some 46) _ = _
   simp only [Act.put, e1, e2, e3, i64_w, i32_w]
   rfl
  refine one_ (i := 4) (N := some 49) bb8_ rfl rfl (one_of HT_.out (by kernel_rfl)) (by decide) (fun K hK => ?_); refine Kd.R_append_rows_step (Kd.int .u8) (w0 := w) w.heap.size (by rfl) (.tmp 46) (.tmp 48) 24 5 (.int .u8 0) 1 rfl Try.underlying24 info5 rfl (by decide) (by omega) v920 t919 ((rd_T26 l0 x3_1).f1) _ _ _ (fun k_ => some k_ ≠ (.slice Ao30 t914.length co30 : Value).ownBlock) (fun _ => False) rfl rfl ?aO ?aR (fun _ _ h => h) (fun _ h => h.elim) ?aF ?aB ?aS ?aL ?_; (case aR => repeat (first | exact (Kd.C_below HR911_1.out HB.out) | (with_reducible refine Kd.C_alloc ?_ _) | (with_reducible refine Kd.C_drewN ?_ _) | (with_reducible refine Kd.C_drew ?_))); (case aB => exact aa_0); (case aF => exact (fun k_ hk => Kd.fresh' (Kd.R_lt aa_4) k_ hk)); (case aO => exact (by (with_reducible repeat (first | apply Kd.R_alloc | apply Kd.R_drewN | apply Kd.R_drew)); exact Kd.R_mono HO921.out (fun _ hk => hk.2))); (case aS => exact (below_size aa_0)); (case aL => have := LMc22.out; omega); intro v923 w32 ho hb hg hat; rw [← Ny922.out] at ho; have n0_ := am_ (blk_grown (g := gb912) (o := .cells #[.slice A911_0 ((rd_T26 l0 x3_1).f0).length c911_0, .slice A911_1 ((rd_T26 l0 x3_1).f1).length c911_1] 26 (0, 0)) aa_2 hg (Kd.R_ne HO921.out BK912.out (by decide))); have n1_ := am_ (Kd.R_after (ok := (fun _ => True)) aa_4 hg hat); have n2_ := am_ (hb); have n3_ := am_ (ho); clear BK912; clear HO917; clear HB; clear HO921; have BK912 := n0_; have HO917 := n1_; have HB := n2_; have HO924 := n3_; clear n0_ n1_ n2_ n3_; clear ho hb hg hat; obtain ⟨Ao33, co33, eo33⟩ := Kd.R_slice HO924.out; (first | subst eo33 | (injection eo33 with f1_ f2_ f3_; have f4_ := f1_.symm; have f5_ := f3_.symm; clear f1_ f2_ f3_; subst f4_; subst f5_)); refine hK.out _ _ ⟨bc BK912 0, bc BK912 1⟩ (fun hHeld => ?_); clear hK K; refine norm_ (a' := ?_) ?_ ?_
  rotate_left
  ·show Act.put _ (some 49) _ = _
   simp only [Act.put, e1, e2, e3, i64_w, i32_w]
   rfl
  refine one_ (i := 5) (N := some 50) bb7_ rfl rfl (one_of HT_.out (by kernel_rfl)) (by decide) (fun K hK => ?_); refine goes_ Try.func11 (by kernel_rfl) rfl #[.slice Ao33 y922.length co33] (by rfl) rfl rfl aa_1 ?_
  with_reducible refine (code_Decode.calls kj1 _ _ y922 t925 t926 t927 _ ?side1 ?side2 A23.out).mono ?_
  (case side1 => repeat (first | exact (Kd.R_reads' HO924.out).2.2 | (with_reducible refine Kd.C_alloc ?_ _) | (with_reducible refine Kd.C_drewN ?_ _) | (with_reducible refine Kd.C_drew ?_))); (case side2 => exact (Kd.R_reads' HO924.out).2.1)
  rintro e w34 ⟨v928, rfl, ho0, hb⟩
  refine ⟨_, rfl, ?_⟩; have n0_ := am_ (Kd.R_below aa_4 hb); have n1_ := am_ (Kd.R_below (by (with_reducible repeat (first | apply Kd.R_alloc | apply Kd.R_drewN | apply Kd.R_drew)); exact HO924.out) hb); have n2_ := am_ (Kd.R_lower ho0 (below_size aa_0)); have n3_ := am_ (bbelow BK912 aa_2 hb); have n4_ := am_ (below_step aa_0 hb); clear HO917; clear HO924; clear BK912; clear HB; have HO917 := n0_; have HO924 := n1_; have HO929 := n2_; have BK912 := n3_; have HB := n4_; clear n0_ n1_ n2_ n3_ n4_; refine hK.out _ _ ⟨bc BK912 0, bc BK912 1⟩ (fun hHeld => ?_); clear hK K; refine norm_ (a' := ?_) ?_ ?_
  rotate_left
  ·show Act.put _ (some 50) _ = _
   simp only [Act.put, e1, e2, e3, i64_w, i32_w]
   rfl
  refine pure_ (i := 6) (N := some 44) (v := ?_) (a' := ?_) bb6_ rfl rfl (any_of HT_.out (by kernel_rfl)) (fun _ _ _ h => h) (Or.inl ⟨by rfl, ?_⟩) ?_ ?_
  rotate_left; · intro w'; go_simp; with_reducible rfl
  rotate_left; · simp only [Act.put, e1, e2, e3, i64_w, i32_w]; rfl
  refine pure_ (i := 7) (N := some 51) (v := ?_) (a' := ?_) bb5_ rfl rfl (any_of HT_.out (by kernel_rfl)) (fun _ _ _ h => h) (Or.inl ⟨by rfl, ?_⟩) ?_ ?_
  rotate_left; · intro w'; go_simp; with_reducible rfl
  rotate_left; · simp only [Act.put, e1, e2, e3, i64_w, i32_w]; rfl
  refine pure_ (i := 8) (N := some 52) (v := ?_) (a' := ?_) bb4_ rfl rfl (any_of HT_.out (by kernel_rfl)) (fun _ _ _ h => h) (Or.inl ⟨by rfl, ?_⟩) ?_ ?_
  rotate_left; · intro w'; go_simp; with_reducible rfl
  rotate_left; · simp only [Act.put, e1, e2, e3, i64_w, i32_w]; rfl
  refine pure_ (i := 9) (N := some 53) (v := ?_) (a' := ?_) bb3_ rfl rfl (any_of HT_.out (by kernel_rfl)) (fun _ _ _ h => h) (Or.inl ⟨by rfl, ?_⟩) ?_ ?_
  rotate_left; · intro w'; go_simp; with_reducible rfl
  rotate_left; · simp only [Act.put, e1, e2, e3, i64_w, i32_w]; rfl
  refine pure_ (i := 10) (N := some 7) (v := ?_) (a' := ?_) bb2_ rfl rfl (any_of HT_.out (by kernel_rfl)) (fun _ _ _ h => h) (Or.inl ⟨by rfl, ?_⟩) ?_ ?_
  rotate_left; · intro w'; go_simp; with_reducible rfl
  rotate_left; · simp only [Act.put, e1, e2, e3, i64_w, i32_w]; rfl
  refine pure_ (i := 11) (N := some 8) (v := ?_) (a' := ?_) bb1_ rfl rfl (any_of HT_.out (by kernel_rfl)) (fun _ _ _ h => h) (Or.inl ⟨by rfl, ?_⟩) ?_ ?_
  rotate_left; · intro w'; go_simp; with_reducible rfl
  rotate_left; · simp only [Act.put, e1, e2, e3, i64_w, i32_w]; rfl
  refine pure_ (i := 12) (N := some 9) (v := ?_) (a' := ?_) bb0_ rfl rfl (any_of HT_.out (by kernel_rfl)) (fun _ _ _ h => h) (Or.inl ⟨by rfl, ?_⟩) ?_ ?_
  rotate_left; · intro w'; go_simp; with_reducible rfl
  rotate_left; · simp only [Act.put, e1, e2, e3, i64_w, i32_w]; rfl
  refine done_ (done_of HT_.out (by kernel_rfl)) ?_
  try go_wp2_with (first | ((with_reducible refine gate_callee (f := 13) rfl ?_); refine goesL_ (some 55) rfl rfl Try.func13 (by kernel_rfl) rfl #[.int .i64 t927] rfl aa_1 ?_; (with_reducible refine (gangwaylaw5_num.calls t927 t930 _ A24.out).mono ?_); rintro e w' ⟨rfl, ⟨nd, rfl⟩⟩; refine ⟨_, rfl, ?_⟩; have Z35_0 : w34.cell? ⟨gb912, 0, none⟩ = some (.slice A911_0 ((rd_T26 l0 x3_1).f0).length c911_0) := (bc BK912 0); have Z35_1 : w34.cell? ⟨gb912, 1, none⟩ = some (.slice A911_1 ((rd_T26 l0 x3_1).f1).length c911_1) := (bc BK912 1); have Y35_0 := blk_frozen BK912.out 0; have Y35_1 := blk_frozen BK912.out 1; obtain ⟨Ao36, co36, eo36⟩ := Kd.R_slice HO929.out; subst eo36) | (go_at_call 14; (with_reducible refine (gangwayref0_EqInstrs.calls kj1 _ _ t925 _ _ ((rd_T26 l0 x3_1).f0) true _ ?side1 ?side2 ?side3 ?side4 A27.out).mono ?_); (case side1 => repeat (first | exact (Kd.R_reads' HO929.out).2.2 | (with_reducible refine Kd.C_alloc ?_ _) | (with_reducible refine Kd.C_drewN ?_ _) | (with_reducible refine Kd.C_drew ?_))); (case side2 => exact (Kd.R_reads' HO929.out).2.1); (case side3 => repeat (first | exact (Kd.C_below HR911_0.out aa_0) | (with_reducible refine Kd.C_alloc ?_ _) | (with_reducible refine Kd.C_drewN ?_ _) | (with_reducible refine Kd.C_drew ?_))); (case side4 => exact HC911_0.out); rintro e w37 ⟨rfl, hb⟩; have N_ := m_ (Kd.R_below aa_4 hb) <| m_ (Kd.R_below (by (with_reducible repeat (first | apply Kd.R_alloc | apply Kd.R_drewN | apply Kd.R_drew)); exact HO924.out) hb) <| m_ (Kd.R_below (by (with_reducible repeat (first | apply Kd.R_alloc | apply Kd.R_drewN | apply Kd.R_drew)); exact HO929.out) hb) <| m_ (bbelow BK912 aa_2 hb) <| am_ (below_step aa_0 hb); clear HO917 HO924 HO929 BK912 HB; obtain ⟨HO917, HO924, HO929, BK912, HB⟩ := N_; (try clear hb); (try clear hb2); (try clear hk); (try clear hi)))
  go_loopg [10] kj1 (fun kq v10 w' => ∃ (x10_3 : Int), v10 = .int .i64 x10_3 ∧ Aside0 (gangwaylaw5_CodeBack.l1 kq l0 x3_1 t914 x10_3 ((rd_T26 l0 x3_1).f0) ((rd_T26 l0 x3_1).f1) = some r) ∧ Aside0 (kq ≤ kj1) ∧ Aside0 (Kd.R (Kd.int .u8) 5 w' w.heap.size (fun _ => True) (.slice Ao30 t914.length co30) t914) ∧ Aside0 (w'.heap[gb912]? = some (.cells #[(.slice A911_0 ((rd_T26 l0 x3_1).f0).length c911_0), (.slice A911_1 ((rd_T26 l0 x3_1).f1).length c911_1)] 26 (0, 0))) ∧ Aside0 (Below w.heap.size w w'))
  case atStart => exact ⟨(0), (es_), H', ⟨Nat.le_refl _⟩, ⟨by (with_reducible repeat (first | apply Kd.R_alloc | apply Kd.R_drewN | apply Kd.R_drew)); exact Kd.R_mono HO917.out (fun _ hk => trivial)⟩, ⟨aa_2⟩, ⟨aa_0⟩⟩
  case round =>
  clear H'; (try clear c4); (try clear c5b0); (try clear c6b0); (try clear c8); (try clear c20b0); (try clear c20b1); (try clear c25b0); (try clear c25b1); (try clear c26b0); (try clear c26b1); (try clear c28); (try clear Z16_0); (try clear Z16_1); (try clear Z18_0); (try clear Z18_1); (try clear Z35_0); (try clear Z35_1); (try clear Y16_0); (try clear Y16_1); (try clear Y18_0); (try clear Y18_1); (try clear Y35_0); (try clear Y35_1); (try clear hx911_0); (try clear hx911_1); (try clear p911); (try clear q911); obtain ⟨x10_3, rfl, HA, HK3, HO_5, BK912, HB⟩ := hrel
  cases gk with
  | zero => exact absurd HA.out (by simp [gangwaylaw5_CodeBack.l1])
  | succ k3 =>
  have H := HA.out; clear HA; simp only [gangwaylaw5_CodeBack.l1] at H; by_cases c38 : x10_3 < (t914.length : Int)
  rotate_left
  ·rw [if_neg c38] at H; have c38b0 : decide (x10_3 < (t914.length : Int)) = false := decide_eq_false c38; clear c38; have H' := am_ H; clear H; go_wp2; go_meet
   case rel => exact ⟨_, H', ⟨by have := HK1.out; have := HJ1.out; have := HK3.out; first | omega | exact Nat.le_refl _⟩, ⟨aa_2⟩, ⟨aa_0⟩⟩
  rw [if_pos c38] at H; have c38b0 : decide (x10_3 < (t914.length : Int)) = true := decide_eq_true c38; clear c38; by_cases c39 : 0 ≤ x10_3
  rotate_left
  ·rw [if_neg c39] at H; exact absurd H (by simp)
  rw [if_pos c39] at H; have c39b0 := eq_true c39; have c39b1 : decide (0 ≤ x10_3) = true := decide_eq_true c39; clear c39; by_cases c40 : x10_3 ≤ (t914.length : Int)
  rotate_left
  ·rw [if_neg c40] at H; exact absurd H (by simp)
  rw [if_pos c40] at H; have c40b0 := eq_true c40; have c40b1 : decide (x10_3 ≤ (t914.length : Int)) = true := decide_eq_true c40; clear c40; obtain ⟨y942, hy942⟩ : ∃ y_ : List Int, y_ = (t914.take (x10_3 : Int).toNat) := ⟨_, rfl⟩
  replace H : ((code_Decode.f k3 y942).bind fun bt946 => ((gangwaylaw5_num.f bt946.2.2).bind fun t951 => (if t951 = 100 then (gangwaylaw5_CodeBack.l1 k3 l0 x3_1 t914 (wrap64 ((wrap64 (x10_3 + 1)) + (wrap64 ((t914.length : Int) / 20)))) ((rd_T26 l0 x3_1).f0) ((rd_T26 l0 x3_1).f1)) else (none)))) = some r := by first | (rw [hy942]; with_reducible exact H) | (have H2_ := (Option.bind_some _ _).symm.trans H; rw [hy942]; with_reducible exact H2_) | (have H2_ := (Option.bind_some _ _).symm.trans H; with_reducible exact H2_) | with_reducible exact H | (rw [hy942]; exact H) | exact H
  have Ny942 := am_ hy942; clear hy942; replace H := bm_ H; obtain ⟨⟨t946, t947, t948⟩, A410, H⟩ := H; replace H : ((gangwaylaw5_num.f t948).bind fun t951 => (if t951 = 100 then (gangwaylaw5_CodeBack.l1 k3 l0 x3_1 t914 (wrap64 ((wrap64 (x10_3 + 1)) + (wrap64 ((t914.length : Int) / 20)))) ((rd_T26 l0 x3_1).f0) ((rd_T26 l0 x3_1).f1)) else (none))) = some r := H; have A41 := am_ A410; clear A410; replace H := bm_ H; obtain ⟨t951, A420, H⟩ := H; replace H : (if t951 = 100 then (gangwaylaw5_CodeBack.l1 k3 l0 x3_1 t914 (wrap64 ((wrap64 (x10_3 + 1)) + (wrap64 ((t914.length : Int) / 20)))) ((rd_T26 l0 x3_1).f0) ((rd_T26 l0 x3_1).f1)) else (none)) = some r := H; have A42 := am_ A420; clear A420; by_cases c43 : t951 = 100
  rotate_left
  ·rw [if_neg c43] at H; exact absurd H (by simp)
  rw [if_pos c43] at H; obtain ⟨c43b0, c43b1⟩ := eb c43; clear c43; have H' := am_ H; clear H; have q44 : (x10_3 : Int) ≤ ((t914.length : Int) : Int) := of_decide_eq_true (by first | (with_reducible assumption) | assumption); obtain ⟨i044, hi044, _, hsz44, _⟩ := info_parts info5; have hroom44 : t914.length ≤ co30 := (Kd.R_reads' HO_5.out).2.1; have hC44 : Kd.C (Kd.int .u8) _ Ao30 t914.length t914 := (Kd.R_reads' HO_5.out).2.2; have hcut44 := cut_to (P := Try.prog) 24 5 .i64 Try.underlying24 hi044 Ao30 t914.length co30 x10_3 (of_decide_eq_true (by first | (with_reducible assumption) | assumption)) q44 hroom44; have hr44 := Kd.C_take (m := (x10_3 : Int).toNat) hC44 (by omega); have hy44 : y942.length = (x10_3 : Int).toNat := (by rw [Ny942.out, List.length_take]; omega); rw [← Ny942.out] at hr44; rw [← hy44] at hcut44; have HR945 := am_ hr44; have HC945 := am_ (show y942.length ≤ co30 from by omega); clear hr44 hC44 hroom44 hi044 hsz44; have KY44 := am_ hy44; clear hy44; have KL44 := am_ (show (x10_3 : Int).toNat ≤ t914.length from by omega); replace q44 := eq_true q44
  go_wp2_with (first | ((with_reducible refine gate_callee (f := 11) rfl ?_); refine goesL_ (some 84) rfl rfl Try.func11 (by kernel_rfl) rfl #[.slice Ao30 y942.length co30] rfl aa_1 ?_; (with_reducible refine (code_Decode.calls k3 _ _ y942 t946 t947 t948 _ ?side1 ?side2 A41.out).mono ?_); (case side1 => repeat (first | exact (by repeat (first | (with_reducible exact HR945.out) | (with_reducible refine Kd.C_alloc ?_ _) | (with_reducible refine Kd.C_drewN ?_ _) | (with_reducible refine Kd.C_drew ?_) | exact HR945.out)) | (with_reducible refine Kd.C_alloc ?_ _) | (with_reducible refine Kd.C_drewN ?_ _) | (with_reducible refine Kd.C_drew ?_))); (case side2 => exact HC945.out); rintro e w45 ⟨v949, rfl, ho0, hb⟩; refine ⟨_, rfl, ?_⟩; have N_ := m_ (Kd.R_below (by (with_reducible repeat (first | apply Kd.R_alloc | apply Kd.R_drewN | apply Kd.R_drew)); exact HO_5.out) hb) <| m_ (Kd.R_lower ho0 (below_size aa_0)) <| m_ (bbelow BK912 aa_2 hb) <| m_ (Kd.C_below (by repeat (first | (with_reducible exact HR945.out) | (with_reducible refine Kd.C_alloc ?_ _) | (with_reducible refine Kd.C_drewN ?_ _) | (with_reducible refine Kd.C_drew ?_) | exact HR945.out)) hb) <| am_ (below_step aa_0 hb); clear HO_5 BK912 HR945 HB; obtain ⟨HO_5, HO950, BK912, HR945, HB⟩ := N_; (try clear hb); (try clear hb2); (try clear hk); (try clear hi); (try clear ho0)) | ((with_reducible refine gate_callee (f := 13) rfl ?_); refine goesL_ (some 89) rfl rfl Try.func13 (by kernel_rfl) rfl #[.int .i64 t948] rfl aa_1 ?_; (with_reducible refine (gangwaylaw5_num.calls t948 t951 _ A42.out).mono ?_); rintro e w' ⟨rfl, ⟨nd, rfl⟩⟩; refine ⟨_, rfl, ?_⟩))
  go_roundg k3
  case measure => have := HK1.out; have := HJ1.out; have := HK3.out; omega
  case rel => exact ⟨(wrap64 ((wrap64 (x10_3 + 1)) + (wrap64 ((t914.length : Int) / 20)))), (es_), H', ⟨by have := HK1.out; have := HJ1.out; have := HK3.out; omega⟩, ⟨by (with_reducible repeat (first | apply Kd.R_alloc | apply Kd.R_drewN | apply Kd.R_drew)); exact HO_5.out⟩, ⟨aa_2⟩, ⟨aa_0⟩⟩
 case rest =>
 clear HC14; (try clear c4); (try clear c5b0); (try clear c6b0); (try clear c8); (try clear Z16_0); (try clear Z16_1); (try clear Z18_0); (try clear Z18_1); (try clear Y16_0); (try clear Y16_1); (try clear Y18_0); (try clear Y18_1); (try clear hx911_0); (try clear hx911_1); (try clear p911); (try clear q911); obtain ⟨kq, HA, HJ13, BK912, HB⟩ := hcut
 cases kq with
 | zero => exact absurd HA.out (by simp [j3])
 | succ kj13 =>
 have H := HA.out; clear HA; simp only [j3] at H; replace H := bm_ H; obtain ⟨⟨t952, t953, t954⟩, A460, H⟩ := H; replace H : ((gangwaylaw5_num.f t954).bind fun t957 => (if t957 = 0 then ((code_Encode.f kj13 t952).bind fun bt958 => ((gangwaylaw5_num.f bt958.2).bind fun t962 => (if t962 = 0 then (if (bt958.1.length : Int) > t953 then (none) else ((code_Check.f kj13 t952).bind fun t963 => ((gangwaylaw5_num.f t963).bind fun t964 => (if t964 = 0 then (gangwaylaw5_CodeBack.l0 kj13 l0 (wrap64 (x3_1 + 1))) else (none))))) else (none)))) else (gangwaylaw5_CodeBack.l0 kj13 l0 (wrap64 (x3_1 + 1))))) = some r := H; have A46 := am_ A460; clear A460; replace H := bm_ H; obtain ⟨t957, A470, H⟩ := H; replace H : (if t957 = 0 then ((code_Encode.f kj13 t952).bind fun bt958 => ((gangwaylaw5_num.f bt958.2).bind fun t962 => (if t962 = 0 then (if (bt958.1.length : Int) > t953 then (none) else ((code_Check.f kj13 t952).bind fun t963 => ((gangwaylaw5_num.f t963).bind fun t964 => (if t964 = 0 then (gangwaylaw5_CodeBack.l0 kj13 l0 (wrap64 (x3_1 + 1))) else (none))))) else (none)))) else (gangwaylaw5_CodeBack.l0 kj13 l0 (wrap64 (x3_1 + 1)))) = some r := H; have A47 := am_ A470; clear A470; by_cases c48 : t957 = 0
 rotate_left
 ·rw [if_neg c48] at H; obtain ⟨c48b0, c48b1⟩ := nb c48; have H' := am_ H; clear H; have Z62_0 : wc.cell? ⟨gb912, 0, none⟩ = some (.slice A911_0 ((rd_T26 l0 x3_1).f0).length c911_0) := bc BK912 0; have Z62_1 : wc.cell? ⟨gb912, 1, none⟩ = some (.slice A911_1 ((rd_T26 l0 x3_1).f1).length c911_1) := bc BK912 1; have Y62_0 := blk_frozen BK912.out 0; have Y62_1 := blk_frozen BK912.out 1
  go_wp2_with (first | ((with_reducible refine gate_callee (f := 11) rfl ?_); refine goesL_ (some 94) rfl rfl Try.func11 (by kernel_rfl) rfl #[.slice A911_1 ((rd_T26 l0 x3_1).f1).length c911_1] rfl aa_1 ?_; (with_reducible refine (code_Decode.calls kj13 _ _ ((rd_T26 l0 x3_1).f1) t952 t953 t954 _ ?side1 ?side2 A46.out).mono ?_); (case side1 => exact aa_5); (case side2 => exact HC911_1.out); rintro e w63 ⟨v955, rfl, ho0, hb⟩; refine ⟨_, rfl, ?_⟩; have N_ := m_ (Kd.R_lower ho0 (below_size aa_0)) <| m_ (bbelow BK912 aa_2 hb) <| am_ (below_step aa_0 hb); clear BK912 HB; obtain ⟨HO956, BK912, HB⟩ := N_; (try clear hb); (try clear hb2); (try clear hk); (try clear hi); (try clear ho0)) | ((with_reducible refine gate_callee (f := 13) rfl ?_); refine goesL_ (some 99) rfl rfl Try.func13 (by kernel_rfl) rfl #[.int .i64 t954] rfl aa_1 ?_; (with_reducible refine (gangwaylaw5_num.calls t954 t957 _ A47.out).mono ?_); rintro e w' ⟨rfl, ⟨nd, rfl⟩⟩; refine ⟨_, rfl, ?_⟩))
  go_roundg kj13
  case measure => have := HK1.out; have := HJ1.out; have := HJ13.out; omega
  case rel => exact ⟨(wrap64 (x3_1 + 1)), (es_), H', ⟨by have := HK1.out; have := HJ1.out; have := HJ13.out; omega⟩, ⟨aa_0⟩⟩
 rw [if_pos c48] at H; obtain ⟨c48b0, c48b1⟩ := eb c48; clear c48; replace H := bm_ H; obtain ⟨⟨t958, t959⟩, A490, H⟩ := H; replace H : ((gangwaylaw5_num.f t959).bind fun t962 => (if t962 = 0 then (if (t958.length : Int) > t953 then (none) else ((code_Check.f kj13 t952).bind fun t963 => ((gangwaylaw5_num.f t963).bind fun t964 => (if t964 = 0 then (gangwaylaw5_CodeBack.l0 kj13 l0 (wrap64 (x3_1 + 1))) else (none))))) else (none))) = some r := H; have A49 := am_ A490; clear A490; replace H := bm_ H; obtain ⟨t962, A500, H⟩ := H; replace H : (if t962 = 0 then (if (t958.length : Int) > t953 then (none) else ((code_Check.f kj13 t952).bind fun t963 => ((gangwaylaw5_num.f t963).bind fun t964 => (if t964 = 0 then (gangwaylaw5_CodeBack.l0 kj13 l0 (wrap64 (x3_1 + 1))) else (none))))) else (none)) = some r := H; have A50 := am_ A500; clear A500; by_cases c51 : t962 = 0
 rotate_left
 ·rw [if_neg c51] at H; exact absurd H (by simp)
 rw [if_pos c51] at H; obtain ⟨c51b0, c51b1⟩ := eb c51; clear c51; by_cases c52 : (t958.length : Int) > t953
 ·rw [if_pos c52] at H; exact absurd H (by simp)
 rw [if_neg c52] at H; have c52b0 : decide (t953 < (t958.length : Int)) = false := decide_eq_false c52; clear c52; replace H := bm_ H; obtain ⟨t963, A530, H⟩ := H; replace H : ((gangwaylaw5_num.f t963).bind fun t964 => (if t964 = 0 then (gangwaylaw5_CodeBack.l0 kj13 l0 (wrap64 (x3_1 + 1))) else (none))) = some r := H; have A53 := am_ A530; clear A530; replace H := bm_ H; obtain ⟨t964, A540, H⟩ := H; replace H : (if t964 = 0 then (gangwaylaw5_CodeBack.l0 kj13 l0 (wrap64 (x3_1 + 1))) else (none)) = some r := H; have A54 := am_ A540; clear A540; by_cases c55 : t964 = 0
 rotate_left
 ·rw [if_neg c55] at H; exact absurd H (by simp)
 rw [if_pos c55] at H; obtain ⟨c55b0, c55b1⟩ := eb c55; clear c55; have H' := am_ H; clear H; have Z56_0 : wc.cell? ⟨gb912, 0, none⟩ = some (.slice A911_0 ((rd_T26 l0 x3_1).f0).length c911_0) := bc BK912 0; have Z56_1 : wc.cell? ⟨gb912, 1, none⟩ = some (.slice A911_1 ((rd_T26 l0 x3_1).f1).length c911_1) := bc BK912 1; have Y56_0 := blk_frozen BK912.out 0; have Y56_1 := blk_frozen BK912.out 1
 go_wp2_with (first | ((with_reducible refine gate_callee (f := 11) rfl ?_); refine goesL_ (some 94) rfl rfl Try.func11 (by kernel_rfl) rfl #[.slice A911_1 ((rd_T26 l0 x3_1).f1).length c911_1] rfl aa_1 ?_; (with_reducible refine (code_Decode.calls kj13 _ _ ((rd_T26 l0 x3_1).f1) t952 t953 t954 _ ?side1 ?side2 A46.out).mono ?_); (case side1 => exact aa_5); (case side2 => exact HC911_1.out); rintro e w57 ⟨v955, rfl, ho0, hb⟩; refine ⟨_, rfl, ?_⟩; have N_ := m_ (Kd.R_lower ho0 (below_size aa_0)) <| m_ (bbelow BK912 aa_2 hb) <| am_ (below_step aa_0 hb); clear BK912 HB; obtain ⟨HO956, BK912, HB⟩ := N_; (try clear hb); (try clear hb2); (try clear hk); (try clear hi); (try clear ho0)) | ((with_reducible refine gate_callee (f := 13) rfl ?_); refine goesL_ (some 99) rfl rfl Try.func13 (by kernel_rfl) rfl #[.int .i64 t954] rfl aa_1 ?_; (with_reducible refine (gangwaylaw5_num.calls t954 t957 _ A47.out).mono ?_); rintro e w' ⟨rfl, ⟨nd, rfl⟩⟩; refine ⟨_, rfl, ?_⟩; obtain ⟨Ao58, co58, eo58⟩ := Kd.R_slice HO956.out; subst eo58) | ((with_reducible refine gate_callee (f := 20) rfl ?_); refine goesL_ (some 103) rfl rfl Try.func20 (by kernel_rfl) rfl #[.slice Ao58 t952.length co58] rfl aa_1 ?_; (with_reducible refine (code_Encode.calls kj13 _ _ t952 t958 t959 _ ?side1 ?side2 A49.out).mono ?_); (case side1 => exact aa_6); (case side2 => exact (Kd.R_reads' HO956.out).2.1); rintro e w59 ⟨v960, rfl, ho0, hb⟩; refine ⟨_, rfl, ?_⟩; have N_ := m_ (Kd.R_below (by (with_reducible repeat (first | apply Kd.R_alloc | apply Kd.R_drewN | apply Kd.R_drew)); exact HO956.out) hb) <| m_ (Kd.R_lower ho0 (below_size aa_0)) <| m_ (bbelow BK912 aa_2 hb) <| am_ (below_step aa_0 hb); clear HO956 BK912 HB; obtain ⟨HO956, HO961, BK912, HB⟩ := N_; (try clear hb); (try clear hb2); (try clear hk); (try clear hi); (try clear ho0)) | ((with_reducible refine gate_callee (f := 13) rfl ?_); refine goesL_ (some 107) rfl rfl Try.func13 (by kernel_rfl) rfl #[.int .i64 t959] rfl aa_1 ?_; (with_reducible refine (gangwaylaw5_num.calls t959 t962 _ A50.out).mono ?_); rintro e w' ⟨rfl, ⟨nd, rfl⟩⟩; refine ⟨_, rfl, ?_⟩; obtain ⟨Ao60, co60, eo60⟩ := Kd.R_slice HO961.out; subst eo60) | (go_at_call 18; (with_reducible refine (code_Check.calls kj13 _ _ t952 t963 _ ?side1 ?side2 A53.out).mono ?_); (case side1 => exact aa_6); (case side2 => exact (Kd.R_reads' HO956.out).2.1); rintro e w61 ⟨rfl, hb⟩; have N_ := m_ (Kd.R_below (by (with_reducible repeat (first | apply Kd.R_alloc | apply Kd.R_drewN | apply Kd.R_drew)); exact HO956.out) hb) <| m_ (Kd.R_below (by (with_reducible repeat (first | apply Kd.R_alloc | apply Kd.R_drewN | apply Kd.R_drew)); exact HO961.out) hb) <| m_ (bbelow BK912 aa_2 hb) <| am_ (below_step aa_0 hb); clear HO956 HO961 BK912 HB; obtain ⟨HO956, HO961, BK912, HB⟩ := N_; (try clear hb); (try clear hb2); (try clear hk); (try clear hi)) | (go_at_call 13; (with_reducible refine (gangwaylaw5_num.calls t963 t964 _ A54.out).mono ?_); rintro e w' ⟨rfl, ⟨nd, rfl⟩⟩))
 go_roundg kj13
 case measure => have := HK1.out; have := HJ1.out; have := HJ13.out; omega
 case rel => exact ⟨(wrap64 (x3_1 + 1)), (es_), H', ⟨by have := HK1.out; have := HJ1.out; have := HJ13.out; omega⟩, ⟨aa_0⟩⟩
/-- THE ONE PURE STATEMENT of gangwaylaw5_CodeBack: yours. -/
def gangwaylaw5_CodeBack.Pure : Prop := ∀ (x0 : List (S26)), (x0.length * 48 ≤ 140737488351232 ∧ ∀ y965 ∈ x0, okT26 y965) → ∃ k, gangwaylaw5_CodeBack.f k x0 = some true
theorem gangwaylaw5_CodeBack.walk (P : gangwaylaw5_CodeBack.Pure) (w : World) (x0 : List (S26)) (A0 : Option Addr) (c0 : Nat) (hr0 : Kd.C k26 w A0 x0.length x0) (hc0 : x0.length ≤ c0) (hok0 : (x0.length * 48 ≤ 140737488351232 ∧ ∀ y966 ∈ x0, okT26 y966)) :
  Calls Try.prog 8 #[.slice A0 x0.length c0] w fun e w' => e = .returned (.bool true) ∧ Below w.heap.size w w' := by
 obtain ⟨k, h⟩ := P x0 hok0; refine (gangwaylaw5_CodeBack.calls k _ _ x0 true w hr0 hc0 h).mono ?_
 rintro e w' ⟨rfl, hd⟩
 exact ⟨rfl, hd⟩

end Go.Proofs.Ytlahigmoljflkaa.PAll
