import Derived.Test.YtlahigmoljflkaaPAllx0
import Derived.Test.YtlahigmoljflkaaPAllx1
import Derived.Test.YtlahigmoljflkaaPAllx12
import Derived.Test.YtlahigmoljflkaaPAllx13
import Derived.Test.YtlahigmoljflkaaPAllx14
import Derived.Test.YtlahigmoljflkaaPAllx15
import Derived.Test.YtlahigmoljflkaaPAllx18
import Derived.Test.YtlahigmoljflkaaPAllx19
import Derived.Test.YtlahigmoljflkaaPAllx21
import Derived.Test.YtlahigmoljflkaaPAllx25
import Derived.Test.YtlahigmoljflkaaPAllx28
import Derived.Test.YtlahigmoljflkaaPAllx29
namespace Go.Proofs.Ytlahigmoljflkaa.PAll
open Go.RowKit Go.Proofs.YtlahigmoljflkaaW.PrintWords Go.Proofs.YtlahigmoljflkaaW.PrintLast Go.Proofs.YtlahigmoljflkaaW.PrintMore
attribute [local go_sem] max2_int min2_int max_two min_two max_three min_three max_four min_four   -- for this text's walks alone
set_option linter.unusedVariables false
set_option linter.unusedSimpArgs false

theorem gangwaylaw5_CodeEncodes.eb {α : Type} [BEq α] [LawfulBEq α] {a b : α} (h : a = b) : (a == b) = true ∧ (a != b) = false := ⟨beq_iff_eq.mpr h, bne_eq_false_iff_eq.mpr h⟩
theorem gangwaylaw5_CodeEncodes.m_ {p q : Prop} (h : p) (k : q) : Aside0 p ∧ q := ⟨Aside0.mk h, k⟩
abbrev gangwaylaw5_CodeEncodes.t : Bool := true
theorem gangwaylaw5_CodeEncodes.bc {w : World} {g : Nat} {cs : Array Value} {t : TypeId} (h : Aside0 (w.heap[g]? = some (.cells cs t (0, 0)))) (i : Nat) {v : Value} (e : cs[i]? = some v := by rfl) : w.cell? ⟨g, i, none⟩ = some v := (blk_cell h.out i).trans e
theorem gangwaylaw5_CodeEncodes.bbelow {W0 w w1 : World} {g : Nat} {o : Obj} (_b : Aside0 (W0.heap[g]? = some o)) (h : w.heap[g]? = some o) (hb : Below w.heap.size w w1) : w1.heap[g]? = some o := blk_below h hb
theorem gangwaylaw5_CodeEncodes.e1 {α : Type _} (xs : List α) (i : Nat) (a : α) : xs.toArray.setIfInBounds i a = (xs.set i a).toArray := by simp
theorem gangwaylaw5_CodeEncodes.e2 {α : Type _} (x a : α) (xs : List α) : (x :: xs).set 0 a = a :: xs := rfl
theorem gangwaylaw5_CodeEncodes.e3 {α : Type _} (x a : α) (xs : List α) (n : Nat) : (x :: xs).set (n + 1) a = x :: xs.set n a := rfl
theorem gangwaylaw5_CodeEncodes.up {w w' : World} {a : Addr} {v : Value} (hb : Aside0 (Below w.heap.size w w')) (h : w.cell? a = some v) : w'.cell? a = some v := (hb.out.cell (World.block_lt_of_cell? w _ h)).trans h
mutual
def gangwaylaw5_CodeEncodes.l0 : Nat → List (S26) → Int → Option (Bool)
 | 0, _, _ => none
 | k + 1, x0, x3 => if x3 < (x0.length : Int) then (gangwaylaw5_CodeEncodes.j1 k x0 x3 (decide (x3 < 10))) else (gangwaylaw5_CodeEncodes.j1 k x0 x3 false)
def gangwaylaw5_CodeEncodes.j1 : Nat → List (S26) → Int → Bool → Option (Bool)
 | 0, _, _, _ => none
 | k + 1, x0, x3, x17 => if x17 = true then (if 0 ≤ x3 then (if x3 < (x0.length : Int) then ((gangwaylaw5_heavy.f k ((rd_T26 x0 x3).f0) ((rd_T26 x0 x3).f1)).bind fun t891 => (if t891 = true then (some true) else ((gangwayref5_May.f k ((rd_T26 x0 x3).f0) 40).bind fun t892 => (if t892 = true then ((gangwayref5_Bytes.f k ((rd_T26 x0 x3).f0)).bind fun t893 => (gangwaylaw5_CodeEncodes.j2 k x0 x3 0 t893 ((rd_T26 x0 x3).f0) ((rd_T26 x0 x3).f1))) else (gangwaylaw5_CodeEncodes.j2 k x0 x3 100 ([] : List Int) ((rd_T26 x0 x3).f0) ((rd_T26 x0 x3).f1)))))) else (none)) else (none)) else ((gangwaylaw5_wakes.f k).bind fun t888 => (some t888))
def gangwaylaw5_CodeEncodes.j2 : Nat → List (S26) → Int → Int → List Int → List (S45) → List Int → Option (Bool)
 | 0, _, _, _, _, _, _ => none
 | k + 1, x0, x3, x5, x6, x0z, x1z => (gangwayref0_CopyInstrs.f k x0z).bind fun t896 => ((code_Encode.f k t896).bind fun bt899 => ((code_Check.f k t896).bind fun t903 => ((gangwaylaw5_num.f t903).bind fun t904 => (if t904 = x5 then ((gangwaylaw5_num.f bt899.2).bind fun t905 => (if t905 = x5 then ((gangwayref0_EqBytes.f k bt899.1 x6).bind fun t906 => (if t906 = true then ((gangwayref0_EqInstrs.f k t896 x0z).bind fun t907 => (if t907 = true then (gangwaylaw5_CodeEncodes.l0 k x0 (wrap64 (x3 + 1))) else (none))) else (none))) else (none))) else (none)))))
end
def gangwaylaw5_CodeEncodes.f (k : Nat) (l0 : List (S26)) : Option (Bool) := gangwaylaw5_CodeEncodes.l0 k l0 0
theorem gangwaylaw5_CodeEncodes.mono_l : ∀ k, (∀ y0 y1, LeO (gangwaylaw5_CodeEncodes.l0 k y0 y1) (gangwaylaw5_CodeEncodes.l0 (k + 1) y0 y1)) ∧ (∀ y0 y1 y2, LeO (gangwaylaw5_CodeEncodes.j1 k y0 y1 y2) (gangwaylaw5_CodeEncodes.j1 (k + 1) y0 y1 y2)) ∧ (∀ y0 y1 y2 y3 y4 y5, LeO (gangwaylaw5_CodeEncodes.j2 k y0 y1 y2 y3 y4 y5) (gangwaylaw5_CodeEncodes.j2 (k + 1) y0 y1 y2 y3 y4 y5))
 | 0 => ⟨fun _ _ r h => by simp [gangwaylaw5_CodeEncodes.l0] at h, fun _ _ _ r h => by simp [gangwaylaw5_CodeEncodes.j1] at h, fun _ _ _ _ _ _ r h => by simp [gangwaylaw5_CodeEncodes.j2] at h⟩
 | k + 1 => by
  obtain ⟨ih0, ih1, ih2⟩ := gangwaylaw5_CodeEncodes.mono_l k; refine ⟨?_, ?_, ?_⟩ <;> (intros; (first | unfold gangwaylaw5_CodeEncodes.l0 | unfold gangwaylaw5_CodeEncodes.j1 | unfold gangwaylaw5_CodeEncodes.j2); repeat' first | (with_reducible apply ih0) | (with_reducible apply ih1) | (with_reducible apply ih2) | (with_reducible exact code_Check.mono _ _) | (with_reducible exact code_Encode.mono _ _) | (with_reducible exact gangwaylaw5_heavy.mono _ _ _) | (with_reducible exact gangwaylaw5_wakes.mono _) | (with_reducible exact gangwayref0_CopyInstrs.mono _ _) | (with_reducible exact gangwayref0_EqBytes.mono _ _ _) | (with_reducible exact gangwayref0_EqInstrs.mono _ _ _) | (with_reducible exact gangwayref5_Bytes.mono _ _) | (with_reducible exact gangwayref5_May.mono _ _ _) | (with_reducible exact LeO.refl _) | (with_reducible exact LeO.none _) | (with_reducible refine LeO.ite ?_ ?_) | (with_reducible refine LeO.bind ?_ (fun _ => ?_)) | apply ih0 | apply ih1 | apply ih2 | exact code_Check.mono _ _ | exact code_Encode.mono _ _ | exact gangwaylaw5_heavy.mono _ _ _ | exact gangwaylaw5_wakes.mono _ | exact gangwayref0_CopyInstrs.mono _ _ | exact gangwayref0_EqBytes.mono _ _ _ | exact gangwayref0_EqInstrs.mono _ _ _ | exact gangwayref5_Bytes.mono _ _ | exact gangwayref5_May.mono _ _ _ | exact LeO.none _ | refine LeO.ite ?_ ?_ | refine LeO.bind ?_ (fun _ => ?_))
theorem gangwaylaw5_CodeEncodes.mono : ∀ a0 k, LeO (gangwaylaw5_CodeEncodes.f k a0) (gangwaylaw5_CodeEncodes.f (k + 1) a0) := by
 intro a0 k; obtain ⟨ih0, ih1, ih2⟩ := gangwaylaw5_CodeEncodes.mono_l k
 unfold gangwaylaw5_CodeEncodes.f
 repeat' first
   | (with_reducible apply ih0)
   | (with_reducible apply ih1)
   | (with_reducible apply ih2)
   | (with_reducible exact code_Check.mono _ _)
   | (with_reducible exact code_Encode.mono _ _)
   | (with_reducible exact gangwaylaw5_heavy.mono _ _ _)
   | (with_reducible exact gangwaylaw5_wakes.mono _)
   | (with_reducible exact gangwayref0_CopyInstrs.mono _ _)
   | (with_reducible exact gangwayref0_EqBytes.mono _ _ _)
   | (with_reducible exact gangwayref0_EqInstrs.mono _ _ _)
   | (with_reducible exact gangwayref5_Bytes.mono _ _)
   | (with_reducible exact gangwayref5_May.mono _ _ _)
   | (with_reducible exact LeO.refl _)
   | (with_reducible exact LeO.none _)
   | (with_reducible refine LeO.ite ?_ ?_)
   | (with_reducible refine LeO.bind ?_ (fun _ => ?_))
   | apply ih0
   | apply ih1
   | apply ih2
   | exact code_Check.mono _ _
   | exact code_Encode.mono _ _
   | exact gangwaylaw5_heavy.mono _ _ _
   | exact gangwaylaw5_wakes.mono _
   | exact gangwayref0_CopyInstrs.mono _ _
   | exact gangwayref0_EqBytes.mono _ _ _
   | exact gangwayref0_EqInstrs.mono _ _ _
   | exact gangwayref5_Bytes.mono _ _
   | exact gangwayref5_May.mono _ _ _
   | exact LeO.none _
   | refine LeO.ite ?_ ?_
   | refine LeO.bind ?_ (fun _ => ?_)
theorem gangwaylaw5_CodeEncodes.aa_0 {p : Prop} (h : p := by repeat (first | (with_reducible first | exact HB.out | apply below_alloc | apply pw_below_drewN | apply below_drew1 | refine below_set ?_ GE890.out) | exact HB.out)) : p := h
theorem gangwaylaw5_CodeEncodes.aa_1 {p : Prop} (h : p := by (try simp only [List.map_toArray, List.map_cons, List.map_nil]); first | done | rfl | (simp only [List.length_drop, List.length_take]; rfl)) : p := h
theorem gangwaylaw5_CodeEncodes.aa_2 {p : Prop} (h : p := by repeat (first | (with_reducible first | exact HB.out | apply below_alloc | apply pw_below_drewN | apply below_drew1) | exact HB.out)) : p := h
theorem gangwaylaw5_CodeEncodes.aa_3 {p : Prop} (h : p := by (with_reducible repeat (first | refine blk_drewN ?_ _ | refine blk_drew ?_ | refine blk_alloc ?_ _)); exact BK890.out) : p := h
theorem gangwaylaw5_CodeEncodes.aa_4 {p : Prop} (h : p := by (with_reducible repeat (first | apply Kd.R_alloc | apply Kd.R_drewN | apply Kd.R_drew)); exact HO_6.out) : p := h
theorem gangwaylaw5_CodeEncodes.aa_5 {p : Prop} (h : p := by repeat (first | exact (Kd.C_below HR889_0.out HB.out) | (with_reducible refine Kd.C_alloc ?_ _) | (with_reducible refine Kd.C_drewN ?_ _) | (with_reducible refine Kd.C_drew ?_))) : p := h
theorem gangwaylaw5_CodeEncodes.aa_6 {p : Prop} (h : p := by repeat (first | exact (Kd.R_reads' HO898.out).2.2 | (with_reducible refine Kd.C_alloc ?_ _) | (with_reducible refine Kd.C_drewN ?_ _) | (with_reducible refine Kd.C_drew ?_))) : p := h
theorem gangwaylaw5_CodeEncodes.am_ {p : Prop} (h : p) : Aside0 p := Aside0.mk h
theorem gangwaylaw5_CodeEncodes.bm_ {α β : Type _} {o : Option α} {f : α → Option β} {b : β} (h : o.bind f = some b) : ∃ a, o = some a ∧ f a = some b := Option.bind_eq_some_iff.mp h
set_option maxHeartbeats 8000000 in
set_option maxRecDepth 100000 in
theorem gangwaylaw5_CodeEncodes.calls (k : Nat) (A0 : Option Addr) (c0 : Nat) (l0 : List (S26)) (r : Bool) (w : World) (hr0 : Kd.C k26 w A0 l0.length l0) (hc0 : l0.length ≤ c0) (h : gangwaylaw5_CodeEncodes.f k l0 = some r) :
  Calls Try.prog 7 #[.slice A0 l0.length c0] w fun e w' => e = .returned (.bool r) ∧ Below w.heap.size w w' := by
 have hu26 := Try.underlying26; have HR0 := am_ hr0; have HC0 := am_ hc0; clear hr0 hc0; have HB := am_ (Below.refl w.heap.size w); have H : (gangwaylaw5_CodeEncodes.l0 k l0 0) = some r := h; clear h; have H' := am_ H; clear H; go_enter Try.func7, Try.ntmps7; go_wp2
 go_loopg [3] k (fun kq v3 w' => ∃ (x3_1 : Int), v3 = .int .i64 x3_1 ∧ Aside0 (gangwaylaw5_CodeEncodes.l0 kq l0 x3_1 = some r) ∧ Aside0 (kq ≤ k) ∧ Aside0 (Below w.heap.size w w'))
 case atStart => exact ⟨(0), (es_), H', ⟨Nat.le_refl _⟩, ⟨aa_2⟩⟩
 case round =>
 clear H'; obtain ⟨x3_1, rfl, HA, HK1, HB⟩ := hrel
 cases gk with
 | zero => exact absurd HA.out (by simp [gangwaylaw5_CodeEncodes.l0])
 | succ k1 =>
 have H := HA.out; clear HA; simp only [gangwaylaw5_CodeEncodes.l0] at H; have HC2 := am_ H; clear H
 go_upto_region 2 with (fail)
 go_cut [17] (fun v17 wc => ∃ (kq : Nat) (x17_1 : Bool), v17 = .bool x17_1 ∧ Aside0 (j1 kq l0 x3_1 x17_1 = some r) ∧ Aside0 (kq ≤ k1) ∧ Aside0 (Below w.heap.size w wc))
 case first =>
  have H := HC2.out; clear HC2; by_cases c3 : x3_1 < (l0.length : Int)
  ·rw [if_pos c3] at H; have c3b0 : decide (x3_1 < (l0.length : Int)) = true := decide_eq_true c3; clear c3; (first | rw [c3b0] | (simp only [i64_w, i32_w]; rw [c3b0]) | skip); have H' := am_ H; clear H; go_wp2; go_meet
   case rel => exact ⟨_, (decide (x3_1 < 10)), (es_), H', ⟨by have := HK1.out; first | omega | exact Nat.le_refl _⟩, ⟨aa_2⟩⟩
  rw [if_neg c3] at H; have c3b0 : decide (x3_1 < (l0.length : Int)) = false := decide_eq_false c3; clear c3; (first | rw [c3b0] | (simp only [i64_w, i32_w]; rw [c3b0]) | skip); have H' := am_ H; clear H; go_wp2; go_meet
  case rel => exact ⟨_, (false), (es_), H', ⟨by have := HK1.out; first | omega | exact Nat.le_refl _⟩, ⟨aa_2⟩⟩
 case rest =>
 clear HC2; obtain ⟨kq, x17_1, rfl, HA, HJ1, HB⟩ := hcut
 cases kq with
 | zero => exact absurd HA.out (by simp [j1])
 | succ kj1 =>
 have H := HA.out; clear HA; simp only [j1] at H; by_cases c4 : x17_1 = true
 rotate_left
 ·replace c4 := Bool.eq_false_iff.mpr c4; subst c4; have H1 : ((gangwaylaw5_wakes.f kj1).bind fun t888 => (some t888)) = some r := by rw [if_neg (show ¬ (false = true) by decide)] at H; exact H
  clear H; have H := H1; clear H1; replace H := bm_ H; obtain ⟨t888, A430, H⟩ := H; replace H : (some t888) = some r := H; have A43 := am_ A430; clear A430; obtain rfl := Option.some.inj H
  go_wp2_with (first | ((with_reducible refine gate_callee (f := 17) rfl ?_); refine goesL_ (some 64) rfl rfl Try.func17 (by kernel_rfl) rfl #[] rfl aa_1 ?_; (with_reducible refine (gangwaylaw5_wakes.calls kj1  t888 _ A43.out).mono ?_); rintro e w44 ⟨rfl, hb⟩; refine ⟨_, rfl, ?_⟩; have n0_ := am_ (below_step aa_2 hb); clear HB; have HB := n0_; clear n0_; (try clear hb); (try clear hb2); (try clear hk); (try clear hi)))
  go_ret; exact ⟨er_, by repeat (first | (with_reducible first | exact HB.out | apply below_alloc | apply pw_below_drewN | apply below_drew1) | exact HB.out)⟩
 subst c4; have H1 : (if 0 ≤ x3_1 then (if x3_1 < (l0.length : Int) then ((gangwaylaw5_heavy.f kj1 ((rd_T26 l0 x3_1).f0) ((rd_T26 l0 x3_1).f1)).bind fun t891 => (if t891 = true then (some true) else ((gangwayref5_May.f kj1 ((rd_T26 l0 x3_1).f0) 40).bind fun t892 => (if t892 = true then ((gangwayref5_Bytes.f kj1 ((rd_T26 l0 x3_1).f0)).bind fun t893 => (j2 kj1 l0 x3_1 0 t893 ((rd_T26 l0 x3_1).f0) ((rd_T26 l0 x3_1).f1))) else (j2 kj1 l0 x3_1 100 ([] : List Int) ((rd_T26 l0 x3_1).f0) ((rd_T26 l0 x3_1).f1)))))) else (none)) else (none)) = some r := by rw [if_pos rfl] at H; exact H
 clear H; have H := H1; clear H1; by_cases c5 : 0 ≤ x3_1
 rotate_left
 ·rw [if_neg c5] at H; exact absurd H (by simp)
 rw [if_pos c5] at H; have c5b0 : decide (0 ≤ x3_1) = true := decide_eq_true c5; clear c5; by_cases c6 : x3_1 < (l0.length : Int)
 rotate_left
 ·rw [if_neg c6] at H; exact absurd H (by simp)
 rw [if_pos c6] at H; have c6b0 : decide (x3_1 < (l0.length : Int)) = true := decide_eq_true c6; clear c6; replace H := bm_ H; obtain ⟨t891, A70, H⟩ := H; replace H : (if t891 = true then (some true) else ((gangwayref5_May.f kj1 ((rd_T26 l0 x3_1).f0) 40).bind fun t892 => (if t892 = true then ((gangwayref5_Bytes.f kj1 ((rd_T26 l0 x3_1).f0)).bind fun t893 => (j2 kj1 l0 x3_1 0 t893 ((rd_T26 l0 x3_1).f0) ((rd_T26 l0 x3_1).f1))) else (j2 kj1 l0 x3_1 100 ([] : List Int) ((rd_T26 l0 x3_1).f0) ((rd_T26 l0 x3_1).f1))))) = some r := H; have A7 := am_ A70; clear A70; by_cases c8 : t891 = true
 ·subst c8; have H1 : (some true) = some r := by rw [if_pos rfl] at H; exact H
  clear H; have H := H1; clear H1; obtain rfl := Option.some.inj H; have p889 : 0 ≤ (x3_1 : Int) := of_decide_eq_true (by first | (with_reducible assumption) | assumption); have q889 : x3_1 < (l0.length : Int) := of_decide_eq_true (by first | (with_reducible assumption) | assumption); obtain ⟨ad889, A889_0, c889_0, A889_1, c889_1, e889, hx889_0, hx889_1, hl889_0, hi889_0, hl889_1, hi889_1⟩ := at_T26 HR0.out x3_1 p889 q889
  cases e889
  replace hx889_0 := up HB hx889_0; replace hx889_1 := up HB hx889_1; have HR889_0 := am_ hi889_0; have HC889_0 := am_ hl889_0; clear hi889_0 hl889_0; have HR889_1 := am_ hi889_1; have HC889_1 := am_ hl889_1; clear hi889_1 hl889_1; replace p889 := eq_true p889; replace q889 := eq_true q889
  go_wp2_with (first | ((with_reducible refine gate_dst (N := 4) rfl ?_); refine box_event ?hg (N := 4) ?hd (cs := #[.slice none 0 0, .slice none 0 0]) (t := 26) ?hr ?_; (case hd => rfl); (case hg => rfl); (case hr => first | (go_simp; done) | (go_simp; rfl)); intro gb890 hg w9 hbox hb; have N_ := m_ (below_step aa_2 hb) <| m_ (hbox) <| m_ ((by rw [hg]; exact (below_size aa_2) : w.heap.size ≤ gb890)) <| am_ ((by rw [hg]; exact (below_size aa_2) : w.heap.size ≤ gb890)); clear HB; obtain ⟨HB, BK890, GW890, GE890⟩ := N_; clear hb hbox hg; have Z10_0 : w9.cell? ⟨gb890, 0, none⟩ = some (.slice none 0 0) := (bc BK890 0); have Z10_1 : w9.cell? ⟨gb890, 1, none⟩ = some (.slice none 0 0) := (bc BK890 1); have Y10_0 := blk_frozen BK890.out 0; have Y10_1 := blk_frozen BK890.out 1) | ((with_reducible refine gate_callee (f := 9) rfl ?_); refine goesL_ (some 25) rfl rfl Try.func9 (by kernel_rfl) rfl #[.agg #[.slice A889_0 ((rd_T26 l0 x3_1).f0).length c889_0, .slice A889_1 ((rd_T26 l0 x3_1).f1).length c889_1]] rfl aa_1 ?_; (with_reducible refine (gangwaylaw5_heavy.calls kj1 _ _ ((rd_T26 l0 x3_1).f0) _ _ ((rd_T26 l0 x3_1).f1) true _ ?side1 ?side2 ?side3 ?side4 A7.out).mono ?_); (case side1 => exact Kd.C_below HR889_0.out aa_0); (case side2 => exact HC889_0.out); (case side3 => exact Kd.C_below HR889_1.out aa_0); (case side4 => exact HC889_1.out); rintro e w11 ⟨rfl, hb⟩; refine ⟨_, rfl, ?_⟩; have N_ := m_ (blk_below (g := gb890) (o := .cells #[.slice A889_0 ((rd_T26 l0 x3_1).f0).length c889_0, .slice A889_1 ((rd_T26 l0 x3_1).f1).length c889_1] 26 (0, 0)) (by (with_reducible repeat (first | refine blk_drewN ?_ _ | refine blk_drew ?_ | refine blk_alloc ?_ _)); refine blk_put (cs := #[.slice A889_0 ((rd_T26 l0 x3_1).f0).length c889_0, .slice none 0 0]) ?_ 1 _ rfl; (with_reducible repeat (first | refine blk_drewN ?_ _ | refine blk_drew ?_ | refine blk_alloc ?_ _)); refine blk_put (cs := #[.slice none 0 0, .slice none 0 0]) ?_ 0 _ rfl; (with_reducible repeat (first | refine blk_drewN ?_ _ | refine blk_drew ?_ | refine blk_alloc ?_ _)); exact BK890.out) hb) <| am_ (below_step aa_0 hb); clear BK890 HB; obtain ⟨BK890, HB⟩ := N_; (try clear hb); (try clear hb2); (try clear hk); (try clear hi)))
  go_ret; exact ⟨er_, by repeat (first | (with_reducible first | exact HB.out | apply below_alloc | apply pw_below_drewN | apply below_drew1 | refine below_set ?_ GE890.out) | exact HB.out)⟩
 replace c8 := Bool.eq_false_iff.mpr c8; subst c8; have H1 : ((gangwayref5_May.f kj1 ((rd_T26 l0 x3_1).f0) 40).bind fun t892 => (if t892 = true then ((gangwayref5_Bytes.f kj1 ((rd_T26 l0 x3_1).f0)).bind fun t893 => (j2 kj1 l0 x3_1 0 t893 ((rd_T26 l0 x3_1).f0) ((rd_T26 l0 x3_1).f1))) else (j2 kj1 l0 x3_1 100 ([] : List Int) ((rd_T26 l0 x3_1).f0) ((rd_T26 l0 x3_1).f1)))) = some r := by rw [if_neg (show ¬ (false = true) by decide)] at H; exact H
 clear H; have H := H1; clear H1; replace H := bm_ H; obtain ⟨t892, A120, H⟩ := H; replace H : (if t892 = true then ((gangwayref5_Bytes.f kj1 ((rd_T26 l0 x3_1).f0)).bind fun t893 => (j2 kj1 l0 x3_1 0 t893 ((rd_T26 l0 x3_1).f0) ((rd_T26 l0 x3_1).f1))) else (j2 kj1 l0 x3_1 100 ([] : List Int) ((rd_T26 l0 x3_1).f0) ((rd_T26 l0 x3_1).f1))) = some r := H; have A12 := am_ A120; clear A120; have HC13 := am_ H; clear H; have p889 : 0 ≤ (x3_1 : Int) := of_decide_eq_true (by first | (with_reducible assumption) | assumption); have q889 : x3_1 < (l0.length : Int) := of_decide_eq_true (by first | (with_reducible assumption) | assumption); obtain ⟨ad889, A889_0, c889_0, A889_1, c889_1, e889, hx889_0, hx889_1, hl889_0, hi889_0, hl889_1, hi889_1⟩ := at_T26 HR0.out x3_1 p889 q889
 cases e889
 replace hx889_0 := up HB hx889_0; replace hx889_1 := up HB hx889_1; have HR889_0 := am_ hi889_0; have HC889_0 := am_ hl889_0; clear hi889_0 hl889_0; have HR889_1 := am_ hi889_1; have HC889_1 := am_ hl889_1; clear hi889_1 hl889_1; replace p889 := eq_true p889; replace q889 := eq_true q889
 go_upto_if 28 with (first | ((with_reducible refine gate_dst (N := 4) rfl ?_); refine box_event ?hg (N := 4) ?hd (cs := #[.slice none 0 0, .slice none 0 0]) (t := 26) ?hr ?_; (case hd => rfl); (case hg => rfl); (case hr => first | (go_simp; done) | (go_simp; rfl)); intro gb890 hg w14 hbox hb; have N_ := m_ (below_step aa_2 hb) <| m_ (hbox) <| m_ ((by rw [hg]; exact (below_size aa_2) : w.heap.size ≤ gb890)) <| am_ ((by rw [hg]; exact (below_size aa_2) : w.heap.size ≤ gb890)); clear HB; obtain ⟨HB, BK890, GW890, GE890⟩ := N_; clear hb hbox hg; have Z15_0 : w14.cell? ⟨gb890, 0, none⟩ = some (.slice none 0 0) := (bc BK890 0); have Z15_1 : w14.cell? ⟨gb890, 1, none⟩ = some (.slice none 0 0) := (bc BK890 1); have Y15_0 := blk_frozen BK890.out 0; have Y15_1 := blk_frozen BK890.out 1) | ((with_reducible refine gate_callee (f := 9) rfl ?_); refine goesL_ (some 25) rfl rfl Try.func9 (by kernel_rfl) rfl #[.agg #[.slice A889_0 ((rd_T26 l0 x3_1).f0).length c889_0, .slice A889_1 ((rd_T26 l0 x3_1).f1).length c889_1]] rfl aa_1 ?_; (with_reducible refine (gangwaylaw5_heavy.calls kj1 _ _ ((rd_T26 l0 x3_1).f0) _ _ ((rd_T26 l0 x3_1).f1) false _ ?side1 ?side2 ?side3 ?side4 A7.out).mono ?_); (case side1 => exact Kd.C_below HR889_0.out aa_0); (case side2 => exact HC889_0.out); (case side3 => exact Kd.C_below HR889_1.out aa_0); (case side4 => exact HC889_1.out); rintro e w16 ⟨rfl, hb⟩; refine ⟨_, rfl, ?_⟩; have N_ := m_ (blk_below (g := gb890) (o := .cells #[.slice A889_0 ((rd_T26 l0 x3_1).f0).length c889_0, .slice A889_1 ((rd_T26 l0 x3_1).f1).length c889_1] 26 (0, 0)) (by (with_reducible repeat (first | refine blk_drewN ?_ _ | refine blk_drew ?_ | refine blk_alloc ?_ _)); refine blk_put (cs := #[.slice A889_0 ((rd_T26 l0 x3_1).f0).length c889_0, .slice none 0 0]) ?_ 1 _ rfl; (with_reducible repeat (first | refine blk_drewN ?_ _ | refine blk_drew ?_ | refine blk_alloc ?_ _)); refine blk_put (cs := #[.slice none 0 0, .slice none 0 0]) ?_ 0 _ rfl; (with_reducible repeat (first | refine blk_drewN ?_ _ | refine blk_drew ?_ | refine blk_alloc ?_ _)); exact BK890.out) hb) <| am_ (below_step aa_0 hb); clear BK890 HB; obtain ⟨BK890, HB⟩ := N_; (try clear hb); (try clear hb2); (try clear hk); (try clear hi); have Z17_0 : w16.cell? ⟨gb890, 0, none⟩ = some (.slice A889_0 ((rd_T26 l0 x3_1).f0).length c889_0) := (bc BK890 0); have Z17_1 : w16.cell? ⟨gb890, 1, none⟩ = some (.slice A889_1 ((rd_T26 l0 x3_1).f1).length c889_1) := (bc BK890 1); have Y17_0 := blk_frozen BK890.out 0; have Y17_1 := blk_frozen BK890.out 1) | ((with_reducible refine gate_callee (f := 19) rfl ?_); refine goesL_ (some 28) rfl rfl Try.func19 (by kernel_rfl) rfl #[.slice A889_0 ((rd_T26 l0 x3_1).f0).length c889_0, .int .i64 40] rfl aa_1 ?_; (with_reducible refine (gangwayref5_May.calls kj1 _ _ ((rd_T26 l0 x3_1).f0) 40 t892 _ ?side1 ?side2 A12.out).mono ?_); (case side1 => exact aa_5); (case side2 => exact HC889_0.out); rintro e w18 ⟨rfl, hb⟩; refine ⟨_, rfl, ?_⟩; have N_ := m_ (bbelow BK890 aa_3 hb) <| am_ (below_step aa_0 hb); clear BK890 HB; obtain ⟨BK890, HB⟩ := N_; (try clear hb); (try clear hb2); (try clear hk); (try clear hi)))
 (try simp only [Act.put, e1, e2, e3])
 go_cut [5, 6] (fun v5 v6 wc => ∃ (kq : Nat) (x5_12 : Int) (x6_12 : List Int), v5 = .int .i64 x5_12 ∧ Aside0 (j2 kq l0 x3_1 x5_12 x6_12 ((rd_T26 l0 x3_1).f0) ((rd_T26 l0 x3_1).f1) = some r) ∧ Aside0 (kq ≤ kj1) ∧ Aside0 (Kd.R (Kd.int .u8) 5 wc w.heap.size (fun _ => True) v6 x6_12) ∧ Aside0 (wc.heap[gb890]? = some (.cells #[(.slice A889_0 ((rd_T26 l0 x3_1).f0).length c889_0), (.slice A889_1 ((rd_T26 l0 x3_1).f1).length c889_1)] 26 (0, 0))) ∧ Aside0 (Below w.heap.size w wc))
 case first =>
  have H := HC13.out; clear HC13; by_cases c19 : t892 = true
  rotate_left
  ·replace c19 := Bool.eq_false_iff.mpr c19; subst c19; have H1 : (j2 kj1 l0 x3_1 100 ([] : List Int) ((rd_T26 l0 x3_1).f0) ((rd_T26 l0 x3_1).f1)) = some r := by rw [if_neg (show ¬ (false = true) by decide)] at H; exact H
   clear H; have H := H1; clear H1; have H' := am_ H; clear H; go_wp2; go_meet
   case rel => exact ⟨_, (100), (([] : List Int)), (es_), H', ⟨by have := HK1.out; have := HJ1.out; first | omega | exact Nat.le_refl _⟩, ⟨nl_⟩, ⟨aa_3⟩, ⟨aa_0⟩⟩
  subst c19; have H1 : ((gangwayref5_Bytes.f kj1 ((rd_T26 l0 x3_1).f0)).bind fun t893 => (j2 kj1 l0 x3_1 0 t893 ((rd_T26 l0 x3_1).f0) ((rd_T26 l0 x3_1).f1))) = some r := by rw [if_pos rfl] at H; exact H
  clear H; have H := H1; clear H1; replace H := bm_ H; obtain ⟨t893, A200, H⟩ := H; replace H : (j2 kj1 l0 x3_1 0 t893 ((rd_T26 l0 x3_1).f0) ((rd_T26 l0 x3_1).f1)) = some r := H; have A20 := am_ A200; clear A200; have H' := am_ H; clear H; have Z21_0 : w18.cell? ⟨gb890, 0, none⟩ = some (.slice A889_0 ((rd_T26 l0 x3_1).f0).length c889_0) := bc BK890 0; have Z21_1 : w18.cell? ⟨gb890, 1, none⟩ = some (.slice A889_1 ((rd_T26 l0 x3_1).f1).length c889_1) := bc BK890 1; have Y21_0 := blk_frozen BK890.out 0; have Y21_1 := blk_frozen BK890.out 1
  go_wp2_with (first | ((with_reducible refine gate_callee (f := 21) rfl ?_); refine goesL_ (some 31) rfl rfl Try.func21 (by kernel_rfl) rfl #[.slice A889_0 ((rd_T26 l0 x3_1).f0).length c889_0] rfl aa_1 ?_; (with_reducible refine (gangwayref5_Bytes.calls kj1 _ _ ((rd_T26 l0 x3_1).f0) t893 _ ?side1 ?side2 A20.out).mono ?_); (case side1 => exact aa_5); (case side2 => exact HC889_0.out); rintro e w22 ⟨v894, rfl, ho0, hb⟩; refine ⟨_, rfl, ?_⟩; have N_ := m_ (Kd.R_lower ho0 (below_size aa_0)) <| m_ (bbelow BK890 aa_3 hb) <| am_ (below_step aa_0 hb); clear BK890 HB; obtain ⟨HO895, BK890, HB⟩ := N_; (try clear hb); (try clear hb2); (try clear hk); (try clear hi); (try clear ho0)))
  go_meet
  case rel => exact ⟨_, (0), (t893), (es_), H', ⟨by have := HK1.out; have := HJ1.out; first | omega | exact Nat.le_refl _⟩, ⟨by (with_reducible repeat (first | apply Kd.R_alloc | apply Kd.R_drewN | apply Kd.R_drew)); exact HO895.out⟩, ⟨aa_3⟩, ⟨aa_0⟩⟩
 case rest =>
 clear HC13; (try clear c4); (try clear c5b0); (try clear c6b0); (try clear c8); (try clear Z15_0); (try clear Z15_1); (try clear Z17_0); (try clear Z17_1); (try clear Y15_0); (try clear Y15_1); (try clear Y17_0); (try clear Y17_1); (try clear hx889_0); (try clear hx889_1); (try clear p889); (try clear q889); obtain ⟨kq, x5_12, x6_12, rfl, HA, HJ12, HO_6, BK890, HB⟩ := hcut
 cases kq with
 | zero => exact absurd HA.out (by simp [j2])
 | succ kj12 =>
 have H := HA.out; clear HA; simp only [j2] at H; replace H := bm_ H; obtain ⟨t896, A230, H⟩ := H; replace H : ((code_Encode.f kj12 t896).bind fun bt899 => ((code_Check.f kj12 t896).bind fun t903 => ((gangwaylaw5_num.f t903).bind fun t904 => (if t904 = x5_12 then ((gangwaylaw5_num.f bt899.2).bind fun t905 => (if t905 = x5_12 then ((gangwayref0_EqBytes.f kj12 bt899.1 x6_12).bind fun t906 => (if t906 = true then ((gangwayref0_EqInstrs.f kj12 t896 ((rd_T26 l0 x3_1).f0)).bind fun t907 => (if t907 = true then (gangwaylaw5_CodeEncodes.l0 kj12 l0 (wrap64 (x3_1 + 1))) else (none))) else (none))) else (none))) else (none))))) = some r := H; have A23 := am_ A230; clear A230; replace H := bm_ H; obtain ⟨⟨t899, t900⟩, A240, H⟩ := H; replace H : ((code_Check.f kj12 t896).bind fun t903 => ((gangwaylaw5_num.f t903).bind fun t904 => (if t904 = x5_12 then ((gangwaylaw5_num.f t900).bind fun t905 => (if t905 = x5_12 then ((gangwayref0_EqBytes.f kj12 t899 x6_12).bind fun t906 => (if t906 = true then ((gangwayref0_EqInstrs.f kj12 t896 ((rd_T26 l0 x3_1).f0)).bind fun t907 => (if t907 = true then (gangwaylaw5_CodeEncodes.l0 kj12 l0 (wrap64 (x3_1 + 1))) else (none))) else (none))) else (none))) else (none)))) = some r := H; have A24 := am_ A240; clear A240; replace H := bm_ H; obtain ⟨t903, A250, H⟩ := H; replace H : ((gangwaylaw5_num.f t903).bind fun t904 => (if t904 = x5_12 then ((gangwaylaw5_num.f t900).bind fun t905 => (if t905 = x5_12 then ((gangwayref0_EqBytes.f kj12 t899 x6_12).bind fun t906 => (if t906 = true then ((gangwayref0_EqInstrs.f kj12 t896 ((rd_T26 l0 x3_1).f0)).bind fun t907 => (if t907 = true then (gangwaylaw5_CodeEncodes.l0 kj12 l0 (wrap64 (x3_1 + 1))) else (none))) else (none))) else (none))) else (none))) = some r := H; have A25 := am_ A250; clear A250; replace H := bm_ H; obtain ⟨t904, A260, H⟩ := H; replace H : (if t904 = x5_12 then ((gangwaylaw5_num.f t900).bind fun t905 => (if t905 = x5_12 then ((gangwayref0_EqBytes.f kj12 t899 x6_12).bind fun t906 => (if t906 = true then ((gangwayref0_EqInstrs.f kj12 t896 ((rd_T26 l0 x3_1).f0)).bind fun t907 => (if t907 = true then (gangwaylaw5_CodeEncodes.l0 kj12 l0 (wrap64 (x3_1 + 1))) else (none))) else (none))) else (none))) else (none)) = some r := H
 have A26 := am_ A260; clear A260; by_cases c27 : t904 = x5_12
 rotate_left
 ·rw [if_neg c27] at H; exact absurd H (by simp)
 rw [if_pos c27] at H; obtain ⟨c27b0, c27b1⟩ := eb c27; clear c27; replace H := bm_ H; obtain ⟨t905, A280, H⟩ := H; replace H : (if t905 = x5_12 then ((gangwayref0_EqBytes.f kj12 t899 x6_12).bind fun t906 => (if t906 = true then ((gangwayref0_EqInstrs.f kj12 t896 ((rd_T26 l0 x3_1).f0)).bind fun t907 => (if t907 = true then (gangwaylaw5_CodeEncodes.l0 kj12 l0 (wrap64 (x3_1 + 1))) else (none))) else (none))) else (none)) = some r := H; have A28 := am_ A280; clear A280; by_cases c29 : t905 = x5_12
 rotate_left
 ·rw [if_neg c29] at H; exact absurd H (by simp)
 rw [if_pos c29] at H; obtain ⟨c29b0, c29b1⟩ := eb c29; clear c29; replace H := bm_ H; obtain ⟨t906, A300, H⟩ := H; replace H : (if t906 = true then ((gangwayref0_EqInstrs.f kj12 t896 ((rd_T26 l0 x3_1).f0)).bind fun t907 => (if t907 = true then (gangwaylaw5_CodeEncodes.l0 kj12 l0 (wrap64 (x3_1 + 1))) else (none))) else (none)) = some r := H; have A30 := am_ A300; clear A300; by_cases c31 : t906 = true
 rotate_left
 ·replace c31 := Bool.eq_false_iff.mpr c31; subst c31; have H1 : (none) = some r := by rw [if_neg (show ¬ (false = true) by decide)] at H; exact H
  clear H; have H := H1; clear H1; exact absurd H (by simp)
 subst c31; have H1 : ((gangwayref0_EqInstrs.f kj12 t896 ((rd_T26 l0 x3_1).f0)).bind fun t907 => (if t907 = true then (gangwaylaw5_CodeEncodes.l0 kj12 l0 (wrap64 (x3_1 + 1))) else (none))) = some r := by rw [if_pos rfl] at H; exact H
 clear H; have H := H1; clear H1; replace H := bm_ H; obtain ⟨t907, A320, H⟩ := H; replace H : (if t907 = true then (gangwaylaw5_CodeEncodes.l0 kj12 l0 (wrap64 (x3_1 + 1))) else (none)) = some r := H; have A32 := am_ A320; clear A320; by_cases c33 : t907 = true
 rotate_left
 ·replace c33 := Bool.eq_false_iff.mpr c33; subst c33; have H1 : (none) = some r := by rw [if_neg (show ¬ (false = true) by decide)] at H; exact H
  clear H; have H := H1; clear H1; exact absurd H (by simp)
 subst c33; have H1 : (gangwaylaw5_CodeEncodes.l0 kj12 l0 (wrap64 (x3_1 + 1))) = some r := by rw [if_pos rfl] at H; exact H
 clear H; have H := H1; clear H1; have H' := am_ H; clear H; have Z34_0 : wc.cell? ⟨gb890, 0, none⟩ = some (.slice A889_0 ((rd_T26 l0 x3_1).f0).length c889_0) := bc BK890 0; have Z34_1 : wc.cell? ⟨gb890, 1, none⟩ = some (.slice A889_1 ((rd_T26 l0 x3_1).f1).length c889_1) := bc BK890 1; have Y34_0 := blk_frozen BK890.out 0; have Y34_1 := blk_frozen BK890.out 1
 go_wp2_with (first | ((with_reducible refine gate_callee (f := 22) rfl ?_); refine goesL_ (some 34) rfl rfl Try.func22 (by kernel_rfl) rfl #[.slice A889_0 ((rd_T26 l0 x3_1).f0).length c889_0] rfl aa_1 ?_; (with_reducible refine (gangwayref0_CopyInstrs.calls kj12 _ _ ((rd_T26 l0 x3_1).f0) t896 _ ?side1 ?side2 A23.out).mono ?_); (case side1 => exact aa_5); (case side2 => exact HC889_0.out); rintro e w35 ⟨v897, rfl, ho0, hb⟩; refine ⟨_, rfl, ?_⟩; have N_ := m_ (Kd.R_below aa_4 hb) <| m_ (Kd.R_lower ho0 (below_size aa_0)) <| m_ (bbelow BK890 aa_3 hb) <| am_ (below_step aa_0 hb); clear HO_6 BK890 HB; obtain ⟨HO_6, HO898, BK890, HB⟩ := N_; (try clear hb); (try clear hb2); (try clear hk); (try clear hi); (try clear ho0); obtain ⟨Ao36, co36, eo36⟩ := Kd.R_slice HO898.out; subst eo36) | ((with_reducible refine gate_callee (f := 20) rfl ?_); refine goesL_ (some 37) rfl rfl Try.func20 (by kernel_rfl) rfl #[.slice Ao36 t896.length co36] rfl aa_1 ?_; (with_reducible refine (code_Encode.calls kj12 _ _ t896 t899 t900 _ ?side1 ?side2 A24.out).mono ?_); (case side1 => exact aa_6); (case side2 => exact (Kd.R_reads' HO898.out).2.1); rintro e w37 ⟨v901, rfl, ho0, hb⟩; refine ⟨_, rfl, ?_⟩; have N_ := m_ (Kd.R_elder' aa_4 (Kd.R_base ho0) hb) <| m_ (Kd.R_below (by (with_reducible repeat (first | apply Kd.R_alloc | apply Kd.R_drewN | apply Kd.R_drew)); exact HO898.out) hb) <| m_ (Kd.R_lower (Kd.R_new' ho0 (Kd.R_lt aa_4)) (below_size aa_0)) <| m_ (bbelow BK890 aa_3 hb) <| am_ (below_step aa_0 hb); clear HO_6 HO898 BK890 HB; obtain ⟨HO_6, HO898, HO902, BK890, HB⟩ := N_; (try clear hb); (try clear hb2); (try clear hk); (try clear hi); (try clear ho0)) | ((with_reducible refine gate_callee (f := 18) rfl ?_); refine goesL_ (some 41) rfl rfl Try.func18 (by kernel_rfl) rfl #[.slice Ao36 t896.length co36] rfl aa_1 ?_; (with_reducible refine (code_Check.calls kj12 _ _ t896 t903 _ ?side1 ?side2 A25.out).mono ?_); (case side1 => exact aa_6); (case side2 => exact (Kd.R_reads' HO898.out).2.1); rintro e w38 ⟨rfl, hb⟩; refine ⟨_, rfl, ?_⟩; have N_ := m_ (Kd.R_below aa_4 hb) <| m_ (Kd.R_below (by (with_reducible repeat (first | apply Kd.R_alloc | apply Kd.R_drewN | apply Kd.R_drew)); exact HO898.out) hb) <| m_ (Kd.R_below (by (with_reducible repeat (first | apply Kd.R_alloc | apply Kd.R_drewN | apply Kd.R_drew)); exact HO902.out) hb) <| m_ (bbelow BK890 aa_3 hb) <| am_ (below_step aa_0 hb); clear HO_6 HO898 HO902 BK890 HB; obtain ⟨HO_6, HO898, HO902, BK890, HB⟩ := N_; (try clear hb); (try clear hb2); (try clear hk); (try clear hi)) | ((with_reducible refine gate_callee (f := 13) rfl ?_); refine goesL_ (some 42) rfl rfl Try.func13 (by kernel_rfl) rfl #[.int .i64 t903] rfl aa_1 ?_; (with_reducible refine (gangwaylaw5_num.calls t903 t904 _ A26.out).mono ?_); rintro e w' ⟨rfl, ⟨nd, rfl⟩⟩; refine ⟨_, rfl, ?_⟩) | (go_at_call 13; (with_reducible refine (gangwaylaw5_num.calls t900 t905 _ A28.out).mono ?_); rintro e w' ⟨rfl, ⟨nd, rfl⟩⟩; obtain ⟨Ao39, co39, eo39⟩ := Kd.R_slice HO902.out; subst eo39; obtain ⟨Ao40, co40, eo40⟩ := Kd.R_slice HO_6.out; subst eo40) | (go_at_call 15; (with_reducible refine (gangwayref0_EqBytes.calls kj12 _ _ t899 _ _ x6_12 true _ ?side1 ?side2 ?side3 ?side4 A30.out).mono ?_); (case side1 => repeat (first | exact (Kd.R_reads' HO902.out).2.2 | (with_reducible refine Kd.C_alloc ?_ _) | (with_reducible refine Kd.C_drewN ?_ _) | (with_reducible refine Kd.C_drew ?_))); (case side2 => exact (Kd.R_reads' HO902.out).2.1); (case side3 => repeat (first | exact (Kd.R_reads' HO_6.out).2.2 | (with_reducible refine Kd.C_alloc ?_ _) | (with_reducible refine Kd.C_drewN ?_ _) | (with_reducible refine Kd.C_drew ?_))); (case side4 => exact (Kd.R_reads' HO_6.out).2.1); rintro e w' ⟨rfl, ⟨nd, rfl⟩⟩; have Z41_0 : w38.cell? ⟨gb890, 0, none⟩ = some (.slice A889_0 ((rd_T26 l0 x3_1).f0).length c889_0) := (bc BK890 0); have Z41_1 : w38.cell? ⟨gb890, 1, none⟩ = some (.slice A889_1 ((rd_T26 l0 x3_1).f1).length c889_1) := (bc BK890 1); have Y41_0 := blk_frozen BK890.out 0; have Y41_1 := blk_frozen BK890.out 1) | (go_at_call 14; (with_reducible refine (gangwayref0_EqInstrs.calls kj12 _ _ t896 _ _ ((rd_T26 l0 x3_1).f0) true _ ?side1 ?side2 ?side3 ?side4 A32.out).mono ?_); (case side1 => exact aa_6); (case side2 => exact (Kd.R_reads' HO898.out).2.1); (case side3 => repeat (first | exact (Kd.C_below HR889_0.out aa_0) | (with_reducible refine Kd.C_alloc ?_ _) | (with_reducible refine Kd.C_drewN ?_ _) | (with_reducible refine Kd.C_drew ?_))); (case side4 => exact HC889_0.out); rintro e w42 ⟨rfl, hb⟩; have N_ := m_ (Kd.R_below aa_4 hb) <| m_ (Kd.R_below (by (with_reducible repeat (first | apply Kd.R_alloc | apply Kd.R_drewN | apply Kd.R_drew)); exact HO898.out) hb) <| m_ (Kd.R_below (by (with_reducible repeat (first | apply Kd.R_alloc | apply Kd.R_drewN | apply Kd.R_drew)); exact HO902.out) hb) <| m_ (bbelow BK890 aa_3 hb) <| am_ (below_step aa_0 hb); clear HO_6 HO898 HO902 BK890 HB; obtain ⟨HO_6, HO898, HO902, BK890, HB⟩ := N_; (try clear hb); (try clear hb2); (try clear hk); (try clear hi)))
 go_roundg kj12
 case measure => have := HK1.out; have := HJ1.out; have := HJ12.out; omega
 case rel => exact ⟨(wrap64 (x3_1 + 1)), (es_), H', ⟨by have := HK1.out; have := HJ1.out; have := HJ12.out; omega⟩, ⟨aa_0⟩⟩
/-- THE ONE PURE STATEMENT of gangwaylaw5_CodeEncodes: yours. -/
def gangwaylaw5_CodeEncodes.Pure : Prop := ∀ (x0 : List (S26)), (x0.length * 48 ≤ 140737488351232 ∧ ∀ y908 ∈ x0, okT26 y908) → ∃ k, gangwaylaw5_CodeEncodes.f k x0 = some true
theorem gangwaylaw5_CodeEncodes.walk (P : gangwaylaw5_CodeEncodes.Pure) (w : World) (x0 : List (S26)) (A0 : Option Addr) (c0 : Nat) (hr0 : Kd.C k26 w A0 x0.length x0) (hc0 : x0.length ≤ c0) (hok0 : (x0.length * 48 ≤ 140737488351232 ∧ ∀ y909 ∈ x0, okT26 y909)) :
  Calls Try.prog 7 #[.slice A0 x0.length c0] w fun e w' => e = .returned (.bool true) ∧ Below w.heap.size w w' := by
 obtain ⟨k, h⟩ := P x0 hok0; refine (gangwaylaw5_CodeEncodes.calls k _ _ x0 true w hr0 hc0 h).mono ?_
 rintro e w' ⟨rfl, hd⟩
 exact ⟨rfl, hd⟩

end Go.Proofs.Ytlahigmoljflkaa.PAll
