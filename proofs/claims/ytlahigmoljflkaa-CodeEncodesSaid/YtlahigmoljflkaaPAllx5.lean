import Derived.Test.YtlahigmoljflkaaPAllx0
import Derived.Test.YtlahigmoljflkaaPAllx2
namespace Go.Proofs.Ytlahigmoljflkaa.PAll
open Go.RowKit Go.Proofs.YtlahigmoljflkaaW.PrintWords Go.Proofs.YtlahigmoljflkaaW.PrintLast Go.Proofs.YtlahigmoljflkaaW.PrintMore
attribute [local go_sem] max2_int min2_int max_two min_two max_three min_three max_four min_four   -- for this text's walks alone
set_option linter.unusedVariables false
set_option linter.unusedSimpArgs false

theorem leb_place_signed.eb {α : Type} [BEq α] [LawfulBEq α] {a b : α} (h : a = b) : (a == b) = true ∧ (a != b) = false := ⟨beq_iff_eq.mpr h, bne_eq_false_iff_eq.mpr h⟩
theorem leb_place_signed.nb {α : Type} [BEq α] [LawfulBEq α] {a b : α} (h : ¬ a = b) : (a == b) = false ∧ (a != b) = true := ⟨beq_eq_false_iff_ne.mpr h, bne_iff_ne.mpr h⟩
theorem leb_place_signed.m_ {p q : Prop} (h : p) (k : q) : Aside0 p ∧ q := ⟨Aside0.mk h, k⟩
abbrev leb_place_signed.t : Bool := true
theorem leb_place_signed.bc {w : World} {g : Nat} {cs : Array Value} {t : TypeId} (h : Aside0 (w.heap[g]? = some (.cells cs t (0, 0)))) (i : Nat) {v : Value} (e : cs[i]? = some v := by rfl) : w.cell? ⟨g, i, none⟩ = some v := (blk_cell h.out i).trans e
theorem leb_place_signed.bbelow {W0 w w1 : World} {g : Nat} {o : Obj} (_b : Aside0 (W0.heap[g]? = some o)) (h : w.heap[g]? = some o) (hb : Below w.heap.size w w1) : w1.heap[g]? = some o := blk_below h hb
theorem leb_place_signed.e1 {α : Type _} (xs : List α) (i : Nat) (a : α) : xs.toArray.setIfInBounds i a = (xs.set i a).toArray := by simp
theorem leb_place_signed.e2 {α : Type _} (x a : α) (xs : List α) : (x :: xs).set 0 a = a :: xs := rfl
theorem leb_place_signed.e3 {α : Type _} (x a : α) (xs : List α) (n : Nat) : (x :: xs).set (n + 1) a = x :: xs.set n a := rfl
theorem leb_place_signed.up {w w' : World} {a : Addr} {v : Value} (hb : Aside0 (Below w.heap.size w w')) (h : w.cell? a = some v) : w'.cell? a = some v := (hb.out.cell (World.block_lt_of_cell? w _ h)).trans h
mutual
def leb_place_signed.j0 : Nat → Int → Int → Bool → List Int → Int → Option (Int × Int × Int)
 | 0, _, _, _, _, _ => none
 | k + 1, x6, x8, x56, x0z, x1z => if x56 = true then (some (0, 0, 100)) else (if 0 ≤ (wrap64 (x1z - 1)) then (if x1z < 64 then (if x8 < (wrap64 (-(shl .i64 1 (wrap64 (x1z - 1))))) then (some (0, 0, 100)) else (if x8 ≥ (shl .i64 1 (wrap64 (x1z - 1))) then (some (0, 0, 100)) else (some (x8, x6, 0)))) else (some (x8, x6, 0))) else (none))
def leb_place_signed.j1 : Nat → Int → Int → Bool → List Int → Int → Option (Int × Int × Int)
 | 0, _, _, _, _, _ => none
 | k + 1, x6, x8, x9, x0z, x1z => if x9 = true then (leb_place_signed.j2 k x6 x8 x9 126 x0z x1z) else (leb_place_signed.j2 k x6 x8 x9 0 x0z x1z)
def leb_place_signed.j2 : Nat → Int → Int → Bool → Int → List Int → Int → Option (Int × Int × Int)
 | 0, _, _, _, _, _, _ => none
 | k + 1, x6, x8, x9, x10, x0z, x1z => (leb_place_over.f x0z x1z x6 x10).bind fun t150 => (if t150 = true then (leb_place_signed.j3 k x6 x8 true x0z x1z) else (if x6 = 10 then (leb_place_signed.j3 k x6 x8 (x9 != (decide (x8 < 0))) x0z x1z) else (leb_place_signed.j3 k x6 x8 false x0z x1z)))
def leb_place_signed.j3 : Nat → Int → Int → Bool → List Int → Int → Option (Int × Int × Int)
 | 0, _, _, _, _, _ => none
 | k + 1, x6, x8, x56, x0z, x1z => if x56 = true then (some (0, 0, 100)) else (if 0 ≤ (wrap64 (x1z - 1)) then (if x1z < 64 then (if x8 < (wrap64 (-(shl .i64 1 (wrap64 (x1z - 1))))) then (some (0, 0, 100)) else (if x8 ≥ (shl .i64 1 (wrap64 (x1z - 1))) then (some (0, 0, 100)) else (some (x8, x6, 0)))) else (some (x8, x6, 0))) else (none))
end
def leb_place_signed.f (k : Nat) (l0_0 : List Int) (a0_1 : Int) : Option (Int × Int × Int) := (leb_place_groups.f k l0_0 a0_1).bind fun bt145 => (if bt145.2.2 = 0 then (if 0 ≤ (wrap64 (bt145.2.1 - 1)) then (if (wrap64 (bt145.2.1 - 1)) < (l0_0.length : Int) then (if (Go.bits .and .u8 (rd l0_0 (wrap64 (bt145.2.1 - 1))) 64) = 0 then ((leb_place_over.f l0_0 a0_1 bt145.2.1 0).bind fun t149 => (if t149 = true then (leb_place_signed.j0 k bt145.2.1 (wrap64 (bt145.1)) true l0_0 a0_1) else (if bt145.2.1 = 10 then (leb_place_signed.j0 k bt145.2.1 (wrap64 (bt145.1)) (false != (decide ((wrap64 (bt145.1)) < 0))) l0_0 a0_1) else (leb_place_signed.j0 k bt145.2.1 (wrap64 (bt145.1)) false l0_0 a0_1)))) else (if (wrap64 (7 * bt145.2.1)) < 64 then (if 0 ≤ (wrap64 (7 * bt145.2.1)) then (leb_place_signed.j1 k bt145.2.1 (Go.bits .or .i64 (wrap64 (bt145.1)) (shl .i64 (-1) (wrap64 (7 * bt145.2.1)))) true l0_0 a0_1) else (none)) else (leb_place_signed.j1 k bt145.2.1 (wrap64 (bt145.1)) true l0_0 a0_1))) else (none)) else (none)) else (some (0, 0, bt145.2.2)))
theorem leb_place_signed.mono_l : ∀ k, (∀ y0 y1 y2 y3 y4, LeO (leb_place_signed.j0 k y0 y1 y2 y3 y4) (leb_place_signed.j0 (k + 1) y0 y1 y2 y3 y4)) ∧ (∀ y0 y1 y2 y3 y4, LeO (leb_place_signed.j1 k y0 y1 y2 y3 y4) (leb_place_signed.j1 (k + 1) y0 y1 y2 y3 y4)) ∧ (∀ y0 y1 y2 y3 y4 y5, LeO (leb_place_signed.j2 k y0 y1 y2 y3 y4 y5) (leb_place_signed.j2 (k + 1) y0 y1 y2 y3 y4 y5)) ∧ (∀ y0 y1 y2 y3 y4, LeO (leb_place_signed.j3 k y0 y1 y2 y3 y4) (leb_place_signed.j3 (k + 1) y0 y1 y2 y3 y4))
 | 0 => ⟨fun _ _ _ _ _ r h => by simp [leb_place_signed.j0] at h, fun _ _ _ _ _ r h => by simp [leb_place_signed.j1] at h, fun _ _ _ _ _ _ r h => by simp [leb_place_signed.j2] at h, fun _ _ _ _ _ r h => by simp [leb_place_signed.j3] at h⟩
 | k + 1 => by
  obtain ⟨ih0, ih1, ih2, ih3⟩ := leb_place_signed.mono_l k; refine ⟨?_, ?_, ?_, ?_⟩ <;> (intros; (first | unfold leb_place_signed.j0 | unfold leb_place_signed.j1 | unfold leb_place_signed.j2 | unfold leb_place_signed.j3); repeat' first | (with_reducible apply ih0) | (with_reducible apply ih1) | (with_reducible apply ih2) | (with_reducible apply ih3) | (with_reducible exact leb_place_groups.mono _ _ _) | (with_reducible exact LeO.refl _) | (with_reducible exact LeO.none _) | (with_reducible refine LeO.ite ?_ ?_) | (with_reducible refine LeO.bind ?_ (fun _ => ?_)) | apply ih0 | apply ih1 | apply ih2 | apply ih3 | exact leb_place_groups.mono _ _ _ | exact LeO.none _ | refine LeO.ite ?_ ?_ | refine LeO.bind ?_ (fun _ => ?_))
theorem leb_place_signed.mono : ∀ a0 a1 k, LeO (leb_place_signed.f k a0 a1) (leb_place_signed.f (k + 1) a0 a1) := by
 intro a0 a1 k; obtain ⟨ih0, ih1, ih2, ih3⟩ := leb_place_signed.mono_l k
 unfold leb_place_signed.f
 repeat' first
   | (with_reducible apply ih0)
   | (with_reducible apply ih1)
   | (with_reducible apply ih2)
   | (with_reducible apply ih3)
   | (with_reducible exact leb_place_groups.mono _ _ _)
   | (with_reducible exact LeO.refl _)
   | (with_reducible exact LeO.none _)
   | (with_reducible refine LeO.ite ?_ ?_)
   | (with_reducible refine LeO.bind ?_ (fun _ => ?_))
   | apply ih0
   | apply ih1
   | apply ih2
   | apply ih3
   | exact leb_place_groups.mono _ _ _
   | exact LeO.none _
   | refine LeO.ite ?_ ?_
   | refine LeO.bind ?_ (fun _ => ?_)
theorem leb_place_signed.aa_0 {p : Prop} (h : p := by repeat (first | (with_reducible first | exact HB.out | apply below_alloc | apply pw_below_drewN | apply below_drew1 | refine below_set ?_ GE144.out) | exact HB.out)) : p := h
theorem leb_place_signed.aa_1 {p : Prop} (h : p := by (try simp only [List.map_toArray, List.map_cons, List.map_nil]); first | done | rfl | (simp only [List.length_drop, List.length_take]; rfl)) : p := h
theorem leb_place_signed.aa_2 {p : Prop} (h : p := by repeat (first | (with_reducible first | exact HB.out | apply below_alloc | apply pw_below_drewN | apply below_drew1) | exact HB.out)) : p := h
theorem leb_place_signed.aa_3 {p : Prop} (h : p := by (with_reducible repeat (first | refine blk_drewN ?_ _ | refine blk_drew ?_ | refine blk_alloc ?_ _)); exact BK144.out) : p := h
theorem leb_place_signed.aa_4 {p : Prop} (h : p := by repeat (first | exact (Kd.C_below HR0_0.out HB.out) | (with_reducible refine Kd.C_alloc ?_ _) | (with_reducible refine Kd.C_drewN ?_ _) | (with_reducible refine Kd.C_drew ?_))) : p := h
theorem leb_place_signed.am_ {p : Prop} (h : p) : Aside0 p := Aside0.mk h
theorem leb_place_signed.bm_ {α β : Type _} {o : Option α} {f : α → Option β} {b : β} (h : o.bind f = some b) : ∃ a, o = some a ∧ f a = some b := Option.bind_eq_some_iff.mp h
set_option maxHeartbeats 8000000 in
set_option maxRecDepth 100000 in
theorem leb_place_signed.calls (k : Nat) (A0_0 : Option Addr) (c0_0 : Nat) (l0_0 : List Int) (a0_1 : Int) (r1 : Int) (r2 : Int) (r3 : Int) (w : World) (hr0_0 : Kd.C (Kd.int .u8) w A0_0 l0_0.length l0_0) (hc0_0 : l0_0.length ≤ c0_0) (h : leb_place_signed.f k l0_0 a0_1 = some (r1, r2, r3)) :
  Calls Try.prog 72 #[.agg #[.slice A0_0 l0_0.length c0_0, .int .i64 a0_1]] w fun e w' => e = .returned (.tuple #[.int .i64 r1, .int .i64 r2, .int .i64 r3]) ∧ Below w.heap.size w w' := by
 have hu97 := Try.underlying97; have HR0_0 := am_ hr0_0; have HC0_0 := am_ hc0_0; clear hr0_0 hc0_0; have HB := am_ (Below.refl w.heap.size w); have H : ((leb_place_groups.f k l0_0 a0_1).bind fun bt145 => (if bt145.2.2 = 0 then (if 0 ≤ (wrap64 (bt145.2.1 - 1)) then (if (wrap64 (bt145.2.1 - 1)) < (l0_0.length : Int) then (if (Go.bits .and .u8 (rd l0_0 (wrap64 (bt145.2.1 - 1))) 64) = 0 then ((leb_place_over.f l0_0 a0_1 bt145.2.1 0).bind fun t149 => (if t149 = true then (j0 k bt145.2.1 (wrap64 (bt145.1)) true l0_0 a0_1) else (if bt145.2.1 = 10 then (j0 k bt145.2.1 (wrap64 (bt145.1)) (false != (decide ((wrap64 (bt145.1)) < 0))) l0_0 a0_1) else (j0 k bt145.2.1 (wrap64 (bt145.1)) false l0_0 a0_1)))) else (if (wrap64 (7 * bt145.2.1)) < 64 then (if 0 ≤ (wrap64 (7 * bt145.2.1)) then (j1 k bt145.2.1 (Go.bits .or .i64 (wrap64 (bt145.1)) (shl .i64 (-1) (wrap64 (7 * bt145.2.1)))) true l0_0 a0_1) else (none)) else (j1 k bt145.2.1 (wrap64 (bt145.1)) true l0_0 a0_1))) else (none)) else (none)) else (some (0, 0, bt145.2.2)))) = some (r1, r2, r3) := h; clear h; replace H := bm_ H; obtain ⟨⟨t145, t146, t147⟩, A20, H⟩ := H; replace H : (if t147 = 0 then (if 0 ≤ (wrap64 (t146 - 1)) then (if (wrap64 (t146 - 1)) < (l0_0.length : Int) then (if (Go.bits .and .u8 (rd l0_0 (wrap64 (t146 - 1))) 64) = 0 then ((leb_place_over.f l0_0 a0_1 t146 0).bind fun t149 => (if t149 = true then (j0 k t146 (wrap64 (t145)) true l0_0 a0_1) else (if t146 = 10 then (j0 k t146 (wrap64 (t145)) (false != (decide ((wrap64 (t145)) < 0))) l0_0 a0_1) else (j0 k t146 (wrap64 (t145)) false l0_0 a0_1)))) else (if (wrap64 (7 * t146)) < 64 then (if 0 ≤ (wrap64 (7 * t146)) then (j1 k t146 (Go.bits .or .i64 (wrap64 (t145)) (shl .i64 (-1) (wrap64 (7 * t146)))) true l0_0 a0_1) else (none)) else (j1 k t146 (wrap64 (t145)) true l0_0 a0_1))) else (none)) else (none)) else (some (0, 0, t147))) = some (r1, r2, r3) := H; have A2 := am_ A20; clear A20; by_cases c3 : t147 = 0
 rotate_left
 ·rw [if_neg c3] at H; obtain ⟨c3b0, c3b1⟩ := nb c3; simp only [Option.some.injEq, Prod.mk.injEq] at H; obtain ⟨rfl, rfl, rfl⟩ := H; go_enter Try.func72, Try.ntmps72
  go_wp2_with (first | ((with_reducible refine gate_dst (N := 1) rfl ?_); refine box_event ?hg (N := 1) ?hd (cs := #[.slice A0_0 l0_0.length c0_0, .int .i64 a0_1]) (t := 97) ?hr ?_; (case hd => rfl); (case hg => rfl); (case hr => first | (go_simp; done) | (go_simp; rfl)); intro gb144 hg w64 hbox hb; have N_ := m_ (below_step aa_2 hb) <| m_ (hbox) <| m_ ((by rw [hg]; exact (below_size aa_2) : w.heap.size ≤ gb144)) <| am_ ((by rw [hg]; exact (below_size aa_2) : w.heap.size ≤ gb144)); clear HB; obtain ⟨HB, BK144, GW144, GE144⟩ := N_; clear hb hbox hg; have Z65_0 : w64.cell? ⟨gb144, 0, none⟩ = some (.slice A0_0 l0_0.length c0_0) := (bc BK144 0); have Z65_1 : w64.cell? ⟨gb144, 1, none⟩ = some (.int .i64 a0_1) := (bc BK144 1); have Y65_0 := blk_frozen BK144.out 0; have Y65_1 := blk_frozen BK144.out 1) | ((with_reducible refine gate_callee (f := 74) rfl ?_); refine goesL_ (some 14) rfl rfl Try.func74 (by kernel_rfl) rfl #[.agg #[.slice A0_0 l0_0.length c0_0, .int .i64 a0_1]] rfl aa_1 ?_; (with_reducible refine (leb_place_groups.calls k _ _ l0_0 a0_1 t145 t146 t147 _ ?side1 ?side2 A2.out).mono ?_); (case side1 => exact aa_4); (case side2 => exact HC0_0.out); rintro e w66 ⟨rfl, hb⟩; refine ⟨_, rfl, ?_⟩; have N_ := m_ (bbelow BK144 aa_3 hb) <| am_ (below_step aa_0 hb); clear BK144 HB; obtain ⟨BK144, HB⟩ := N_; (try clear hb); (try clear hb2); (try clear hk); (try clear hi)))
  go_ret3
  exact ⟨er_, by repeat (first | (with_reducible first | exact HB.out | apply below_alloc | apply pw_below_drewN | apply below_drew1 | refine below_set ?_ GE144.out) | exact HB.out)⟩
 rw [if_pos c3] at H; obtain ⟨c3b0, c3b1⟩ := eb c3; clear c3; obtain ⟨ji4, hji4⟩ : ∃ j_ : Int, (wrap64 (t146 - 1)) = j_ := ⟨_, rfl⟩
 replace H : (if 0 ≤ (ji4) then (if (ji4) < (l0_0.length : Int) then (if (Go.bits .and .u8 (rd l0_0 (ji4)) 64) = 0 then ((leb_place_over.f l0_0 a0_1 t146 0).bind fun t149 => (if t149 = true then (j0 k t146 (wrap64 (t145)) true l0_0 a0_1) else (if t146 = 10 then (j0 k t146 (wrap64 (t145)) (false != (decide ((wrap64 (t145)) < 0))) l0_0 a0_1) else (j0 k t146 (wrap64 (t145)) false l0_0 a0_1)))) else (if (wrap64 (7 * t146)) < 64 then (if 0 ≤ (wrap64 (7 * t146)) then (j1 k t146 (Go.bits .or .i64 (wrap64 (t145)) (shl .i64 (-1) (wrap64 (7 * t146)))) true l0_0 a0_1) else (none)) else (j1 k t146 (wrap64 (t145)) true l0_0 a0_1))) else (none)) else (none)) = some (r1, r2, r3) := by first | (rw [hji4] at H; exact H) | (simp only [hji4] at H ⊢; exact H)
 (try rw [hji4] at A2); have hji4w : (IntKind.i64.wrap (t146 - 1)) = ji4 := (i64_w _).trans hji4; by_cases c5 : 0 ≤ (ji4)
 rotate_left
 ·rw [if_neg c5] at H; exact absurd H (by simp)
 rw [if_pos c5] at H; have c5b0 : decide (0 ≤ (ji4)) = true := decide_eq_true c5; clear c5; by_cases c6 : (ji4) < (l0_0.length : Int)
 rotate_left
 ·rw [if_neg c6] at H; exact absurd H (by simp)
 rw [if_pos c6] at H; have c6b0 : decide ((ji4) < (l0_0.length : Int)) = true := decide_eq_true c6; clear c6; by_cases c7 : (Go.bits .and .u8 (rd l0_0 (ji4)) 64) = 0
 ·rw [if_pos c7] at H; obtain ⟨c7b0, c7b1⟩ := eb c7; clear c7; have HC8 := am_ H; clear H; go_enter Try.func72, Try.ntmps72
  go_upto_region 11 with (first | ((with_reducible refine gate_dst (N := 1) rfl ?_); refine box_event ?hg (N := 1) ?hd (cs := #[.slice A0_0 l0_0.length c0_0, .int .i64 a0_1]) (t := 97) ?hr ?_; (case hd => rfl); (case hg => rfl); (case hr => first | (go_simp; done) | (go_simp; rfl)); intro gb144 hg w9 hbox hb; have N_ := m_ (below_step aa_2 hb) <| m_ (hbox) <| m_ ((by rw [hg]; exact (below_size aa_2) : w.heap.size ≤ gb144)) <| am_ ((by rw [hg]; exact (below_size aa_2) : w.heap.size ≤ gb144)); clear HB; obtain ⟨HB, BK144, GW144, GE144⟩ := N_; clear hb hbox hg; have Z10_0 : w9.cell? ⟨gb144, 0, none⟩ = some (.slice A0_0 l0_0.length c0_0) := (bc BK144 0); have Z10_1 : w9.cell? ⟨gb144, 1, none⟩ = some (.int .i64 a0_1) := (bc BK144 1); have Y10_0 := blk_frozen BK144.out 0; have Y10_1 := blk_frozen BK144.out 1) | ((with_reducible refine gate_callee (f := 74) rfl ?_); refine goesL_ (some 14) rfl rfl Try.func74 (by kernel_rfl) rfl #[.agg #[.slice A0_0 l0_0.length c0_0, .int .i64 a0_1]] rfl aa_1 ?_; (with_reducible refine (leb_place_groups.calls k _ _ l0_0 a0_1 t145 t146 t147 _ ?side1 ?side2 A2.out).mono ?_); (case side1 => exact aa_4); (case side2 => exact HC0_0.out); rintro e w11 ⟨rfl, hb⟩; refine ⟨_, rfl, ?_⟩; have N_ := m_ (bbelow BK144 aa_3 hb) <| am_ (below_step aa_0 hb); clear BK144 HB; obtain ⟨BK144, HB⟩ := N_; (try clear hb); (try clear hb2); (try clear hk); (try clear hi); have Z12_0 : w11.cell? ⟨gb144, 0, none⟩ = some (.slice A0_0 l0_0.length c0_0) := (bc BK144 0); have Z12_1 : w11.cell? ⟨gb144, 1, none⟩ = some (.int .i64 a0_1) := (bc BK144 1); have Y12_0 := blk_frozen BK144.out 0; have Y12_1 := blk_frozen BK144.out 1; have p148 : 0 ≤ ((ji4) : Int) := of_decide_eq_true (by first | (with_reducible assumption) | assumption); have q148 : (ji4) < (l0_0.length : Int) := of_decide_eq_true (by first | (with_reducible assumption) | assumption); obtain ⟨ad148, e148, hx148_0⟩ := Kd.at_int HR0_0.out (ji4) p148 q148; cases e148; replace hx148_0 := up HB hx148_0; replace p148 := eq_true p148; replace q148 := eq_true q148))
  (try simp only [Act.put, e1, e2, e3])
  go_cut [56] (fun v56 wc => ∃ (kq : Nat) (x56_7 : Bool), v56 = .bool x56_7 ∧ Aside0 (j0 kq t146 (wrap64 (t145)) x56_7 l0_0 a0_1 = some (r1, r2, r3)) ∧ Aside0 (kq ≤ k) ∧ Aside0 (wc.heap[gb144]? = some (.cells #[(.slice (some ad148) l0_0.length c0_0), .int .i64 a0_1] 97 (0, 0))) ∧ Aside0 (Below w.heap.size w wc))
  case first =>
   have H := HC8.out; clear HC8; replace H := bm_ H; obtain ⟨t149, A130, H⟩ := H; replace H : (if t149 = true then (j0 k t146 (wrap64 (t145)) true l0_0 a0_1) else (if t146 = 10 then (j0 k t146 (wrap64 (t145)) (false != (decide ((wrap64 (t145)) < 0))) l0_0 a0_1) else (j0 k t146 (wrap64 (t145)) false l0_0 a0_1))) = some (r1, r2, r3) := H; have A13 := am_ A130; clear A130; by_cases c14 : t149 = true
   ·subst c14; have H1 : (j0 k t146 (wrap64 (t145)) true l0_0 a0_1) = some (r1, r2, r3) := by rw [if_pos rfl] at H; exact H
    clear H; have H := H1; clear H1; have H' := am_ H; clear H; have Z15_0 : w11.cell? ⟨gb144, 0, none⟩ = some (.slice (some ad148) l0_0.length c0_0) := bc BK144 0; have Z15_1 : w11.cell? ⟨gb144, 1, none⟩ = some (.int .i64 a0_1) := bc BK144 1; have Y15_0 := blk_frozen BK144.out 0; have Y15_1 := blk_frozen BK144.out 1
    go_wp2_with (first | ((with_reducible refine gate_callee (f := 75) rfl ?_); refine goesL_ (some 46) rfl rfl Try.func75 (by kernel_rfl) rfl #[.agg #[.slice (some ad148) l0_0.length c0_0, .int .i64 a0_1], .int .i64 t146, .int .u8 0] rfl aa_1 ?_; (with_reducible refine (leb_place_over.calls _ _ l0_0 a0_1 t146 0 true _ ?side1 ?side2 A13.out).mono ?_); (case side1 => exact aa_4); (case side2 => exact HC0_0.out); rintro e w16 ⟨rfl, hb⟩; refine ⟨_, rfl, ?_⟩; have N_ := m_ (bbelow BK144 aa_3 hb) <| am_ (below_step aa_0 hb); clear BK144 HB; obtain ⟨BK144, HB⟩ := N_; (try clear hb); (try clear hb2); (try clear hk); (try clear hi)))
    go_meet
    case rel => exact ⟨_, (true), (es_), H', ⟨by first | omega | exact Nat.le_refl _⟩, ⟨aa_3⟩, ⟨aa_0⟩⟩
   replace c14 := Bool.eq_false_iff.mpr c14; subst c14; have H1 : (if t146 = 10 then (j0 k t146 (wrap64 (t145)) (false != (decide ((wrap64 (t145)) < 0))) l0_0 a0_1) else (j0 k t146 (wrap64 (t145)) false l0_0 a0_1)) = some (r1, r2, r3) := by rw [if_neg (show ¬ (false = true) by decide)] at H; exact H
   clear H; have H := H1; clear H1; by_cases c17 : t146 = 10
   ·rw [if_pos c17] at H; obtain ⟨c17b0, c17b1⟩ := eb c17; clear c17; (first | rw [c17b0] | (simp only [i64_w, i32_w]; rw [c17b0]) | skip); have H' := am_ H; clear H; have Z18_0 : w11.cell? ⟨gb144, 0, none⟩ = some (.slice (some ad148) l0_0.length c0_0) := bc BK144 0; have Z18_1 : w11.cell? ⟨gb144, 1, none⟩ = some (.int .i64 a0_1) := bc BK144 1; have Y18_0 := blk_frozen BK144.out 0; have Y18_1 := blk_frozen BK144.out 1
    go_wp2_with (first | ((with_reducible refine gate_callee (f := 75) rfl ?_); refine goesL_ (some 46) rfl rfl Try.func75 (by kernel_rfl) rfl #[.agg #[.slice (some ad148) l0_0.length c0_0, .int .i64 a0_1], .int .i64 t146, .int .u8 0] rfl aa_1 ?_; (with_reducible refine (leb_place_over.calls _ _ l0_0 a0_1 t146 0 false _ ?side1 ?side2 A13.out).mono ?_); (case side1 => exact aa_4); (case side2 => exact HC0_0.out); rintro e w19 ⟨rfl, hb⟩; refine ⟨_, rfl, ?_⟩; have N_ := m_ (bbelow BK144 aa_3 hb) <| am_ (below_step aa_0 hb); clear BK144 HB; obtain ⟨BK144, HB⟩ := N_; (try clear hb); (try clear hb2); (try clear hk); (try clear hi)))
    go_meet
    case rel => exact ⟨_, ((false != (decide ((wrap64 (t145)) < 0)))), (es_), H', ⟨by first | omega | exact Nat.le_refl _⟩, ⟨aa_3⟩, ⟨aa_0⟩⟩
   rw [if_neg c17] at H; obtain ⟨c17b0, c17b1⟩ := nb c17; (first | rw [c17b0] | (simp only [i64_w, i32_w]; rw [c17b0]) | skip); have H' := am_ H; clear H; have Z20_0 : w11.cell? ⟨gb144, 0, none⟩ = some (.slice (some ad148) l0_0.length c0_0) := bc BK144 0; have Z20_1 : w11.cell? ⟨gb144, 1, none⟩ = some (.int .i64 a0_1) := bc BK144 1; have Y20_0 := blk_frozen BK144.out 0; have Y20_1 := blk_frozen BK144.out 1
   go_wp2_with (first | ((with_reducible refine gate_callee (f := 75) rfl ?_); refine goesL_ (some 46) rfl rfl Try.func75 (by kernel_rfl) rfl #[.agg #[.slice (some ad148) l0_0.length c0_0, .int .i64 a0_1], .int .i64 t146, .int .u8 0] rfl aa_1 ?_; (with_reducible refine (leb_place_over.calls _ _ l0_0 a0_1 t146 0 false _ ?side1 ?side2 A13.out).mono ?_); (case side1 => exact aa_4); (case side2 => exact HC0_0.out); rintro e w21 ⟨rfl, hb⟩; refine ⟨_, rfl, ?_⟩; have N_ := m_ (bbelow BK144 aa_3 hb) <| am_ (below_step aa_0 hb); clear BK144 HB; obtain ⟨BK144, HB⟩ := N_; (try clear hb); (try clear hb2); (try clear hk); (try clear hi)))
   go_meet
   case rel => exact ⟨_, (false), (es_), H', ⟨by first | omega | exact Nat.le_refl _⟩, ⟨aa_3⟩, ⟨aa_0⟩⟩
  case rest =>
  clear HC8; (try clear c3b0); (try clear c3b1); (try clear c5b0); (try clear c6b0); (try clear c7b0); (try clear c7b1); (try clear Z10_0); (try clear Z10_1); (try clear Z12_0); (try clear Z12_1); (try clear Y10_0); (try clear Y10_1); (try clear Y12_0); (try clear Y12_1); (try clear hx148_0); (try clear p148); (try clear q148); obtain ⟨kq, x56_7, rfl, HA, HJ7, BK144, HB⟩ := hcut
  cases kq with
  | zero => exact absurd HA.out (by simp [j0])
  | succ kj7 =>
  have H := HA.out; clear HA; simp only [j0] at H; by_cases c22 : x56_7 = true
  ·subst c22; have H1 : (some (0, 0, 100)) = some (r1, r2, r3) := by rw [if_pos rfl] at H; exact H
   clear H; have H := H1; clear H1; simp only [Option.some.injEq, Prod.mk.injEq] at H; obtain ⟨rfl, rfl, rfl⟩ := H; go_wp2
   go_ret3
   exact ⟨by first | rfl | (simp [errW_none, errW_some] <;> rfl) | (simp only [← hji4]; first | rfl | (simp [errW_none, errW_some] <;> rfl)) | (simp [*, errW_none, errW_some] <;> rfl), by repeat (first | (with_reducible first | exact HB.out | apply below_alloc | apply pw_below_drewN | apply below_drew1 | refine below_set ?_ GE144.out) | exact HB.out)⟩
  replace c22 := Bool.eq_false_iff.mpr c22; subst c22; have H1 : (if 0 ≤ (wrap64 (a0_1 - 1)) then (if a0_1 < 64 then (if (wrap64 (t145)) < (wrap64 (-(shl .i64 1 (wrap64 (a0_1 - 1))))) then (some (0, 0, 100)) else (if (wrap64 (t145)) ≥ (shl .i64 1 (wrap64 (a0_1 - 1))) then (some (0, 0, 100)) else (some ((wrap64 (t145)), t146, 0)))) else (some ((wrap64 (t145)), t146, 0))) else (none)) = some (r1, r2, r3) := by rw [if_neg (show ¬ (false = true) by decide)] at H; exact H
  clear H; have H := H1; clear H1; obtain ⟨ji23, hji23⟩ : ∃ j_ : Int, (wrap64 (a0_1 - 1)) = j_ := ⟨_, rfl⟩
  replace H : (if 0 ≤ (ji23) then (if a0_1 < 64 then (if (wrap64 (t145)) < (wrap64 (-(shl .i64 1 (ji23)))) then (some (0, 0, 100)) else (if (wrap64 (t145)) ≥ (shl .i64 1 (ji23)) then (some (0, 0, 100)) else (some ((wrap64 (t145)), t146, 0)))) else (some ((wrap64 (t145)), t146, 0))) else (none)) = some (r1, r2, r3) := by first | (rw [hji23] at H; exact H) | (simp only [hji23] at H ⊢; exact H)
  have hji23w : (IntKind.i64.wrap (a0_1 - 1)) = ji23 := (i64_w _).trans hji23; by_cases c24 : 0 ≤ (ji23)
  rotate_left
  ·rw [if_neg c24] at H; exact absurd H (by simp)
  rw [if_pos c24] at H; have c24b0 := eq_true c24; have c24b1 : decide (0 ≤ (ji23)) = true := decide_eq_true c24; clear c24; obtain ⟨ji25, hji25⟩ : ∃ j_ : Int, (shl .i64 1 (ji23)) = j_ := ⟨_, rfl⟩
  replace H : (if a0_1 < 64 then (if (wrap64 (t145)) < (wrap64 (-(ji25))) then (some (0, 0, 100)) else (if (wrap64 (t145)) ≥ (ji25) then (some (0, 0, 100)) else (some ((wrap64 (t145)), t146, 0)))) else (some ((wrap64 (t145)), t146, 0))) = some (r1, r2, r3) := by first | (rw [hji25] at H; exact H) | (simp only [hji25] at H ⊢; exact H)
  have hji25_ : (IntKind.i64.wrap (1 * 2 ^ min (ji23).toNat 64)) = ji25 := hji25; have hji25z : (ji23) ≤ 64 → (IntKind.i64.wrap (1 * 2 ^ (ji23).toNat)) = ji25 := shl_small hji25; have hji25u : (IntKind.i64.wrap (2 ^ min (ji23).toNat 64)) = ji25 := by have h_ := hji25_; rw [Int.one_mul] at h_; exact h_
  have hji25v : (ji23) ≤ 64 → (IntKind.i64.wrap (2 ^ (ji23).toNat)) = ji25 := fun hle_ => by have h_ := hji25z hle_; rw [Int.one_mul] at h_; exact h_
  have hji25y : (wrap64 (1 * 2 ^ min (ji23).toNat 64)) = ji25 := (i64_w _).symm.trans hji25_; have hji25x : (ji23) ≤ 64 → (wrap64 (1 * 2 ^ (ji23).toNat)) = ji25 := fun h_ => (i64_w _).symm.trans (hji25z h_)
  by_cases c26 : a0_1 < 64
  rotate_left
  ·rw [if_neg c26] at H; have c26b0 : decide (a0_1 < 64) = false := decide_eq_false c26; clear c26; simp only [Option.some.injEq, Prod.mk.injEq] at H; obtain ⟨rfl, rfl, rfl⟩ := H; have Z32_0 : wc.cell? ⟨gb144, 0, none⟩ = some (.slice (some ad148) l0_0.length c0_0) := bc BK144 0; have Z32_1 : wc.cell? ⟨gb144, 1, none⟩ = some (.int .i64 a0_1) := bc BK144 1; have Y32_0 := blk_frozen BK144.out 0; have Y32_1 := blk_frozen BK144.out 1; go_wp2
   go_ret3
   exact ⟨by first | rfl | (simp [errW_none, errW_some] <;> rfl) | (simp only [← hji4, ← hji23, ← hji25]; first | rfl | (simp [errW_none, errW_some] <;> rfl)) | (simp [*, errW_none, errW_some] <;> rfl), by repeat (first | (with_reducible first | exact HB.out | apply below_alloc | apply pw_below_drewN | apply below_drew1 | refine below_set ?_ GE144.out) | exact HB.out)⟩
  rw [if_pos c26] at H; have c26b0 : decide (a0_1 < 64) = true := decide_eq_true c26; clear c26; by_cases c27 : (wrap64 (t145)) < (wrap64 (-(ji25)))
  ·rw [if_pos c27] at H; have c27b0 : decide ((wrap64 (t145)) < (wrap64 (-(ji25)))) = true := decide_eq_true c27; clear c27; simp only [Option.some.injEq, Prod.mk.injEq] at H; obtain ⟨rfl, rfl, rfl⟩ := H; have Z28_0 : wc.cell? ⟨gb144, 0, none⟩ = some (.slice (some ad148) l0_0.length c0_0) := bc BK144 0; have Z28_1 : wc.cell? ⟨gb144, 1, none⟩ = some (.int .i64 a0_1) := bc BK144 1; have Y28_0 := blk_frozen BK144.out 0; have Y28_1 := blk_frozen BK144.out 1; go_wp2
   go_ret3
   exact ⟨by first | rfl | (simp [errW_none, errW_some] <;> rfl) | (simp only [← hji4, ← hji23, ← hji25]; first | rfl | (simp [errW_none, errW_some] <;> rfl)) | (simp [*, errW_none, errW_some] <;> rfl), by repeat (first | (with_reducible first | exact HB.out | apply below_alloc | apply pw_below_drewN | apply below_drew1 | refine below_set ?_ GE144.out) | exact HB.out)⟩
  rw [if_neg c27] at H; have c27b0 : decide ((wrap64 (t145)) < (wrap64 (-(ji25)))) = false := decide_eq_false c27; clear c27; by_cases c29 : (wrap64 (t145)) ≥ (ji25)
  ·rw [if_pos c29] at H; have c29b0 : decide ((ji25) ≤ (wrap64 (t145))) = true := decide_eq_true c29; clear c29; simp only [Option.some.injEq, Prod.mk.injEq] at H; obtain ⟨rfl, rfl, rfl⟩ := H; have Z30_0 : wc.cell? ⟨gb144, 0, none⟩ = some (.slice (some ad148) l0_0.length c0_0) := bc BK144 0; have Z30_1 : wc.cell? ⟨gb144, 1, none⟩ = some (.int .i64 a0_1) := bc BK144 1; have Y30_0 := blk_frozen BK144.out 0; have Y30_1 := blk_frozen BK144.out 1; go_wp2
   go_ret3
   exact ⟨by first | rfl | (simp [errW_none, errW_some] <;> rfl) | (simp only [← hji4, ← hji23, ← hji25]; first | rfl | (simp [errW_none, errW_some] <;> rfl)) | (simp [*, errW_none, errW_some] <;> rfl), by repeat (first | (with_reducible first | exact HB.out | apply below_alloc | apply pw_below_drewN | apply below_drew1 | refine below_set ?_ GE144.out) | exact HB.out)⟩
  rw [if_neg c29] at H; have c29b0 : decide ((ji25) ≤ (wrap64 (t145))) = false := decide_eq_false c29; clear c29; simp only [Option.some.injEq, Prod.mk.injEq] at H; obtain ⟨rfl, rfl, rfl⟩ := H; have Z31_0 : wc.cell? ⟨gb144, 0, none⟩ = some (.slice (some ad148) l0_0.length c0_0) := bc BK144 0; have Z31_1 : wc.cell? ⟨gb144, 1, none⟩ = some (.int .i64 a0_1) := bc BK144 1; have Y31_0 := blk_frozen BK144.out 0; have Y31_1 := blk_frozen BK144.out 1; go_wp2
  go_ret3
  exact ⟨by first | rfl | (simp [errW_none, errW_some] <;> rfl) | (simp only [← hji4, ← hji23, ← hji25]; first | rfl | (simp [errW_none, errW_some] <;> rfl)) | (simp [*, errW_none, errW_some] <;> rfl), by repeat (first | (with_reducible first | exact HB.out | apply below_alloc | apply pw_below_drewN | apply below_drew1 | refine below_set ?_ GE144.out) | exact HB.out)⟩
 rw [if_neg c7] at H; obtain ⟨c7b0, c7b1⟩ := nb c7; have HC33 := am_ H; clear H; go_enter Try.func72, Try.ntmps72
 go_upto_if 36 with (first | ((with_reducible refine gate_dst (N := 1) rfl ?_); refine box_event ?hg (N := 1) ?hd (cs := #[.slice A0_0 l0_0.length c0_0, .int .i64 a0_1]) (t := 97) ?hr ?_; (case hd => rfl); (case hg => rfl); (case hr => first | (go_simp; done) | (go_simp; rfl)); intro gb144 hg w34 hbox hb; have N_ := m_ (below_step aa_2 hb) <| m_ (hbox) <| m_ ((by rw [hg]; exact (below_size aa_2) : w.heap.size ≤ gb144)) <| am_ ((by rw [hg]; exact (below_size aa_2) : w.heap.size ≤ gb144)); clear HB; obtain ⟨HB, BK144, GW144, GE144⟩ := N_; clear hb hbox hg; have Z35_0 : w34.cell? ⟨gb144, 0, none⟩ = some (.slice A0_0 l0_0.length c0_0) := (bc BK144 0); have Z35_1 : w34.cell? ⟨gb144, 1, none⟩ = some (.int .i64 a0_1) := (bc BK144 1); have Y35_0 := blk_frozen BK144.out 0; have Y35_1 := blk_frozen BK144.out 1) | ((with_reducible refine gate_callee (f := 74) rfl ?_); refine goesL_ (some 14) rfl rfl Try.func74 (by kernel_rfl) rfl #[.agg #[.slice A0_0 l0_0.length c0_0, .int .i64 a0_1]] rfl aa_1 ?_; (with_reducible refine (leb_place_groups.calls k _ _ l0_0 a0_1 t145 t146 t147 _ ?side1 ?side2 A2.out).mono ?_); (case side1 => exact aa_4); (case side2 => exact HC0_0.out); rintro e w36 ⟨rfl, hb⟩; refine ⟨_, rfl, ?_⟩; have N_ := m_ (bbelow BK144 aa_3 hb) <| am_ (below_step aa_0 hb); clear BK144 HB; obtain ⟨BK144, HB⟩ := N_; (try clear hb); (try clear hb2); (try clear hk); (try clear hi); have Z37_0 : w36.cell? ⟨gb144, 0, none⟩ = some (.slice A0_0 l0_0.length c0_0) := (bc BK144 0); have Z37_1 : w36.cell? ⟨gb144, 1, none⟩ = some (.int .i64 a0_1) := (bc BK144 1); have Y37_0 := blk_frozen BK144.out 0; have Y37_1 := blk_frozen BK144.out 1; have p148 : 0 ≤ ((ji4) : Int) := of_decide_eq_true (by first | (with_reducible assumption) | assumption); have q148 : (ji4) < (l0_0.length : Int) := of_decide_eq_true (by first | (with_reducible assumption) | assumption); obtain ⟨ad148, e148, hx148_0⟩ := Kd.at_int HR0_0.out (ji4) p148 q148; cases e148; replace hx148_0 := up HB hx148_0; replace p148 := eq_true p148; replace q148 := eq_true q148))
 (try simp only [Act.put, e1, e2, e3])
 go_cut [8] (fun v8 wc => ∃ (kq : Nat) (x8_32 : Int), v8 = .int .i64 x8_32 ∧ Aside0 (j1 kq t146 x8_32 true l0_0 a0_1 = some (r1, r2, r3)) ∧ Aside0 (kq ≤ k) ∧ Aside0 (wc.heap[gb144]? = some (.cells #[(.slice (some ad148) l0_0.length c0_0), .int .i64 a0_1] 97 (0, 0))) ∧ Aside0 (Below w.heap.size w wc))
 case first =>
  have H := HC33.out; clear HC33; by_cases c38 : (wrap64 (7 * t146)) < 64
  rotate_left
  ·rw [if_neg c38] at H; have c38b0 : decide ((wrap64 (7 * t146)) < 64) = false := decide_eq_false c38; clear c38; (first | rw [c38b0] | (simp only [i64_w, i32_w]; rw [c38b0]) | skip); have H' := am_ H; clear H; go_wp2; go_meet
   case rel => exact ⟨_, (wrap64 (t145)), (es_), H', ⟨by first | omega | exact Nat.le_refl _⟩, ⟨aa_3⟩, ⟨aa_0⟩⟩
  rw [if_pos c38] at H; have c38b0 : decide ((wrap64 (7 * t146)) < 64) = true := decide_eq_true c38; clear c38; (first | rw [c38b0] | (simp only [i64_w, i32_w]; rw [c38b0]) | skip); obtain ⟨ji39, hji39⟩ : ∃ j_ : Int, (wrap64 (7 * t146)) = j_ := ⟨_, rfl⟩
  replace H : (if 0 ≤ (ji39) then (j1 k t146 (Go.bits .or .i64 (wrap64 (t145)) (shl .i64 (-1) (ji39))) true l0_0 a0_1) else (none)) = some (r1, r2, r3) := by first | (rw [hji39] at H; exact H) | (simp only [hji39] at H ⊢; exact H)
  (try rw [hji39] at c38b0); have hji39w : (IntKind.i64.wrap (7 * t146)) = ji39 := (i64_w _).trans hji39; by_cases c40 : 0 ≤ (ji39)
  rotate_left
  ·rw [if_neg c40] at H; exact absurd H (by simp)
  rw [if_pos c40] at H; have c40b0 := eq_true c40; have c40b1 : decide (0 ≤ (ji39)) = true := decide_eq_true c40; clear c40; obtain ⟨ji41, hji41⟩ : ∃ j_ : Int, (shl .i64 (-1) (ji39)) = j_ := ⟨_, rfl⟩
  replace H : (j1 k t146 (Go.bits .or .i64 (wrap64 (t145)) (ji41)) true l0_0 a0_1) = some (r1, r2, r3) := by first | (rw [hji41] at H; exact H) | (simp only [hji41] at H ⊢; exact H)
  have hji41_ : (IntKind.i64.wrap ((-1) * 2 ^ min (ji39).toNat 64)) = ji41 := hji41; have hji41z : (ji39) ≤ 64 → (IntKind.i64.wrap ((-1) * 2 ^ (ji39).toNat)) = ji41 := shl_small hji41; have hji41n : (IntKind.i64.wrap (-2 ^ min (ji39).toNat 64)) = ji41 := by have h_ := hji41_; rw [Int.neg_one_mul] at h_; exact h_
  have hji41nb : (ji39) ≤ 64 → (IntKind.i64.wrap (-2 ^ (ji39).toNat)) = ji41 := fun hle_ => by have h_ := hji41z hle_; rw [Int.neg_one_mul] at h_; exact h_
  have hji41nw : (wrap64 (-2 ^ min (ji39).toNat 64)) = ji41 := (i64_w _).symm.trans hji41n; have hji41nc : (ji39) ≤ 64 → (wrap64 (-2 ^ (ji39).toNat)) = ji41 := fun h_ => (i64_w _).symm.trans (hji41nb h_)
  have hji41y : (wrap64 ((-1) * 2 ^ min (ji39).toNat 64)) = ji41 := (i64_w _).symm.trans hji41_; have hji41x : (ji39) ≤ 64 → (wrap64 ((-1) * 2 ^ (ji39).toNat)) = ji41 := fun h_ => (i64_w _).symm.trans (hji41z h_)
  have H' := am_ H; clear H; go_wp2; go_meet
  case rel => exact ⟨_, (Go.bits .or .i64 (wrap64 (t145)) (ji41)), (by first | rfl | (simp; done) | (simp only [← hji41] <;> (first | rfl | simp)) | (simp [*]; done)), H', ⟨by first | omega | exact Nat.le_refl _⟩, ⟨aa_3⟩, ⟨aa_0⟩⟩
 case rest =>
 clear HC33; (try clear c3b0); (try clear c3b1); (try clear c5b0); (try clear c6b0); (try clear c7); (try clear c7b0); (try clear c7b1); (try clear Z35_0); (try clear Z35_1); (try clear Z37_0); (try clear Z37_1); (try clear Y35_0); (try clear Y35_1); (try clear Y37_0); (try clear Y37_1); (try clear hx148_0); (try clear p148); (try clear q148); obtain ⟨kq, x8_32, rfl, HA, HJ32, BK144, HB⟩ := hcut
 cases kq with
 | zero => exact absurd HA.out (by simp [j1])
 | succ kj32 =>
 have H := HA.out; clear HA; simp only [j1] at H; have HC42 := am_ H; clear H
 go_upto_if 42 with (fail)
 go_cut [10] (fun v10 wc => ∃ (kq : Nat) (x10_41 : Int), v10 = .int .u8 x10_41 ∧ Aside0 (j2 kq t146 x8_32 true x10_41 l0_0 a0_1 = some (r1, r2, r3)) ∧ Aside0 (kq ≤ kj32) ∧ Aside0 (wc.heap[gb144]? = some (.cells #[(.slice (some ad148) l0_0.length c0_0), .int .i64 a0_1] 97 (0, 0))) ∧ Aside0 (Below w.heap.size w wc))
 case first =>
  have H := HC42.out; clear HC42; have H1 : (j2 kj32 t146 x8_32 true 126 l0_0 a0_1) = some (r1, r2, r3) := by first | with_reducible exact H | (rw [if_pos rfl] at H; exact H) | (simpa only [if_true, if_false, Bool.false_eq_true] using H) | exact H
  clear H; have H := H1; clear H1; have H' := am_ H; clear H; go_wp2; go_meet
  case rel => exact ⟨_, (126), (es_), H', ⟨by have := HJ32.out; first | omega | exact Nat.le_refl _⟩, ⟨aa_3⟩, ⟨aa_0⟩⟩
 case rest =>
 clear HC42; obtain ⟨kq, x10_41, rfl, HA, HJ41, BK144, HB⟩ := hcut
 cases kq with
 | zero => exact absurd HA.out (by simp [j2])
 | succ kj41 =>
 have H := HA.out; clear HA; simp only [j2] at H; have HC43 := am_ H; clear H
 go_upto_region 11 with (fail)
 go_cut [56] (fun v56 wc => ∃ (kq : Nat) (x56_42 : Bool), v56 = .bool x56_42 ∧ Aside0 (j3 kq t146 x8_32 x56_42 l0_0 a0_1 = some (r1, r2, r3)) ∧ Aside0 (kq ≤ kj41) ∧ Aside0 (wc.heap[gb144]? = some (.cells #[(.slice (some ad148) l0_0.length c0_0), .int .i64 a0_1] 97 (0, 0))) ∧ Aside0 (Below w.heap.size w wc))
 case first =>
  have H := HC43.out; clear HC43; replace H := bm_ H; obtain ⟨t150, A440, H⟩ := H; replace H : (if t150 = true then (j3 kj41 t146 x8_32 true l0_0 a0_1) else (if t146 = 10 then (j3 kj41 t146 x8_32 (true != (decide (x8_32 < 0))) l0_0 a0_1) else (j3 kj41 t146 x8_32 false l0_0 a0_1))) = some (r1, r2, r3) := H; have A44 := am_ A440; clear A440; by_cases c45 : t150 = true
  ·subst c45; have H1 : (j3 kj41 t146 x8_32 true l0_0 a0_1) = some (r1, r2, r3) := by rw [if_pos rfl] at H; exact H
   clear H; have H := H1; clear H1; have H' := am_ H; clear H; have Z46_0 : wc.cell? ⟨gb144, 0, none⟩ = some (.slice (some ad148) l0_0.length c0_0) := bc BK144 0; have Z46_1 : wc.cell? ⟨gb144, 1, none⟩ = some (.int .i64 a0_1) := bc BK144 1; have Y46_0 := blk_frozen BK144.out 0; have Y46_1 := blk_frozen BK144.out 1
   go_wp2_with (first | ((with_reducible refine gate_callee (f := 75) rfl ?_); refine goesL_ (some 46) rfl rfl Try.func75 (by kernel_rfl) rfl #[.agg #[.slice (some ad148) l0_0.length c0_0, .int .i64 a0_1], .int .i64 t146, .int .u8 x10_41] rfl aa_1 ?_; (with_reducible refine (leb_place_over.calls _ _ l0_0 a0_1 t146 x10_41 true _ ?side1 ?side2 A44.out).mono ?_); (case side1 => exact aa_4); (case side2 => exact HC0_0.out); rintro e w47 ⟨rfl, hb⟩; refine ⟨_, rfl, ?_⟩; have N_ := m_ (bbelow BK144 aa_3 hb) <| am_ (below_step aa_0 hb); clear BK144 HB; obtain ⟨BK144, HB⟩ := N_; (try clear hb); (try clear hb2); (try clear hk); (try clear hi)))
   go_meet
   case rel => exact ⟨_, (true), (es_), H', ⟨by have := HJ32.out; have := HJ41.out; first | omega | exact Nat.le_refl _⟩, ⟨aa_3⟩, ⟨aa_0⟩⟩
  replace c45 := Bool.eq_false_iff.mpr c45; subst c45; have H1 : (if t146 = 10 then (j3 kj41 t146 x8_32 (true != (decide (x8_32 < 0))) l0_0 a0_1) else (j3 kj41 t146 x8_32 false l0_0 a0_1)) = some (r1, r2, r3) := by rw [if_neg (show ¬ (false = true) by decide)] at H; exact H
  clear H; have H := H1; clear H1; by_cases c48 : t146 = 10
  ·rw [if_pos c48] at H; obtain ⟨c48b0, c48b1⟩ := eb c48; clear c48; (first | rw [c48b0] | (simp only [i64_w, i32_w]; rw [c48b0]) | skip); have H' := am_ H; clear H; have Z49_0 : wc.cell? ⟨gb144, 0, none⟩ = some (.slice (some ad148) l0_0.length c0_0) := bc BK144 0; have Z49_1 : wc.cell? ⟨gb144, 1, none⟩ = some (.int .i64 a0_1) := bc BK144 1; have Y49_0 := blk_frozen BK144.out 0; have Y49_1 := blk_frozen BK144.out 1
   go_wp2_with (first | ((with_reducible refine gate_callee (f := 75) rfl ?_); refine goesL_ (some 46) rfl rfl Try.func75 (by kernel_rfl) rfl #[.agg #[.slice (some ad148) l0_0.length c0_0, .int .i64 a0_1], .int .i64 t146, .int .u8 x10_41] rfl aa_1 ?_; (with_reducible refine (leb_place_over.calls _ _ l0_0 a0_1 t146 x10_41 false _ ?side1 ?side2 A44.out).mono ?_); (case side1 => exact aa_4); (case side2 => exact HC0_0.out); rintro e w50 ⟨rfl, hb⟩; refine ⟨_, rfl, ?_⟩; have N_ := m_ (bbelow BK144 aa_3 hb) <| am_ (below_step aa_0 hb); clear BK144 HB; obtain ⟨BK144, HB⟩ := N_; (try clear hb); (try clear hb2); (try clear hk); (try clear hi)))
   go_meet
   case rel => exact ⟨_, ((true != (decide (x8_32 < 0)))), (es_), H', ⟨by have := HJ32.out; have := HJ41.out; first | omega | exact Nat.le_refl _⟩, ⟨aa_3⟩, ⟨aa_0⟩⟩
  rw [if_neg c48] at H; obtain ⟨c48b0, c48b1⟩ := nb c48; (first | rw [c48b0] | (simp only [i64_w, i32_w]; rw [c48b0]) | skip); have H' := am_ H; clear H; have Z51_0 : wc.cell? ⟨gb144, 0, none⟩ = some (.slice (some ad148) l0_0.length c0_0) := bc BK144 0; have Z51_1 : wc.cell? ⟨gb144, 1, none⟩ = some (.int .i64 a0_1) := bc BK144 1; have Y51_0 := blk_frozen BK144.out 0; have Y51_1 := blk_frozen BK144.out 1
  go_wp2_with (first | ((with_reducible refine gate_callee (f := 75) rfl ?_); refine goesL_ (some 46) rfl rfl Try.func75 (by kernel_rfl) rfl #[.agg #[.slice (some ad148) l0_0.length c0_0, .int .i64 a0_1], .int .i64 t146, .int .u8 x10_41] rfl aa_1 ?_; (with_reducible refine (leb_place_over.calls _ _ l0_0 a0_1 t146 x10_41 false _ ?side1 ?side2 A44.out).mono ?_); (case side1 => exact aa_4); (case side2 => exact HC0_0.out); rintro e w52 ⟨rfl, hb⟩; refine ⟨_, rfl, ?_⟩; have N_ := m_ (bbelow BK144 aa_3 hb) <| am_ (below_step aa_0 hb); clear BK144 HB; obtain ⟨BK144, HB⟩ := N_; (try clear hb); (try clear hb2); (try clear hk); (try clear hi)))
  go_meet
  case rel => exact ⟨_, (false), (es_), H', ⟨by have := HJ32.out; have := HJ41.out; first | omega | exact Nat.le_refl _⟩, ⟨aa_3⟩, ⟨aa_0⟩⟩
 case rest =>
 clear HC43; obtain ⟨kq, x56_42, rfl, HA, HJ42, BK144, HB⟩ := hcut
 cases kq with
 | zero => exact absurd HA.out (by simp [j3])
 | succ kj42 =>
 have H := HA.out; clear HA; simp only [j3] at H; by_cases c53 : x56_42 = true
 ·subst c53; have H1 : (some (0, 0, 100)) = some (r1, r2, r3) := by rw [if_pos rfl] at H; exact H
  clear H; have H := H1; clear H1; simp only [Option.some.injEq, Prod.mk.injEq] at H; obtain ⟨rfl, rfl, rfl⟩ := H; go_wp2
  go_ret3
  exact ⟨by first | rfl | (simp [errW_none, errW_some] <;> rfl) | (simp only [← hji4]; first | rfl | (simp [errW_none, errW_some] <;> rfl)) | (simp [*, errW_none, errW_some] <;> rfl), by repeat (first | (with_reducible first | exact HB.out | apply below_alloc | apply pw_below_drewN | apply below_drew1 | refine below_set ?_ GE144.out) | exact HB.out)⟩
 replace c53 := Bool.eq_false_iff.mpr c53; subst c53; have H1 : (if 0 ≤ (wrap64 (a0_1 - 1)) then (if a0_1 < 64 then (if x8_32 < (wrap64 (-(shl .i64 1 (wrap64 (a0_1 - 1))))) then (some (0, 0, 100)) else (if x8_32 ≥ (shl .i64 1 (wrap64 (a0_1 - 1))) then (some (0, 0, 100)) else (some (x8_32, t146, 0)))) else (some (x8_32, t146, 0))) else (none)) = some (r1, r2, r3) := by rw [if_neg (show ¬ (false = true) by decide)] at H; exact H
 clear H; have H := H1; clear H1; obtain ⟨ji54, hji54⟩ : ∃ j_ : Int, (wrap64 (a0_1 - 1)) = j_ := ⟨_, rfl⟩
 replace H : (if 0 ≤ (ji54) then (if a0_1 < 64 then (if x8_32 < (wrap64 (-(shl .i64 1 (ji54)))) then (some (0, 0, 100)) else (if x8_32 ≥ (shl .i64 1 (ji54)) then (some (0, 0, 100)) else (some (x8_32, t146, 0)))) else (some (x8_32, t146, 0))) else (none)) = some (r1, r2, r3) := by first | (rw [hji54] at H; exact H) | (simp only [hji54] at H ⊢; exact H)
 (try rw [hji54] at hji23); (try rw [hji54] at hji23w); (try rw [hji54] at hji23_); (try rw [hji54] at hji23z); have hji54w : (IntKind.i64.wrap (a0_1 - 1)) = ji54 := (i64_w _).trans hji54; by_cases c55 : 0 ≤ (ji54)
 rotate_left
 ·rw [if_neg c55] at H; exact absurd H (by simp)
 rw [if_pos c55] at H; have c55b0 := eq_true c55; have c55b1 : decide (0 ≤ (ji54)) = true := decide_eq_true c55; clear c55; obtain ⟨ji56, hji56⟩ : ∃ j_ : Int, (shl .i64 1 (ji54)) = j_ := ⟨_, rfl⟩
 replace H : (if a0_1 < 64 then (if x8_32 < (wrap64 (-(ji56))) then (some (0, 0, 100)) else (if x8_32 ≥ (ji56) then (some (0, 0, 100)) else (some (x8_32, t146, 0)))) else (some (x8_32, t146, 0))) = some (r1, r2, r3) := by first | (rw [hji56] at H; exact H) | (simp only [hji56] at H ⊢; exact H)
 have hji56_ : (IntKind.i64.wrap (1 * 2 ^ min (ji54).toNat 64)) = ji56 := hji56; have hji56z : (ji54) ≤ 64 → (IntKind.i64.wrap (1 * 2 ^ (ji54).toNat)) = ji56 := shl_small hji56; have hji56u : (IntKind.i64.wrap (2 ^ min (ji54).toNat 64)) = ji56 := by have h_ := hji56_; rw [Int.one_mul] at h_; exact h_
 have hji56v : (ji54) ≤ 64 → (IntKind.i64.wrap (2 ^ (ji54).toNat)) = ji56 := fun hle_ => by have h_ := hji56z hle_; rw [Int.one_mul] at h_; exact h_
 have hji56y : (wrap64 (1 * 2 ^ min (ji54).toNat 64)) = ji56 := (i64_w _).symm.trans hji56_; have hji56x : (ji54) ≤ 64 → (wrap64 (1 * 2 ^ (ji54).toNat)) = ji56 := fun h_ => (i64_w _).symm.trans (hji56z h_)
 by_cases c57 : a0_1 < 64
 rotate_left
 ·rw [if_neg c57] at H; have c57b0 : decide (a0_1 < 64) = false := decide_eq_false c57; clear c57; simp only [Option.some.injEq, Prod.mk.injEq] at H; obtain ⟨rfl, rfl, rfl⟩ := H; have Z63_0 : wc.cell? ⟨gb144, 0, none⟩ = some (.slice (some ad148) l0_0.length c0_0) := bc BK144 0; have Z63_1 : wc.cell? ⟨gb144, 1, none⟩ = some (.int .i64 a0_1) := bc BK144 1; have Y63_0 := blk_frozen BK144.out 0; have Y63_1 := blk_frozen BK144.out 1; go_wp2
  go_ret3
  exact ⟨by first | rfl | (simp [errW_none, errW_some] <;> rfl) | (simp only [← hji4, ← hji54, ← hji56]; first | rfl | (simp [errW_none, errW_some] <;> rfl)) | (simp [*, errW_none, errW_some] <;> rfl), by repeat (first | (with_reducible first | exact HB.out | apply below_alloc | apply pw_below_drewN | apply below_drew1 | refine below_set ?_ GE144.out) | exact HB.out)⟩
 rw [if_pos c57] at H; have c57b0 : decide (a0_1 < 64) = true := decide_eq_true c57; clear c57; by_cases c58 : x8_32 < (wrap64 (-(ji56)))
 ·rw [if_pos c58] at H; have c58b0 : decide (x8_32 < (wrap64 (-(ji56)))) = true := decide_eq_true c58; clear c58; simp only [Option.some.injEq, Prod.mk.injEq] at H; obtain ⟨rfl, rfl, rfl⟩ := H; have Z59_0 : wc.cell? ⟨gb144, 0, none⟩ = some (.slice (some ad148) l0_0.length c0_0) := bc BK144 0; have Z59_1 : wc.cell? ⟨gb144, 1, none⟩ = some (.int .i64 a0_1) := bc BK144 1; have Y59_0 := blk_frozen BK144.out 0; have Y59_1 := blk_frozen BK144.out 1; go_wp2
  go_ret3
  exact ⟨by first | rfl | (simp [errW_none, errW_some] <;> rfl) | (simp only [← hji4, ← hji54, ← hji56]; first | rfl | (simp [errW_none, errW_some] <;> rfl)) | (simp [*, errW_none, errW_some] <;> rfl), by repeat (first | (with_reducible first | exact HB.out | apply below_alloc | apply pw_below_drewN | apply below_drew1 | refine below_set ?_ GE144.out) | exact HB.out)⟩
 rw [if_neg c58] at H; have c58b0 : decide (x8_32 < (wrap64 (-(ji56)))) = false := decide_eq_false c58; clear c58; by_cases c60 : x8_32 ≥ (ji56)
 ·rw [if_pos c60] at H; have c60b0 : decide ((ji56) ≤ x8_32) = true := decide_eq_true c60; clear c60; simp only [Option.some.injEq, Prod.mk.injEq] at H; obtain ⟨rfl, rfl, rfl⟩ := H; have Z61_0 : wc.cell? ⟨gb144, 0, none⟩ = some (.slice (some ad148) l0_0.length c0_0) := bc BK144 0; have Z61_1 : wc.cell? ⟨gb144, 1, none⟩ = some (.int .i64 a0_1) := bc BK144 1; have Y61_0 := blk_frozen BK144.out 0; have Y61_1 := blk_frozen BK144.out 1; go_wp2
  go_ret3
  exact ⟨by first | rfl | (simp [errW_none, errW_some] <;> rfl) | (simp only [← hji4, ← hji54, ← hji56]; first | rfl | (simp [errW_none, errW_some] <;> rfl)) | (simp [*, errW_none, errW_some] <;> rfl), by repeat (first | (with_reducible first | exact HB.out | apply below_alloc | apply pw_below_drewN | apply below_drew1 | refine below_set ?_ GE144.out) | exact HB.out)⟩
 rw [if_neg c60] at H; have c60b0 : decide ((ji56) ≤ x8_32) = false := decide_eq_false c60; clear c60; simp only [Option.some.injEq, Prod.mk.injEq] at H; obtain ⟨rfl, rfl, rfl⟩ := H; have Z62_0 : wc.cell? ⟨gb144, 0, none⟩ = some (.slice (some ad148) l0_0.length c0_0) := bc BK144 0; have Z62_1 : wc.cell? ⟨gb144, 1, none⟩ = some (.int .i64 a0_1) := bc BK144 1; have Y62_0 := blk_frozen BK144.out 0; have Y62_1 := blk_frozen BK144.out 1; go_wp2
 go_ret3
 exact ⟨by first | rfl | (simp [errW_none, errW_some] <;> rfl) | (simp only [← hji4, ← hji54, ← hji56]; first | rfl | (simp [errW_none, errW_some] <;> rfl)) | (simp [*, errW_none, errW_some] <;> rfl), by repeat (first | (with_reducible first | exact HB.out | apply below_alloc | apply pw_below_drewN | apply below_drew1 | refine below_set ?_ GE144.out) | exact HB.out)⟩
def leb_Sint.f (k : Nat) (l0 : List Int) (a1 : Int) : Option (Int × Int × Int) := (leb_place_signed.f k l0 a1).bind fun bt151 => (some (bt151.1, bt151.2.1, bt151.2.2))
theorem leb_Sint.mono : ∀ a0 a1 k, LeO (leb_Sint.f k a0 a1) (leb_Sint.f (k + 1) a0 a1) := by
  intro a0 a1 k
  unfold leb_Sint.f
  repeat' first
      | (with_reducible exact leb_place_signed.mono _ _ _)
      | (with_reducible exact LeO.refl _)
      | (with_reducible exact LeO.none _)
      | (with_reducible refine LeO.ite ?_ ?_)
      | (with_reducible refine LeO.bind ?_ (fun _ => ?_))
      | exact leb_place_signed.mono _ _ _
      | exact LeO.none _
      | refine LeO.ite ?_ ?_
      | refine LeO.bind ?_ (fun _ => ?_)
set_option maxHeartbeats 8000000 in
set_option maxRecDepth 100000 in
theorem leb_Sint.calls (k : Nat) (A0 : Option Addr) (c0 : Nat) (l0 : List Int) (a1 : Int) (r1 : Int) (r2 : Int) (r3 : Int) (w : World) (hr0 : Kd.C (Kd.int .u8) w A0 l0.length l0) (hc0 : l0.length ≤ c0) (h : leb_Sint.f k l0 a1 = some (r1, r2, r3)) :
    Calls Try.prog 65 #[.slice A0 l0.length c0, .int .i64 a1] w fun e w' => e = .returned (.tuple #[.int .i64 r1, .int .i64 r2, .int .i64 r3]) ∧ Below w.heap.size w w' := by
  have hu97 := Try.underlying97
  have HR0 := Aside0.mk hr0
  have HC0 := Aside0.mk hc0
  clear hr0 hc0
  have HB := Aside0.mk (Below.refl w.heap.size w)
  have H : ((leb_place_signed.f k l0 a1).bind fun bt151 => (some (bt151.1, bt151.2.1, bt151.2.2))) = some (r1, r2, r3) := h
  clear h
  replace H := Option.bind_eq_some_iff.mp H
  obtain ⟨⟨t151, t152, t153⟩, A30, H⟩ := H
  replace H : (some (t151, t152, t153)) = some (r1, r2, r3) := H
  have A3 := Aside0.mk A30
  clear A30
  simp only [Option.some.injEq, Prod.mk.injEq] at H
  obtain ⟨rfl, rfl, rfl⟩ := H
  go_enter Try.func65, Try.ntmps65
  go_wp2_with (first | ((with_reducible refine Go.Proofs.YtlahigmoljflkaaO.gate_value (F := .tmp 12) rfl ?_); refine Go.Proofs.YtlahigmoljflkaaO.goesM_ (some 13) rfl rfl Try.func72 (by kernel_rfl) rfl #[.agg #[.slice A0 l0.length c0, .int .i64 a1]] rfl rfl (by (try simp only [List.map_toArray, List.map_cons, List.map_nil]); first | done | rfl | (simp; done) | rfl | (simp only [List.length_drop, List.length_take]; rfl)) ?_; (with_reducible refine (leb_place_signed.calls k _ _ l0 a1 t151 t152 t153 _ ?side1 ?side2 A3.out).mono ?_); (case side1 => repeat (first | exact HR0.out | (with_reducible refine Kd.C_alloc ?_ _) | (with_reducible refine Kd.C_drewN ?_ _) | (with_reducible refine Kd.C_drew ?_))); (case side2 => exact HC0.out); rintro e w4 ⟨rfl, hb⟩; refine ⟨_, rfl, ?_⟩; have n0_ := Aside0.mk (below_step (by repeat (first | (with_reducible first | exact HB.out | apply below_alloc | apply pw_below_drewN | apply below_drew1) | exact HB.out)) hb); clear HB; have HB := n0_; clear n0_; (try clear hb); (try clear hb2); (try clear hk); (try clear hi)))
  go_ret3
  exact ⟨by first | rfl | (simp [errW_none, errW_some] <;> rfl) | (simp [*, errW_none, errW_some] <;> rfl), by repeat (first | (with_reducible first | exact HB.out | apply below_alloc | apply pw_below_drewN | apply below_drew1) | exact HB.out)⟩

end Go.Proofs.Ytlahigmoljflkaa.PAll
