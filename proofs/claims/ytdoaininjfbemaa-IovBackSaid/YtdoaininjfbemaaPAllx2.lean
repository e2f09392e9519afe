/- Printed by a copy of the printer that was turned for this claim: functions as plain Lean functions, with proofs that their calls come to these; or words that such proofs use. -/
import Derived.Test.YtdoaininjfbemaaPAllx0
namespace Go.Proofs.Ytdoaininjfbemaa.PAll
open Go.RowKit Go.Proofs.YtdoaininjfbemaaW.PrintWords Go.Proofs.YtdoaininjfbemaaW.PrintLast Go.Proofs.YtdoaininjfbemaaW.PrintMore
attribute [local go_sem] max2_int min2_int max_two min_two max_three min_three max_four min_four   -- for this text's walks alone
set_option linter.unusedVariables false
set_option linter.unusedSimpArgs false

/-! what is known of the values that come in -/
def okT50 (x : S50) : Prop := (Lit.int .i64 x.f0).wf = true ∧ (Lit.int .i64 x.f1).wf = true
theorem opT50 (W : World) : Go.Proofs.YtdoaininjfbemaaO.Opens Try.prog W 50 k50 okT50 :=
  Go.Proofs.YtdoaininjfbemaaO.opens_iso (Go.Proofs.YtdoaininjfbemaaO.opens_struct Try.underlying50 (by kernel_rfl) (Go.Proofs.YtdoaininjfbemaaO.fields_cons (by kernel_rfl) (by kernel_rfl) (Go.Proofs.YtdoaininjfbemaaO.opens_int Try.underlying3) (Go.Proofs.YtdoaininjfbemaaO.fields_last (by kernel_rfl) (by kernel_rfl) (Go.Proofs.YtdoaininjfbemaaO.opens_int Try.underlying3)))) _ (fun p => ⟨p.1, p.2⟩) (fun _ => rfl)
def okT26 (x : S26) : Prop := (x.f0.length * 1 ≤ 140737488351232 ∧ ∀ y472 ∈ x.f0, (Lit.int .u8 y472).wf = true) ∧ (Lit.int .i64 x.f1).wf = true ∧ (Lit.int .i64 x.f2).wf = true ∧ (x.f3.length * 16 ≤ 140737488351232 ∧ ∀ y473 ∈ x.f3, okT50 y473) ∧ (x.f4.length * 1 ≤ 140737488351232 ∧ ∀ y474 ∈ x.f4, (Lit.int .u8 y474).wf = true)
theorem opT26 (W : World) : Go.Proofs.YtdoaininjfbemaaO.Opens Try.prog W 26 k26 okT26 :=
  Go.Proofs.YtdoaininjfbemaaO.opens_iso (Go.Proofs.YtdoaininjfbemaaO.opens_struct Try.underlying26 (by kernel_rfl) (Go.Proofs.YtdoaininjfbemaaO.fields_cons (by kernel_rfl) (by kernel_rfl) (Go.Proofs.YtdoaininjfbemaaO.opens_slice (B := 1) Try.underlying23 (by kernel_rfl) (by kernel_rfl) (Go.Proofs.YtdoaininjfbemaaO.opens_int Try.underlying5)) (Go.Proofs.YtdoaininjfbemaaO.fields_cons (by kernel_rfl) (by kernel_rfl) (Go.Proofs.YtdoaininjfbemaaO.opens_int Try.underlying3) (Go.Proofs.YtdoaininjfbemaaO.fields_cons (by kernel_rfl) (by kernel_rfl) (Go.Proofs.YtdoaininjfbemaaO.opens_int Try.underlying3) (Go.Proofs.YtdoaininjfbemaaO.fields_cons (by kernel_rfl) (by kernel_rfl) (Go.Proofs.YtdoaininjfbemaaO.opens_slice (B := 16) Try.underlying24 (by kernel_rfl) (by kernel_rfl) (opT50 W)) (Go.Proofs.YtdoaininjfbemaaO.fields_last (by kernel_rfl) (by kernel_rfl) (Go.Proofs.YtdoaininjfbemaaO.opens_slice (B := 1) Try.underlying23 (by kernel_rfl) (by kernel_rfl) (Go.Proofs.YtdoaininjfbemaaO.opens_int Try.underlying5)))))))) _ (fun p => ⟨p.1, p.2.1, p.2.2.1, p.2.2.2.1, p.2.2.2.2⟩) (fun _ => rfl)

/-! ### gangwaylaw19_heavy: function 5 -/
abbrev gangwaylaw19_heavy.t : Bool := true
abbrev gangwaylaw19_heavy.f_ : Bool := false
theorem gangwaylaw19_heavy.bc {w : World} {g : Nat} {cs : Array Value} {t : TypeId} (h : Aside0 (w.heap[g]? = some (.cells cs t (0, 0)))) (i : Nat) {v : Value} (e : cs[i]? = some v := by rfl) : w.cell? ⟨g, i, none⟩ = some v := (blk_cell h.out i).trans e
theorem gangwaylaw19_heavy.bkept {W0 W W2 : World} {g : Nat} {o : Obj} {S : Nat → Prop} (_b : Aside0 (W0.heap[g]? = some o)) (h : W.heap[g]? = some o) (hk : Kept W W2 S) (hn : ¬ S g) : W2.heap[g]? = some o := blk_kept h hk hn
theorem gangwaylaw19_heavy.bbelow {W0 w w1 : World} {g : Nat} {o : Obj} (_b : Aside0 (W0.heap[g]? = some o)) (h : w.heap[g]? = some o) (hb : Below w.heap.size w w1) : w1.heap[g]? = some o := blk_below h hb
theorem gangwaylaw19_heavy.e1 {α : Type _} (xs : List α) (i : Nat) (a : α) : xs.toArray.setIfInBounds i a = (xs.set i a).toArray := by simp
theorem gangwaylaw19_heavy.e2 {α : Type _} (x a : α) (xs : List α) : (x :: xs).set 0 a = a :: xs := rfl
theorem gangwaylaw19_heavy.e3 {α : Type _} (x a : α) (xs : List α) (n : Nat) : (x :: xs).set (n + 1) a = x :: xs.set n a := rfl
theorem gangwaylaw19_heavy.up {w w' : World} {a : Addr} {v : Value} (hb : Aside0 (Below w.heap.size w w')) (h : w.cell? a = some v) : w'.cell? a = some v := (hb.out.cell (World.block_lt_of_cell? w _ h)).trans h
mutual
def gangwaylaw19_heavy.l0 : Nat → Int → Int → List Int → Int → Int → List (S50) → List Int → Option (Bool)
 | 0, _, _, _, _, _, _, _ => none
 | k + 1, x3, x4, x0z, x1z, x2z, x3z, x4z => if x4 < (x3z.length : Int) then (gangwaylaw19_heavy.j1 k x3 x4 (decide (x4 < 200)) x0z x1z x2z x3z x4z) else (gangwaylaw19_heavy.j1 k x3 x4 false x0z x1z x2z x3z x4z)
def gangwaylaw19_heavy.j1 : Nat → Int → Int → Bool → List Int → Int → Int → List (S50) → List Int → Option (Bool)
 | 0, _, _, _, _, _, _, _, _ => none
 | k + 1, x3, x4, x25, x0z, x1z, x2z, x3z, x4z => if x25 = true then (if 0 ≤ x4 then (if x4 < (x3z.length : Int) then (if ((rd_T50 x3z x4).f1) > 20000 then (if ((rd_T50 x3z x4).f1) ≤ 65536 then (some true) else (gangwaylaw19_heavy.l0 k x3 (wrap64 (x4 + 1)) x0z x1z x2z x3z x4z)) else (gangwaylaw19_heavy.l0 k x3 (wrap64 (x4 + 1)) x0z x1z x2z x3z x4z)) else (none)) else (none)) else (some (decide (x3 > 5000)))
end
def gangwaylaw19_heavy.f (k : Nat) (l0_0 : List Int) (a0_1 : Int) (a0_2 : Int) (l0_3 : List (S50)) (l0_4 : List Int) : Option (Bool) := gangwaylaw19_heavy.l0 k (wrap64 ((wrap64 ((l0_0.length : Int) + (l0_4.length : Int))) + (wrap64 (10 * (l0_3.length : Int))))) 0 l0_0 a0_1 a0_2 l0_3 l0_4
theorem gangwaylaw19_heavy.mono_l : ∀ k, (∀ y0 y1 y2 y3 y4 y5 y6, LeO (gangwaylaw19_heavy.l0 k y0 y1 y2 y3 y4 y5 y6) (gangwaylaw19_heavy.l0 (k + 1) y0 y1 y2 y3 y4 y5 y6)) ∧ (∀ y0 y1 y2 y3 y4 y5 y6 y7, LeO (gangwaylaw19_heavy.j1 k y0 y1 y2 y3 y4 y5 y6 y7) (gangwaylaw19_heavy.j1 (k + 1) y0 y1 y2 y3 y4 y5 y6 y7))
 | 0 => ⟨fun _ _ _ _ _ _ _ r h => by simp [gangwaylaw19_heavy.l0] at h, fun _ _ _ _ _ _ _ _ r h => by simp [gangwaylaw19_heavy.j1] at h⟩
 | k + 1 => by
  obtain ⟨ih0, ih1⟩ := gangwaylaw19_heavy.mono_l k
  refine ⟨?_, ?_⟩
  ·intro y0 y1 y2 y3 y4 y5 y6
   unfold gangwaylaw19_heavy.l0
   repeat' first
   | (with_reducible apply ih0)
   | (with_reducible apply ih1)
   | (with_reducible exact LeO.refl _)
   | (with_reducible exact LeO.none _)
   | (with_reducible refine LeO.ite ?_ ?_)
   | (with_reducible refine LeO.bind ?_ (fun _ => ?_))
   | apply ih0
   | apply ih1
   | exact LeO.none _
   | refine LeO.ite ?_ ?_
   | refine LeO.bind ?_ (fun _ => ?_)
  ·intro y0 y1 y2 y3 y4 y5 y6 y7
   unfold gangwaylaw19_heavy.j1
   repeat' first
   | (with_reducible apply ih0)
   | (with_reducible apply ih1)
   | (with_reducible exact LeO.refl _)
   | (with_reducible exact LeO.none _)
   | (with_reducible refine LeO.ite ?_ ?_)
   | (with_reducible refine LeO.bind ?_ (fun _ => ?_))
   | apply ih0
   | apply ih1
   | exact LeO.none _
   | refine LeO.ite ?_ ?_
   | refine LeO.bind ?_ (fun _ => ?_)
theorem gangwaylaw19_heavy.mono : ∀ a0 a1 a2 a3 a4 k, LeO (gangwaylaw19_heavy.f k a0 a1 a2 a3 a4) (gangwaylaw19_heavy.f (k + 1) a0 a1 a2 a3 a4) := by
 intro a0 a1 a2 a3 a4 k
 obtain ⟨ih0, ih1⟩ := gangwaylaw19_heavy.mono_l k
 unfold gangwaylaw19_heavy.f
 repeat' first
   | (with_reducible apply ih0)
   | (with_reducible apply ih1)
   | (with_reducible exact LeO.refl _)
   | (with_reducible exact LeO.none _)
   | (with_reducible refine LeO.ite ?_ ?_)
   | (with_reducible refine LeO.bind ?_ (fun _ => ?_))
   | apply ih0
   | apply ih1
   | exact LeO.none _
   | refine LeO.ite ?_ ?_
   | refine LeO.bind ?_ (fun _ => ?_)
theorem gangwaylaw19_heavy.aa_0 {p : Prop} (h : p := by first | (with_reducible assumption) | assumption) : p := h
theorem gangwaylaw19_heavy.aa_1 {p : Prop} (h : p := by repeat (first | (with_reducible first | exact HB.out | apply below_alloc | apply pw_below_drewN | apply below_drew1 | refine below_set ?_ GE101.out) | exact HB.out)) : p := h
theorem gangwaylaw19_heavy.aa_2 {p : Prop} (h : p := by (with_reducible repeat (first | refine blk_drewN ?_ _ | refine blk_drew ?_ | refine blk_alloc ?_ _)); exact BK101.out) : p := h
theorem gangwaylaw19_heavy.am_ {p : Prop} (h : p) : Aside0 p := Aside0.mk h
theorem gangwaylaw19_heavy.bm_ {α β : Type _} {o : Option α} {f : α → Option β} {b : β} (h : o.bind f = some b) : ∃ a, o = some a ∧ f a = some b := Option.bind_eq_some_iff.mp h
set_option maxHeartbeats 8000000 in
set_option maxRecDepth 100000 in
theorem gangwaylaw19_heavy.calls (k : Nat) (A0_0 : Option Addr) (c0_0 : Nat) (l0_0 : List Int) (a0_1 : Int) (a0_2 : Int) (A0_3 : Option Addr) (c0_3 : Nat) (l0_3 : List (S50)) (A0_4 : Option Addr) (c0_4 : Nat) (l0_4 : List Int) (r : Bool) (w : World) (hr0_0 : Kd.C (Kd.int .u8) w A0_0 l0_0.length l0_0) (hc0_0 : l0_0.length ≤ c0_0) (hr0_3 : Kd.C k50 w A0_3 l0_3.length l0_3) (hc0_3 : l0_3.length ≤ c0_3) (hr0_4 : Kd.C (Kd.int .u8) w A0_4 l0_4.length l0_4) (hc0_4 : l0_4.length ≤ c0_4) (h : gangwaylaw19_heavy.f k l0_0 a0_1 a0_2 l0_3 l0_4 = some r) :
  Calls Try.prog 5 #[.agg #[.slice A0_0 l0_0.length c0_0, .int .i64 a0_1, .int .i64 a0_2, .slice A0_3 l0_3.length c0_3, .slice A0_4 l0_4.length c0_4]] w fun e w' => e = .returned (.bool r) ∧ Below w.heap.size w w' := by
 have hu26 := Try.underlying26
 have HR0_0 := am_ hr0_0
 have HC0_0 := am_ hc0_0
 clear hr0_0 hc0_0
 have HR0_3 := am_ hr0_3
 have HC0_3 := am_ hc0_3
 clear hr0_3 hc0_3
 have HR0_4 := am_ hr0_4
 have HC0_4 := am_ hc0_4
 clear hr0_4 hc0_4
 have HB := am_ (Below.refl w.heap.size w)
 have H : (gangwaylaw19_heavy.l0 k (wrap64 ((wrap64 ((l0_0.length : Int) + (l0_4.length : Int))) + (wrap64 (10 * (l0_3.length : Int))))) 0 l0_0 a0_1 a0_2 l0_3 l0_4) = some r := h
 clear h
 have H' := am_ H
 clear H
 go_enter Try.func5, Try.ntmps5
 go_wp2_with (first | ((with_reducible refine gate_dst (N := 1) rfl ?_); refine box_event ?hg (N := 1) ?hd (cs := #[.slice A0_0 l0_0.length c0_0, .int .i64 a0_1, .int .i64 a0_2, .slice A0_3 l0_3.length c0_3, .slice A0_4 l0_4.length c0_4]) (t := 26) ?hr ?_; (case hd => rfl); (case hg => rfl); (case hr => first | (go_simp; done) | (go_simp; rfl)); intro gb101 hg w2 hbox hb; have n0_ := am_ (below_step (by repeat (first | (with_reducible first | exact HB.out | apply below_alloc | apply pw_below_drewN | apply below_drew1) | exact HB.out)) hb); have n1_ := am_ (hbox); have n2_ := am_ ((by rw [hg]; exact (below_size (by repeat (first | (with_reducible first | exact HB.out | apply below_alloc | apply pw_below_drewN | apply below_drew1) | exact HB.out))) : w.heap.size ≤ gb101)); have n3_ := am_ ((by rw [hg]; exact (below_size (by repeat (first | (with_reducible first | exact HB.out | apply below_alloc | apply pw_below_drewN | apply below_drew1) | exact HB.out))) : w.heap.size ≤ gb101)); clear HB; have HB := n0_; have BK101 := n1_; have GW101 := n2_; have GE101 := n3_; clear n0_ n1_ n2_ n3_; clear hb hbox hg; have hcz3_0 : w2.cell? ⟨gb101, 0, none⟩ = some (.slice A0_0 l0_0.length c0_0) := (bc BK101 0); have hcz3_1 : w2.cell? ⟨gb101, 1, none⟩ = some (.int .i64 a0_1) := (bc BK101 1); have hcz3_2 : w2.cell? ⟨gb101, 2, none⟩ = some (.int .i64 a0_2) := (bc BK101 2); have hcz3_3 : w2.cell? ⟨gb101, 3, none⟩ = some (.slice A0_3 l0_3.length c0_3) := (bc BK101 3); have hcz3_4 : w2.cell? ⟨gb101, 4, none⟩ = some (.slice A0_4 l0_4.length c0_4) := (bc BK101 4); have hfz3_0 := blk_frozen BK101.out 0; have hfz3_1 := blk_frozen BK101.out 1; have hfz3_2 := blk_frozen BK101.out 2; have hfz3_3 := blk_frozen BK101.out 3; have hfz3_4 := blk_frozen BK101.out 4))
 go_loopg [4] k (fun kq v4 w' => ∃ (x4_1 : Int), v4 = .int .i64 x4_1 ∧ Aside0 (gangwaylaw19_heavy.l0 kq (wrap64 ((wrap64 ((l0_0.length : Int) + (l0_4.length : Int))) + (wrap64 (10 * (l0_3.length : Int))))) x4_1 l0_0 a0_1 a0_2 l0_3 l0_4 = some r) ∧ Aside0 (kq ≤ k) ∧ Aside0 (w'.heap[gb101]? = some (.cells #[(.slice A0_0 l0_0.length c0_0), .int .i64 a0_1, .int .i64 a0_2, (.slice A0_3 l0_3.length c0_3), (.slice A0_4 l0_4.length c0_4)] 26 (0, 0))) ∧ Aside0 (Below w.heap.size w w'))
 case atStart => exact ⟨(0), (by first | rfl | (simp; done) | (simp [*]; done)), H', ⟨Nat.le_refl _⟩, ⟨aa_2⟩, ⟨aa_1⟩⟩
 case round =>
  clear H'
  try clear p2
  try clear hcz3_0
  try clear hcz3_1
  try clear hcz3_2
  try clear hcz3_3
  try clear hcz3_4
  try clear hfz3_0
  try clear hfz3_1
  try clear hfz3_2
  try clear hfz3_3
  try clear hfz3_4
  obtain ⟨x4_1, rfl, HA, HK1, BK101, HB⟩ := hrel
  cases gk with
  | zero => exact absurd HA.out (by simp [gangwaylaw19_heavy.l0])
  | succ k1 =>
   have H := HA.out
   clear HA
   simp only [gangwaylaw19_heavy.l0] at H
   have HC4 := am_ H
   clear H
   go_upto_region 3 with (fail)
   go_cut [25] (fun v25 wc => ∃ (kq : Nat) (x25_3 : Bool), v25 = .bool x25_3 ∧ Aside0 (j1 kq (wrap64 ((wrap64 ((l0_0.length : Int) + (l0_4.length : Int))) + (wrap64 (10 * (l0_3.length : Int))))) x4_1 x25_3 l0_0 a0_1 a0_2 l0_3 l0_4 = some r) ∧ Aside0 (kq ≤ k1) ∧ Aside0 (wc.heap[gb101]? = some (.cells #[(.slice A0_0 l0_0.length c0_0), .int .i64 a0_1, .int .i64 a0_2, (.slice A0_3 l0_3.length c0_3), (.slice A0_4 l0_4.length c0_4)] 26 (0, 0))) ∧ Aside0 (Below w.heap.size w wc))
   case first =>
    have H := HC4.out
    clear HC4
    by_cases c5 : x4_1 < (l0_3.length : Int)
    ·rw [if_pos c5] at H
     have c5b0 : decide (x4_1 < (l0_3.length : Int)) = true := decide_eq_true c5
     clear c5
     (first | rw [c5b0] | (simp only [i64_w, i32_w]; rw [c5b0]) | skip)
     have H' := am_ H
     clear H
     have hcz6_0 : wr.cell? ⟨gb101, 0, none⟩ = some (.slice A0_0 l0_0.length c0_0) := bc BK101 0
     have hcz6_1 : wr.cell? ⟨gb101, 1, none⟩ = some (.int .i64 a0_1) := bc BK101 1
     have hcz6_2 : wr.cell? ⟨gb101, 2, none⟩ = some (.int .i64 a0_2) := bc BK101 2
     have hcz6_3 : wr.cell? ⟨gb101, 3, none⟩ = some (.slice A0_3 l0_3.length c0_3) := bc BK101 3
     have hcz6_4 : wr.cell? ⟨gb101, 4, none⟩ = some (.slice A0_4 l0_4.length c0_4) := bc BK101 4
     have hfz6_0 := blk_frozen BK101.out 0
     have hfz6_1 := blk_frozen BK101.out 1
     have hfz6_2 := blk_frozen BK101.out 2
     have hfz6_3 := blk_frozen BK101.out 3
     have hfz6_4 := blk_frozen BK101.out 4
     go_wp2
     go_meet
     case rel => exact ⟨_, (decide (x4_1 < 200)), (by first | rfl | (simp; done) | (simp [*]; done)), H', ⟨by have := HK1.out; first | omega | exact Nat.le_refl _⟩, ⟨aa_2⟩, ⟨aa_1⟩⟩
    ·rw [if_neg c5] at H
     have c5b0 : decide (x4_1 < (l0_3.length : Int)) = false := decide_eq_false c5
     clear c5
     (first | rw [c5b0] | (simp only [i64_w, i32_w]; rw [c5b0]) | skip)
     have H' := am_ H
     clear H
     have hcz7_0 : wr.cell? ⟨gb101, 0, none⟩ = some (.slice A0_0 l0_0.length c0_0) := bc BK101 0
     have hcz7_1 : wr.cell? ⟨gb101, 1, none⟩ = some (.int .i64 a0_1) := bc BK101 1
     have hcz7_2 : wr.cell? ⟨gb101, 2, none⟩ = some (.int .i64 a0_2) := bc BK101 2
     have hcz7_3 : wr.cell? ⟨gb101, 3, none⟩ = some (.slice A0_3 l0_3.length c0_3) := bc BK101 3
     have hcz7_4 : wr.cell? ⟨gb101, 4, none⟩ = some (.slice A0_4 l0_4.length c0_4) := bc BK101 4
     have hfz7_0 := blk_frozen BK101.out 0
     have hfz7_1 := blk_frozen BK101.out 1
     have hfz7_2 := blk_frozen BK101.out 2
     have hfz7_3 := blk_frozen BK101.out 3
     have hfz7_4 := blk_frozen BK101.out 4
     go_wp2
     go_meet
     case rel => exact ⟨_, (false), (by first | rfl | (simp; done) | (simp [*]; done)), H', ⟨by have := HK1.out; first | omega | exact Nat.le_refl _⟩, ⟨aa_2⟩, ⟨aa_1⟩⟩
   case rest =>
    clear HC4
    try clear p2
    try clear c5
    try clear c5b0
    try clear p6
    try clear hcz3_0
    try clear hcz3_1
    try clear hcz3_2
    try clear hcz3_3
    try clear hcz3_4
    try clear hcz6_0
    try clear hcz6_1
    try clear hcz6_2
    try clear hcz6_3
    try clear hcz6_4
    try clear hcz7_0
    try clear hcz7_1
    try clear hcz7_2
    try clear hcz7_3
    try clear hcz7_4
    try clear hfz3_0
    try clear hfz3_1
    try clear hfz3_2
    try clear hfz3_3
    try clear hfz3_4
    try clear hfz6_0
    try clear hfz6_1
    try clear hfz6_2
    try clear hfz6_3
    try clear hfz6_4
    try clear hfz7_0
    try clear hfz7_1
    try clear hfz7_2
    try clear hfz7_3
    try clear hfz7_4
    try clear p2
    obtain ⟨kq, x25_3, rfl, HA, HJ3, BK101, HB⟩ := hcut
    cases kq with
    | zero => exact absurd HA.out (by simp [j1])
    | succ kj3 =>
     have H := HA.out
     clear HA
     simp only [j1] at H
     by_cases c8 : x25_3 = true
     ·subst c8
      have H1 : (if 0 ≤ x4_1 then (if x4_1 < (l0_3.length : Int) then (if ((rd_T50 l0_3 x4_1).f1) > 20000 then (if ((rd_T50 l0_3 x4_1).f1) ≤ 65536 then (some true) else (gangwaylaw19_heavy.l0 kj3 (wrap64 ((wrap64 ((l0_0.length : Int) + (l0_4.length : Int))) + (wrap64 (10 * (l0_3.length : Int))))) (wrap64 (x4_1 + 1)) l0_0 a0_1 a0_2 l0_3 l0_4)) else (gangwaylaw19_heavy.l0 kj3 (wrap64 ((wrap64 ((l0_0.length : Int) + (l0_4.length : Int))) + (wrap64 (10 * (l0_3.length : Int))))) (wrap64 (x4_1 + 1)) l0_0 a0_1 a0_2 l0_3 l0_4)) else (none)) else (none)) = some r := by rw [if_pos rfl] at H; exact H
      clear H
      have H := H1
      clear H1
      by_cases c9 : 0 ≤ x4_1
      ·rw [if_pos c9] at H
       have c9b0 : decide (0 ≤ x4_1) = true := decide_eq_true c9
       clear c9
       by_cases c10 : x4_1 < (l0_3.length : Int)
       ·rw [if_pos c10] at H
        have c10b0 : decide (x4_1 < (l0_3.length : Int)) = true := decide_eq_true c10
        clear c10
        by_cases c11 : ((rd_T50 l0_3 x4_1).f1) > 20000
        ·rw [if_pos c11] at H
         have c11b0 : decide (20000 < ((rd_T50 l0_3 x4_1).f1)) = true := decide_eq_true c11
         clear c11
         by_cases c12 : ((rd_T50 l0_3 x4_1).f1) ≤ 65536
         ·rw [if_pos c12] at H
          have c12b0 : decide (((rd_T50 l0_3 x4_1).f1) ≤ 65536) = true := decide_eq_true c12
          clear c12
          obtain rfl := Option.some.inj H
          have hcz13_0 : wc.cell? ⟨gb101, 0, none⟩ = some (.slice A0_0 l0_0.length c0_0) := bc BK101 0
          have hcz13_1 : wc.cell? ⟨gb101, 1, none⟩ = some (.int .i64 a0_1) := bc BK101 1
          have hcz13_2 : wc.cell? ⟨gb101, 2, none⟩ = some (.int .i64 a0_2) := bc BK101 2
          have hcz13_3 : wc.cell? ⟨gb101, 3, none⟩ = some (.slice A0_3 l0_3.length c0_3) := bc BK101 3
          have hcz13_4 : wc.cell? ⟨gb101, 4, none⟩ = some (.slice A0_4 l0_4.length c0_4) := bc BK101 4
          have hfz13_0 := blk_frozen BK101.out 0
          have hfz13_1 := blk_frozen BK101.out 1
          have hfz13_2 := blk_frozen BK101.out 2
          have hfz13_3 := blk_frozen BK101.out 3
          have hfz13_4 := blk_frozen BK101.out 4
          have p102 : 0 ≤ (x4_1 : Int) := of_decide_eq_true aa_0
          have q102 : x4_1 < (l0_3.length : Int) := of_decide_eq_true aa_0
          obtain ⟨ad102, e102, hx102_0, hx102_1⟩ := at_T50 HR0_3.out x4_1 p102 q102
          cases e102
          replace hx102_0 := up HB hx102_0
          replace hx102_1 := up HB hx102_1
          replace p102 := eq_true p102
          replace q102 := eq_true q102
          have p103 : 0 ≤ (x4_1 : Int) := of_decide_eq_true aa_0
          have q103 : x4_1 < (l0_3.length : Int) := of_decide_eq_true aa_0
          obtain ⟨ad103, e103, hx103_0, hx103_1⟩ := at_T50 HR0_3.out x4_1 p103 q103
          obtain rfl : ad102 = ad103 := (by injection e103)
          replace hx103_0 := up HB hx103_0
          replace hx103_1 := up HB hx103_1
          replace p103 := eq_true p103
          replace q103 := eq_true q103
          go_wp2
          go_ret
          exact ⟨by first | rfl | (simp [errW_none, errW_some] <;> rfl) | (simp [*, errW_none, errW_some] <;> rfl), by repeat (first | (with_reducible first | exact HB.out | apply below_alloc | apply pw_below_drewN | apply below_drew1 | refine below_set ?_ GE101.out) | exact HB.out)⟩
         ·rw [if_neg c12] at H
          have c12b0 : decide (((rd_T50 l0_3 x4_1).f1) ≤ 65536) = false := decide_eq_false c12
          clear c12
          have H' := am_ H
          clear H
          have hcz14_0 : wc.cell? ⟨gb101, 0, none⟩ = some (.slice A0_0 l0_0.length c0_0) := bc BK101 0
          have hcz14_1 : wc.cell? ⟨gb101, 1, none⟩ = some (.int .i64 a0_1) := bc BK101 1
          have hcz14_2 : wc.cell? ⟨gb101, 2, none⟩ = some (.int .i64 a0_2) := bc BK101 2
          have hcz14_3 : wc.cell? ⟨gb101, 3, none⟩ = some (.slice A0_3 l0_3.length c0_3) := bc BK101 3
          have hcz14_4 : wc.cell? ⟨gb101, 4, none⟩ = some (.slice A0_4 l0_4.length c0_4) := bc BK101 4
          have hfz14_0 := blk_frozen BK101.out 0
          have hfz14_1 := blk_frozen BK101.out 1
          have hfz14_2 := blk_frozen BK101.out 2
          have hfz14_3 := blk_frozen BK101.out 3
          have hfz14_4 := blk_frozen BK101.out 4
          have p102 : 0 ≤ (x4_1 : Int) := of_decide_eq_true aa_0
          have q102 : x4_1 < (l0_3.length : Int) := of_decide_eq_true aa_0
          obtain ⟨ad102, e102, hx102_0, hx102_1⟩ := at_T50 HR0_3.out x4_1 p102 q102
          cases e102
          replace hx102_0 := up HB hx102_0
          replace hx102_1 := up HB hx102_1
          replace p102 := eq_true p102
          replace q102 := eq_true q102
          have p103 : 0 ≤ (x4_1 : Int) := of_decide_eq_true aa_0
          have q103 : x4_1 < (l0_3.length : Int) := of_decide_eq_true aa_0
          obtain ⟨ad103, e103, hx103_0, hx103_1⟩ := at_T50 HR0_3.out x4_1 p103 q103
          obtain rfl : ad102 = ad103 := (by injection e103)
          replace hx103_0 := up HB hx103_0
          replace hx103_1 := up HB hx103_1
          replace p103 := eq_true p103
          replace q103 := eq_true q103
          go_wp2
          go_roundg kj3
          case measure => have := HK1.out; have := HJ3.out; omega
          case rel => exact ⟨(wrap64 (x4_1 + 1)), (by first | rfl | (simp; done) | (simp [*]; done)), H', ⟨by have := HK1.out; have := HJ3.out; omega⟩, ⟨aa_2⟩, ⟨aa_1⟩⟩
        ·rw [if_neg c11] at H
         have c11b0 : decide (20000 < ((rd_T50 l0_3 x4_1).f1)) = false := decide_eq_false c11
         clear c11
         have H' := am_ H
         clear H
         have hcz15_0 : wc.cell? ⟨gb101, 0, none⟩ = some (.slice A0_0 l0_0.length c0_0) := bc BK101 0
         have hcz15_1 : wc.cell? ⟨gb101, 1, none⟩ = some (.int .i64 a0_1) := bc BK101 1
         have hcz15_2 : wc.cell? ⟨gb101, 2, none⟩ = some (.int .i64 a0_2) := bc BK101 2
         have hcz15_3 : wc.cell? ⟨gb101, 3, none⟩ = some (.slice A0_3 l0_3.length c0_3) := bc BK101 3
         have hcz15_4 : wc.cell? ⟨gb101, 4, none⟩ = some (.slice A0_4 l0_4.length c0_4) := bc BK101 4
         have hfz15_0 := blk_frozen BK101.out 0
         have hfz15_1 := blk_frozen BK101.out 1
         have hfz15_2 := blk_frozen BK101.out 2
         have hfz15_3 := blk_frozen BK101.out 3
         have hfz15_4 := blk_frozen BK101.out 4
         have p102 : 0 ≤ (x4_1 : Int) := of_decide_eq_true aa_0
         have q102 : x4_1 < (l0_3.length : Int) := of_decide_eq_true aa_0
         obtain ⟨ad102, e102, hx102_0, hx102_1⟩ := at_T50 HR0_3.out x4_1 p102 q102
         cases e102
         replace hx102_0 := up HB hx102_0
         replace hx102_1 := up HB hx102_1
         replace p102 := eq_true p102
         replace q102 := eq_true q102
         go_wp2
         go_roundg kj3
         case measure => have := HK1.out; have := HJ3.out; omega
         case rel => exact ⟨(wrap64 (x4_1 + 1)), (by first | rfl | (simp; done) | (simp [*]; done)), H', ⟨by have := HK1.out; have := HJ3.out; omega⟩, ⟨aa_2⟩, ⟨aa_1⟩⟩
       ·rw [if_neg c10] at H
        exact absurd H (by simp)
      ·rw [if_neg c9] at H
       exact absurd H (by simp)
     ·replace c8 := Bool.eq_false_iff.mpr c8
      subst c8
      have H1 : (some (decide ((wrap64 ((wrap64 ((l0_0.length : Int) + (l0_4.length : Int))) + (wrap64 (10 * (l0_3.length : Int))))) > 5000))) = some r := by rw [if_neg (show ¬ (false = true) by decide)] at H; exact H
      clear H
      have H := H1
      clear H1
      obtain rfl := Option.some.inj H
      go_wp2
      go_ret
      exact ⟨by first | rfl | (simp [errW_none, errW_some] <;> rfl) | (simp [*, errW_none, errW_some] <;> rfl), by repeat (first | (with_reducible first | exact HB.out | apply below_alloc | apply pw_below_drewN | apply below_drew1 | refine below_set ?_ GE101.out) | exact HB.out)⟩

/-! ### gangwaylaw19_num: function 9 -/
def gangwaylaw19_num.f (a0 : Int) : Option (Int) := some a0
set_option maxHeartbeats 8000000 in
set_option maxRecDepth 100000 in
theorem gangwaylaw19_num.calls (a0 : Int) (r : Int) (w : World) (h : gangwaylaw19_num.f a0 = some r) :
    Calls Try.prog 9 #[.int .i64 a0] w fun e w' => e = .returned (.int .i64 r) ∧ Drawn0 w w' := by
  have H : (some a0) = some r := h
  clear h
  obtain rfl := Option.some.inj H
  go_enter Try.func9, Try.ntmps9
  go_wp2
  go_ret
  exact ⟨by first | rfl | (simp; done) | (simp [*]; done), by repeat (first | exact Drawn0.refl _ | apply Drawn0.step)⟩

/-- A state of type 72 at block g of W; what its slices lead to came in by w0. -/
abbrev mem_New.t : Bool := true
abbrev mem_New.f_ : Bool := false
theorem mem_New.bc {w : World} {g : Nat} {cs : Array Value} {t : TypeId} (h : Aside0 (w.heap[g]? = some (.cells cs t (0, 0)))) (i : Nat) {v : Value} (e : cs[i]? = some v := by rfl) : w.cell? ⟨g, i, none⟩ = some v := (blk_cell h.out i).trans e
theorem mem_New.bkept {W0 W W2 : World} {g : Nat} {o : Obj} {S : Nat → Prop} (_b : Aside0 (W0.heap[g]? = some o)) (h : W.heap[g]? = some o) (hk : Kept W W2 S) (hn : ¬ S g) : W2.heap[g]? = some o := blk_kept h hk hn
theorem mem_New.bbelow {W0 w w1 : World} {g : Nat} {o : Obj} (_b : Aside0 (W0.heap[g]? = some o)) (h : w.heap[g]? = some o) (hb : Below w.heap.size w w1) : w1.heap[g]? = some o := blk_below h hb
theorem mem_New.e1 {α : Type _} (xs : List α) (i : Nat) (a : α) : xs.toArray.setIfInBounds i a = (xs.set i a).toArray := by simp
theorem mem_New.e2 {α : Type _} (x a : α) (xs : List α) : (x :: xs).set 0 a = a :: xs := rfl
theorem mem_New.e3 {α : Type _} (x a : α) (xs : List α) (n : Nat) : (x :: xs).set (n + 1) a = x :: xs.set n a := rfl
def IsS72 (w0 W : World) (g : Nat) (f0 : Value) (f1 : Int) : Prop := W.heap[g]? = some (.cells #[f0, .int .i64 f1] 72 (0, 0)) ∧ w0.heap.size ≤ g
theorem IsS72.grown {w0 W : World} {g : Nat} {f0 : Value} {f1 : Int} {W1 : World} {row : Option Nat} (h : IsS72 w0 W g f0 f1) (hw : W.grownBy W1 row) (hne : some g ≠ row) : IsS72 w0 W1 g f0 f1 := by
 obtain ⟨hb, hg⟩ := h
 exact ⟨blk_grown hb hw hne, hg⟩
theorem IsS72.own_neN {w0 W : World} {g : Nat} {f0 : Value} {f1 : Int} {α : Type} {d : Kd α} {e : Nat} {base : Nat} {ok : Nat → Prop} {v : Value} {xs : List α} (h : IsS72 w0 W g f0 f1) (ho : Kd.N d e W base ok v xs) (ht : e ≠ 72) : some g ≠ v.ownBlock := by
 obtain ⟨hb, hg⟩ := h
 exact Kd.N_ne ho hb ht
theorem IsS72.fresh {w0 W : World} {g : Nat} {f0 : Value} {f1 : Int} (h : IsS72 w0 W g f0 f1) : ∀ k, W.heap.size ≤ k → k ≠ g := by
 obtain ⟨hb, hg⟩ := h
 exact Kd.freshB hb
theorem IsS72.kept {w0 W : World} {g : Nat} {f0 : Value} {f1 : Int} {W1 : World} {S : Nat → Prop} (h : IsS72 w0 W g f0 f1) (hk : Kept W W1 S) (hne : ¬ S g) : IsS72 w0 W1 g f0 f1 := by
 obtain ⟨hb, hg⟩ := h
 exact ⟨blk_kept hb hk hne, hg⟩
theorem IsS72.keepb {w0 W : World} {g : Nat} {f0 : Value} {f1 : Int} {W1 : World} {g2 : Nat} (h : IsS72 w0 W g f0 f1) (hk : KeepBut W W1 g2 none) (hne : g ≠ g2) : IsS72 w0 W1 g f0 f1 := by
 obtain ⟨hb, hg⟩ := h
 exact ⟨KeepBut.blk hk hb hne (by simp), hg⟩
theorem IsS72.below {w0 W : World} {g : Nat} {f0 : Value} {f1 : Int} {W1 : World} (h : IsS72 w0 W g f0 f1) (hw : Below W.heap.size W W1) : IsS72 w0 W1 g f0 f1 := h.grown (grown_of_below hw none) (by simp)
theorem IsS72.alloc {w0 W : World} {g : Nat} {f0 : Value} {f1 : Int} (h : IsS72 w0 W g f0 f1) (o : Obj) : IsS72 w0 (W.alloc o) g f0 f1 := h.below (below_alloc (Below.refl _ _) o)
theorem IsS72.drewN {w0 W : World} {g : Nat} {f0 : Value} {f1 : Int} (h : IsS72 w0 W g f0 f1) (m : Nat) : IsS72 w0 (W.drewN m) g f0 f1 := h
theorem IsS72.drew {w0 W : World} {g : Nat} {f0 : Value} {f1 : Int} (h : IsS72 w0 W g f0 f1) : IsS72 w0 W.drew g f0 f1 := h
theorem IsS72.at_ {w0 W : World} {g : Nat} {f0 : Value} {f1 : Int} {w' : World} {m : Nat} (hq : W.drewN m = w') (h : IsS72 w0 W g f0 f1) : IsS72 w0 w' g f0 f1 := by subst hq; exact IsS72.drewN h m
theorem IsS72.apart {w0 W : World} {g : Nat} {f0 : Value} {f1 : Int} {α : Type} {d : Kd α} {e : Nat} {base : Nat} {ok : Nat → Prop} {v : Value} {xs : List α} (h : IsS72 w0 W g f0 f1) (ho : d.R e W base ok v xs) (ht : ∀ q, q ∈ e :: d.E → q ≠ 72) : d.R e W base (fun k => ok k ∧ k ≠ g) v xs := by
 obtain ⟨hb, hg⟩ := h
 exact Kd.R_types ho hb ht
theorem IsS72.own_ne {w0 W : World} {g : Nat} {f0 : Value} {f1 : Int} {α : Type} {d : Kd α} {e : Nat} {base : Nat} {ok : Nat → Prop} {v : Value} {xs : List α} (h : IsS72 w0 W g f0 f1) (ho : d.R e W base ok v xs) (ht : e ≠ 72) : some g ≠ v.ownBlock := by
 obtain ⟨hb, hg⟩ := h
 exact Kd.R_ne ho hb ht
theorem IsS72.apartQ {w0 W : World} {g : Nat} {f0 : Value} {f1 : Int} {α : Type} {d : Kd α} {e : Nat} {base : Nat} {ok : Nat → Prop} {v : Value} {xs : List α} (h : IsS72 w0 W g f0 f1) (ho : d.Q e W base ok v xs) (ht : ∀ q, q ∈ e :: d.E → q ≠ 72) : d.Q e W base (fun k => ok k ∧ k ≠ g) v xs := by
 obtain ⟨hb, hg⟩ := h
 exact Kd.Q_types ho hb ht
theorem IsS72.own_neQ {w0 W : World} {g : Nat} {f0 : Value} {f1 : Int} {α : Type} {d : Kd α} {e : Nat} {base : Nat} {ok : Nat → Prop} {v : Value} {xs : List α} (h : IsS72 w0 W g f0 f1) (ho : d.Q e W base ok v xs) (ht : e ≠ 72) : some g ≠ v.ownBlock := by
 obtain ⟨hb, hg⟩ := h
 exact Kd.Q_ne ho hb ht
theorem IsS72.apartS {w0 W : World} {g : Nat} {f0 : Value} {f1 : Int} {α : Type} {d : Kd α} {e : Nat} {base : Nat} {ok : Nat → Prop} {v : Value} {xs : List α} (h : IsS72 w0 W g f0 f1) (ho : d.S e W base ok v xs) (ht : ∀ q, q ∈ e :: d.E → q ≠ 72) : d.S e W base (fun k => ok k ∧ k ≠ g) v xs := by
 obtain ⟨hb, hg⟩ := h
 exact Kd.S_types ho hb ht
theorem IsS72.own_neS {w0 W : World} {g : Nat} {f0 : Value} {f1 : Int} {α : Type} {d : Kd α} {e : Nat} {base : Nat} {ok : Nat → Prop} {v : Value} {xs : List α} (h : IsS72 w0 W g f0 f1) (ho : d.S e W base ok v xs) (ht : e ≠ 72) : some g ≠ v.ownBlock := by
 obtain ⟨hb, hg⟩ := h
 exact Kd.S_ne ho hb ht
theorem IsS72.lt {w0 W : World} {g : Nat} {f0 : Value} {f1 : Int} (h : IsS72 w0 W g f0 f1) : g < W.heap.size := by
 obtain ⟨hb, hg⟩ := h
 exact blk_lt hb
theorem IsS72.ge {w0 W : World} {g : Nat} {f0 : Value} {f1 : Int} (h : IsS72 w0 W g f0 f1) : w0.heap.size ≤ g := by
 obtain ⟨hb, hg⟩ := h
 exact hg
theorem IsS72.lower {w0 W : World} {g : Nat} {f0 : Value} {f1 : Int} {w1 : World} (h : IsS72 w0 W g f0 f1) (hl : w1.heap.size ≤ w0.heap.size) : IsS72 w1 W g f0 f1 := ⟨h.1, Nat.le_trans hl h.2⟩
theorem IsS72.ne_blk {w0 W : World} {g : Nat} {f0 : Value} {f1 : Int} {a : Nat} {cs : Array Value} {t : TypeId} {fr : Nat × Nat} (h : IsS72 w0 W g f0 f1) (hb2 : W.heap[a]? = some (.cells cs t fr)) (ht : t ≠ 72) : g ≠ a := by
 obtain ⟨hb, hg⟩ := h
 rintro rfl
 rw [hb] at hb2
 injection hb2 with hb2
 injection hb2 with _ ht2
 exact ht ht2.symm
theorem IsS72.far {w0 W : World} {g : Nat} {f0 : Value} {f1 : Int} {p : Addr} (h : IsS72 w0 W g f0 f1) (hne : g ≠ p.block) (u : Value) : IsS72 w0 (W.setCell p u) g f0 f1 := by
 obtain ⟨hb, hg⟩ := h
 exact ⟨blk_far hb hne u, hg⟩
theorem cellS72_0 {W : World} {g : Nat} {f0 : Value} {f1 : Int} (h : W.heap[g]? = some (.cells #[f0, .int .i64 f1] 72 (0, 0))) : W.cell? ⟨g, 0, none⟩ = some (f0) := (blk_cell h 0).trans rfl
theorem IsS72.set_0 {w0 W : World} {g : Nat} {f0 : Value} {f1 : Int} (h : IsS72 w0 W g f0 f1) (x : Value) : IsS72 w0 (W.setCell ⟨g, 0, none⟩ (x)) g x f1 := by
 obtain ⟨hb, hg⟩ := h
 exact ⟨by simpa using blk_set hb 0 (x), hg⟩
theorem cellS72_1 {W : World} {g : Nat} {f0 : Value} {f1 : Int} (h : W.heap[g]? = some (.cells #[f0, .int .i64 f1] 72 (0, 0))) : W.cell? ⟨g, 1, none⟩ = some (.int .i64 f1) := (blk_cell h 1).trans rfl
theorem IsS72.set_1 {w0 W : World} {g : Nat} {f0 : Value} {f1 : Int} (h : IsS72 w0 W g f0 f1) (x : Int) : IsS72 w0 (W.setCell ⟨g, 1, none⟩ (.int .i64 x)) g f0 x := by
 obtain ⟨hb, hg⟩ := h
 exact ⟨by simpa using blk_set hb 1 (.int .i64 x), hg⟩
theorem IsS72.new (w0 W : World) (f0 : Value) (f1 : Int) (hB : Below w0.heap.size w0 W) : IsS72 w0 (W.alloc (.cells #[f0, .int .i64 f1] 72)) W.heap.size f0 f1 := ⟨by simpa using heap_alloc_new W _, hB.size⟩

/-! ### mem_New: function 22 -/
def mem_New.j0 : Nat → Int → Bool → Int → Int → Option (Bool × List Int × Int × Int)
 | 0, _, _, _, _ => none
 | k + 1, x1, x7, x0z, x1z => if x7 = true then (some (false, ([] : List Int), 0, 100)) else (if x0z > x1 then (some (false, ([] : List Int), 0, 51)) else (if 0 ≤ (wrap64 (x0z * 65536)) then (if (wrap64 (x0z * 65536) : Int).toNat ≤ 281474976710656 then ((some (List.replicate (wrap64 (x0z * 65536) : Int).toNat 0 : List Int)).bind fun y105 => (if x1z = (-1) then (some (true, y105, x1, 0)) else (some (true, y105, mn x1 x1z, 0)))) else (none)) else (none)))
def mem_New.f (k : Nat) (a0_0 : Int) (a0_1 : Int) (a1 : Int) : Option (Bool × List Int × Int × Int) := if a1 < 0 then (mem_New.j0 k a1 true a0_0 a0_1) else (if a1 > 16 then (mem_New.j0 k a1 true a0_0 a0_1) else (if a0_0 < 0 then (mem_New.j0 k a1 true a0_0 a0_1) else (if a0_1 = (-1) then (mem_New.j0 k a1 false a0_0 a0_1) else (mem_New.j0 k a1 (decide (a0_1 < a0_0)) a0_0 a0_1))))
theorem mem_New.mono_l : ∀ k, (∀ y0 y1 y2 y3, LeO (mem_New.j0 k y0 y1 y2 y3) (mem_New.j0 (k + 1) y0 y1 y2 y3))
 | 0 => fun _ _ _ _ r h => by simp [mem_New.j0] at h
 | k + 1 => by
  have ih0 := mem_New.mono_l k
  ·intro y0 y1 y2 y3
   unfold mem_New.j0
   repeat' first
   | (with_reducible apply ih0)
   | (with_reducible exact LeO.refl _)
   | (with_reducible exact LeO.none _)
   | (with_reducible refine LeO.ite ?_ ?_)
   | (with_reducible refine LeO.bind ?_ (fun _ => ?_))
   | apply ih0
   | exact LeO.none _
   | refine LeO.ite ?_ ?_
   | refine LeO.bind ?_ (fun _ => ?_)
theorem mem_New.mono : ∀ a0 a1 a2 k, LeO (mem_New.f k a0 a1 a2) (mem_New.f (k + 1) a0 a1 a2) := by
 intro a0 a1 a2 k
 have ih0 := mem_New.mono_l k
 unfold mem_New.f
 repeat' first
   | (with_reducible apply ih0)
   | (with_reducible exact LeO.refl _)
   | (with_reducible exact LeO.none _)
   | (with_reducible refine LeO.ite ?_ ?_)
   | (with_reducible refine LeO.bind ?_ (fun _ => ?_))
   | apply ih0
   | exact LeO.none _
   | refine LeO.ite ?_ ?_
   | refine LeO.bind ?_ (fun _ => ?_)
theorem mem_New.aa_0 {p : Prop} (h : p := by repeat (first | (with_reducible first | exact HB.out | apply below_alloc | apply pw_below_drewN | apply below_drew1 | refine below_set ?_ GE104.out) | exact HB.out)) : p := h
theorem mem_New.aa_1 {p : Prop} (h : p := by (with_reducible repeat (first | refine blk_drewN ?_ _ | refine blk_drew ?_ | refine blk_alloc ?_ _)); exact BK104.out) : p := h
theorem mem_New.am_ {p : Prop} (h : p) : Aside0 p := Aside0.mk h
theorem mem_New.bm_ {α β : Type _} {o : Option α} {f : α → Option β} {b : β} (h : o.bind f = some b) : ∃ a, o = some a ∧ f a = some b := Option.bind_eq_some_iff.mp h
set_option maxHeartbeats 8000000 in
set_option maxRecDepth 100000 in
theorem mem_New.calls (k : Nat) (a0_0 : Int) (a0_1 : Int) (a1 : Int) (r1 : Bool) (r2 : List Int) (r3 : Int) (r4 : Int) (w : World) (h : mem_New.f k a0_0 a0_1 a1 = some (r1, r2, r3, r4)) :
  Calls Try.prog 22 #[.agg #[.int .i64 a0_0, .int .i64 a0_1], .int .i64 a1] w fun e w' => ∃ v1_ : Value, ∃ p0_ : Value, e = .returned (.tuple #[p0_, .int .i64 r4]) ∧ Kd.R (Kd.int .u8) 5 w' w.heap.size (fun _ => True) v1_ r2 ∧ ((r1 = true → ∃ g_ : Nat, p0_ = .pointer (some ⟨g_, 0, none⟩) ∧ IsS72 w w' g_ v1_ r3) ∧ (r1 = false → p0_ = .pointer none)) ∧ Below w.heap.size w w' := by
 have hu61 := Try.underlying61
 have hu72 := Try.underlying72
 have HB := am_ (Below.refl w.heap.size w)
 have H : (if a1 < 0 then (j0 k a1 true a0_0 a0_1) else (if a1 > 16 then (j0 k a1 true a0_0 a0_1) else (if a0_0 < 0 then (j0 k a1 true a0_0 a0_1) else (if a0_1 = (-1) then (j0 k a1 false a0_0 a0_1) else (j0 k a1 (decide (a0_1 < a0_0)) a0_0 a0_1))))) = some (r1, r2, r3, r4) := h
 clear h
 have HC3 := am_ H
 clear H
 go_enter Try.func22, Try.ntmps22
 go_upto_region 1 with (first | ((with_reducible refine gate_dst (N := 2) rfl ?_); refine box_event ?hg (N := 2) ?hd (cs := #[.int .i64 a0_0, .int .i64 a0_1]) (t := 61) ?hr ?_; (case hd => rfl); (case hg => rfl); (case hr => first | (go_simp; done) | (go_simp; rfl)); intro gb104 hg w4 hbox hb; have n0_ := am_ (below_step (by repeat (first | (with_reducible first | exact HB.out | apply below_alloc | apply pw_below_drewN | apply below_drew1) | exact HB.out)) hb); have n1_ := am_ (hbox); have n2_ := am_ ((by rw [hg]; exact (below_size (by repeat (first | (with_reducible first | exact HB.out | apply below_alloc | apply pw_below_drewN | apply below_drew1) | exact HB.out))) : w.heap.size ≤ gb104)); have n3_ := am_ ((by rw [hg]; exact (below_size (by repeat (first | (with_reducible first | exact HB.out | apply below_alloc | apply pw_below_drewN | apply below_drew1) | exact HB.out))) : w.heap.size ≤ gb104)); clear HB; have HB := n0_; have BK104 := n1_; have GW104 := n2_; have GE104 := n3_; clear n0_ n1_ n2_ n3_; clear hb hbox hg))
 (try simp only [Act.put, e1, e2, e3])
 go_cut [7] (fun v7 wc => ∃ (kq : Nat) (x7_2 : Bool), v7 = .bool x7_2 ∧ Aside0 (j0 kq a1 x7_2 a0_0 a0_1 = some (r1, r2, r3, r4)) ∧ Aside0 (kq ≤ k) ∧ Aside0 (wc.heap[gb104]? = some (.cells #[.int .i64 a0_0, .int .i64 a0_1] 61 (0, 0))) ∧ Aside0 (Below w.heap.size w wc))
 case first =>
  have H := HC3.out
  clear HC3
  by_cases c5 : a1 < 0
  ·rw [if_pos c5] at H
   have c5b0 : decide (a1 < 0) = true := decide_eq_true c5
   clear c5
   (first | rw [c5b0] | (simp only [i64_w, i32_w]; rw [c5b0]) | skip)
   have H' := am_ H
   clear H
   go_wp2
   go_meet
   case rel => exact ⟨_, (true), (by first | rfl | (simp; done) | (simp [*]; done)), H', ⟨by first | omega | exact Nat.le_refl _⟩, ⟨aa_1⟩, ⟨aa_0⟩⟩
  ·rw [if_neg c5] at H
   have c5b0 : decide (a1 < 0) = false := decide_eq_false c5
   clear c5
   (first | rw [c5b0] | (simp only [i64_w, i32_w]; rw [c5b0]) | skip)
   by_cases c6 : a1 > 16
   ·rw [if_pos c6] at H
    have c6b0 : decide (16 < a1) = true := decide_eq_true c6
    clear c6
    have H' := am_ H
    clear H
    go_wp2
    go_meet
    case rel => exact ⟨_, (true), (by first | rfl | (simp; done) | (simp [*]; done)), H', ⟨by first | omega | exact Nat.le_refl _⟩, ⟨aa_1⟩, ⟨aa_0⟩⟩
   ·rw [if_neg c6] at H
    have c6b0 : decide (16 < a1) = false := decide_eq_false c6
    clear c6
    by_cases c7 : a0_0 < 0
    ·rw [if_pos c7] at H
     have c7b0 : decide (a0_0 < 0) = true := decide_eq_true c7
     clear c7
     have H' := am_ H
     clear H
     have hcz8_0 : w4.cell? ⟨gb104, 0, none⟩ = some (.int .i64 a0_0) := bc BK104 0
     have hcz8_1 : w4.cell? ⟨gb104, 1, none⟩ = some (.int .i64 a0_1) := bc BK104 1
     have hfz8_0 := blk_frozen BK104.out 0
     have hfz8_1 := blk_frozen BK104.out 1
     go_wp2
     go_meet
     case rel => exact ⟨_, (true), (by first | rfl | (simp; done) | (simp [*]; done)), H', ⟨by first | omega | exact Nat.le_refl _⟩, ⟨aa_1⟩, ⟨aa_0⟩⟩
    ·rw [if_neg c7] at H
     have c7b0 : decide (a0_0 < 0) = false := decide_eq_false c7
     clear c7
     by_cases c9 : a0_1 = (-1)
     ·rw [if_pos c9] at H
      have c9b0 : (a0_1 == (-1)) = true := beq_iff_eq.mpr c9
      have c9b1 : (a0_1 != (-1)) = false := bne_eq_false_iff_eq.mpr c9
      clear c9
      have H' := am_ H
      clear H
      have hcz10_0 : w4.cell? ⟨gb104, 0, none⟩ = some (.int .i64 a0_0) := bc BK104 0
      have hcz10_1 : w4.cell? ⟨gb104, 1, none⟩ = some (.int .i64 a0_1) := bc BK104 1
      have hfz10_0 := blk_frozen BK104.out 0
      have hfz10_1 := blk_frozen BK104.out 1
      go_wp2
      go_meet
      case rel => exact ⟨_, (false), (by first | rfl | (simp; done) | (simp [*]; done)), H', ⟨by first | omega | exact Nat.le_refl _⟩, ⟨aa_1⟩, ⟨aa_0⟩⟩
     ·rw [if_neg c9] at H
      have c9b0 : (a0_1 == (-1)) = false := beq_eq_false_iff_ne.mpr c9
      have c9b1 : (a0_1 != (-1)) = true := bne_iff_ne.mpr c9
      have H' := am_ H
      clear H
      have hcz11_0 : w4.cell? ⟨gb104, 0, none⟩ = some (.int .i64 a0_0) := bc BK104 0
      have hcz11_1 : w4.cell? ⟨gb104, 1, none⟩ = some (.int .i64 a0_1) := bc BK104 1
      have hfz11_0 := blk_frozen BK104.out 0
      have hfz11_1 := blk_frozen BK104.out 1
      go_wp2
      go_meet
      case rel => exact ⟨_, (decide (a0_1 < a0_0)), (by first | rfl | (simp; done) | (simp [*]; done)), H', ⟨by first | omega | exact Nat.le_refl _⟩, ⟨aa_1⟩, ⟨aa_0⟩⟩
 case rest =>
  clear HC3
  try clear c2
  try clear p2
  try clear c5
  try clear c5b0
  try clear c6
  try clear c6b0
  try clear c7
  try clear c7b0
  try clear c9
  try clear c9b0
  try clear c9b1
  try clear hcz10_0
  try clear hcz10_1
  try clear hcz11_0
  try clear hcz11_1
  try clear hcz8_0
  try clear hcz8_1
  try clear hfz10_0
  try clear hfz10_1
  try clear hfz11_0
  try clear hfz11_1
  try clear hfz8_0
  try clear hfz8_1
  obtain ⟨kq, x7_2, rfl, HA, HJ2, BK104, HB⟩ := hcut
  cases kq with
  | zero => exact absurd HA.out (by simp [j0])
  | succ kj2 =>
   have H := HA.out
   clear HA
   simp only [j0] at H
   by_cases c12 : x7_2 = true
   ·subst c12
    have H1 : (some (false, ([] : List Int), 0, 100)) = some (r1, r2, r3, r4) := by rw [if_pos rfl] at H; exact H
    clear H
    have H := H1
    clear H1
    simp only [Option.some.injEq, Prod.mk.injEq] at H
    obtain ⟨rfl, rfl, rfl, rfl⟩ := H
    go_wp2
    go_ret2
    exact ⟨_, (.pointer none), by first | rfl | (simp [errW_none, errW_some] <;> rfl) | (simp [*, errW_none, errW_some] <;> rfl), by first | exact Kd.R_nil _ _ _ _ _ | exact Kd.N_nil _ _ _ _ _ | exact Kd.V_nil _ _ _ _ _ | exact Kd.Q_nil _ _ _ _ _ | exact Kd.S_nil _ _ _ _ _, by first | exact ⟨fun h_ => absurd h_ (by decide), fun _ => rfl⟩ | rfl | exact ⟨trivial, rfl⟩, by repeat (first | (with_reducible first | exact HB.out | apply below_alloc | apply pw_below_drewN | apply below_drew1 | refine below_set ?_ GE104.out) | exact HB.out)⟩
   ·replace c12 := Bool.eq_false_iff.mpr c12
    subst c12
    have H1 : (if a0_0 > a1 then (some (false, ([] : List Int), 0, 51)) else (if 0 ≤ (wrap64 (a0_0 * 65536)) then (if (wrap64 (a0_0 * 65536) : Int).toNat ≤ 281474976710656 then ((some (List.replicate (wrap64 (a0_0 * 65536) : Int).toNat 0 : List Int)).bind fun y105 => (if a0_1 = (-1) then (some (true, y105, a1, 0)) else (some (true, y105, mn a1 a0_1, 0)))) else (none)) else (none))) = some (r1, r2, r3, r4) := by rw [if_neg (show ¬ (false = true) by decide)] at H; exact H
    clear H
    have H := H1
    clear H1
    by_cases c13 : a0_0 > a1
    ·rw [if_pos c13] at H
     have c13b0 : decide (a1 < a0_0) = true := decide_eq_true c13
     clear c13
     simp only [Option.some.injEq, Prod.mk.injEq] at H
     obtain ⟨rfl, rfl, rfl, rfl⟩ := H
     have hcz14_0 : wc.cell? ⟨gb104, 0, none⟩ = some (.int .i64 a0_0) := bc BK104 0
     have hcz14_1 : wc.cell? ⟨gb104, 1, none⟩ = some (.int .i64 a0_1) := bc BK104 1
     have hfz14_0 := blk_frozen BK104.out 0
     have hfz14_1 := blk_frozen BK104.out 1
     go_wp2
     go_ret2
     exact ⟨_, (.pointer none), by first | rfl | (simp [errW_none, errW_some] <;> rfl) | (simp [*, errW_none, errW_some] <;> rfl), by first | exact Kd.R_nil _ _ _ _ _ | exact Kd.N_nil _ _ _ _ _ | exact Kd.V_nil _ _ _ _ _ | exact Kd.Q_nil _ _ _ _ _ | exact Kd.S_nil _ _ _ _ _, by first | exact ⟨fun h_ => absurd h_ (by decide), fun _ => rfl⟩ | rfl | exact ⟨trivial, rfl⟩, by repeat (first | (with_reducible first | exact HB.out | apply below_alloc | apply pw_below_drewN | apply below_drew1 | refine below_set ?_ GE104.out) | exact HB.out)⟩
    ·rw [if_neg c13] at H
     have c13b0 : decide (a1 < a0_0) = false := decide_eq_false c13
     clear c13
     obtain ⟨ji15, hji15⟩ : ∃ j_ : Int, (wrap64 (a0_0 * 65536)) = j_ := ⟨_, rfl⟩
     replace H : (if 0 ≤ (ji15) then (if (ji15 : Int).toNat ≤ 281474976710656 then ((some (List.replicate (ji15 : Int).toNat 0 : List Int)).bind fun y105 => (if a0_1 = (-1) then (some (true, y105, a1, 0)) else (some (true, y105, mn a1 a0_1, 0)))) else (none)) else (none)) = some (r1, r2, r3, r4) := by first | (rw [hji15] at H; exact H) | (simp only [hji15] at H ⊢; exact H)
     have hji15w : (IntKind.i64.wrap (a0_0 * 65536)) = ji15 := (i64_w _).trans hji15
     by_cases c16 : 0 ≤ (ji15)
     ·rw [if_pos c16] at H
      have c16b0 := eq_true c16
      have c16b1 : decide (0 ≤ (ji15)) = true := decide_eq_true c16
      clear c16
      by_cases c17 : (ji15 : Int).toNat ≤ 281474976710656
      ·rw [if_pos c17] at H
       have c17b0 := eq_true c17
       have c17b1 : decide ((ji15 : Int).toNat ≤ 281474976710656) = true := decide_eq_true c17
       clear c17
       obtain ⟨y105, hy105⟩ : ∃ y_ : List Int, y_ = (List.replicate (ji15 : Int).toNat 0) := ⟨_, rfl⟩
       replace H : (if a0_1 = (-1) then (some (true, y105, a1, 0)) else (some (true, y105, mn a1 a0_1, 0))) = some (r1, r2, r3, r4) := by first | (rw [hy105]; with_reducible exact H) | (have H2_ := (Option.bind_some _ _).symm.trans H; rw [hy105]; with_reducible exact H2_) | (have H2_ := (Option.bind_some _ _).symm.trans H; with_reducible exact H2_) | with_reducible exact H | (rw [hy105]; exact H) | exact H
       have Ny105 := am_ hy105
       clear hy105
       by_cases c18 : a0_1 = (-1)
       ·rw [if_pos c18] at H
        have c18b0 : (a0_1 == (-1)) = true := beq_iff_eq.mpr c18
        have c18b1 : (a0_1 != (-1)) = false := bne_eq_false_iff_eq.mpr c18
        clear c18
        simp only [Option.some.injEq, Prod.mk.injEq] at H
        obtain ⟨rfl, rfl, rfl, rfl⟩ := H
        have hcz19_0 : wc.cell? ⟨gb104, 0, none⟩ = some (.int .i64 a0_0) := bc BK104 0
        have hcz19_1 : wc.cell? ⟨gb104, 1, none⟩ = some (.int .i64 a0_1) := bc BK104 1
        have hfz19_0 := blk_frozen BK104.out 0
        have hfz19_1 := blk_frozen BK104.out 1
        go_wp2_with (first | ((with_reducible refine gate_dst (N := 39) rfl ?_); refine Kd.R_make (Kd.int .u8) _ 5 rfl (N := 39) rfl 23 _ _ rfl ji15 rfl rfl Try.underlying23 (.int .u8 0) 1 info5 rfl (by decide) (by omega) 0 (ok := fun _ => True) (okp := fun _ => True) rfl (fun _ hk => hk) trivial (of_decide_eq_true (by first | (with_reducible assumption) | assumption)) (Nat.le_trans (Nat.mul_le_mul_right _ (of_decide_eq_true (by first | (with_reducible assumption) | assumption) : ji15.toNat ≤ 281474976710656)) (by omega)) (Below.refl _ _) (Nat.le_refl _) ?_; intro v106 w20 ho21 hb hg_ hnew_; clear hg_ hnew_; (first | rw [← Ny105.out] at ho21 | (simp only [Int.reduceToNat] at ho21; rw [← Ny105.out] at ho21)); have n0_ := am_ (Kd.R_lower ho21 (below_size aa_0)); have n1_ := am_ (bbelow BK104 aa_1 hb); have n2_ := am_ (below_step aa_0 hb); clear BK104; clear HB; have HO107 := n0_; have BK104 := n1_; have HB := n2_; clear n0_ n1_ n2_; clear hb ho21; obtain ⟨Ao22, co22, eo22⟩ := Kd.R_slice HO107.out; subst eo22) | ((with_reducible refine gate_dst (N := 42) rfl ?_); refine box_event ?hg (N := 42) ?hd (cs := #[.slice Ao22 y105.length co22, .int .i64 a1]) (t := 72) ?hr ?_; (case hd => rfl); (case hg => rfl); (case hr => first | (go_simp; done) | (go_simp; rfl)); intro g108 hg w23 hbox hb; have n0_ := am_ (Kd.R_below (by (with_reducible repeat (first | apply Kd.R_alloc | apply Kd.R_drewN | apply Kd.R_drew)); exact HO107.out) hb); have n1_ := am_ (bbelow BK104 aa_1 hb); have n2_ := am_ ((by rw [hg]; exact Nat.ne_of_lt (blk_lt (g := gb104) (o := .cells #[.int .i64 a0_0, .int .i64 a0_1] 61 (0, 0)) aa_1) : gb104 ≠ g108)); have n3_ := am_ ((by rw [hg]; exact Nat.ne_of_gt (blk_lt (g := gb104) (o := .cells #[.int .i64 a0_0, .int .i64 a0_1] 61 (0, 0)) aa_1) : g108 ≠ gb104)); have n4_ := am_ (below_step aa_0 hb); have n5_ := am_ ((show IsS72 w w23 g108 (.slice Ao22 y105.length co22) a1 from ⟨hbox, (by rw [hg]; exact (below_size aa_0))⟩)); clear HO107; clear BK104; clear HB; have HO107 := n0_; have BK104 := n1_; have NB104_108 := n2_; have NB108_104 := n3_; have HB := n4_; have HI108 := n5_; clear n0_ n1_ n2_ n3_ n4_ n5_; clear hb hbox hg; have hnb24 := NB104_108.out; have hnc24 := NB108_104.out; have hcz25_0 : w23.cell? ⟨gb104, 0, none⟩ = some (.int .i64 a0_0) := (bc BK104 0); have hcz25_1 : w23.cell? ⟨gb104, 1, none⟩ = some (.int .i64 a0_1) := (bc BK104 1); have hfz25_0 := blk_frozen BK104.out 0; have hfz25_1 := blk_frozen BK104.out 1))
        go_ret2
        exact ⟨_, (.pointer (some ⟨g108, 0, none⟩)), by first | rfl | (simp [errW_none, errW_some] <;> rfl) | (simp only [← hji15]; first | rfl | (simp [errW_none, errW_some] <;> rfl)) | (simp [*, errW_none, errW_some] <;> rfl), by (with_reducible repeat (first | apply Kd.R_alloc | apply Kd.R_drewN | apply Kd.R_drew)); exact HO107.out, by first | exact ⟨fun _ => ⟨_, rfl, by repeat (first | (with_reducible first | exact HI108.out | apply IsS72.alloc | apply IsS72.drewN | apply IsS72.drew | apply IsS72.set_0 | apply IsS72.set_1 | refine IsS72.far ?_ NB108_104.out _) | exact HI108.out)⟩, fun h_ => absurd h_ (by decide)⟩ | exact ⟨_, rfl, by repeat (first | (with_reducible first | exact HI108.out | apply IsS72.alloc | apply IsS72.drewN | apply IsS72.drew | apply IsS72.set_0 | apply IsS72.set_1 | refine IsS72.far ?_ NB108_104.out _) | exact HI108.out)⟩, by repeat (first | (with_reducible first | exact HB.out | apply below_alloc | apply pw_below_drewN | apply below_drew1 | refine below_set ?_ (IsS72.ge HI108.out) | refine below_set ?_ GE104.out) | exact HB.out)⟩
       ·rw [if_neg c18] at H
        have c18b0 : (a0_1 == (-1)) = false := beq_eq_false_iff_ne.mpr c18
        have c18b1 : (a0_1 != (-1)) = true := bne_iff_ne.mpr c18
        obtain ⟨ji26, hji26⟩ : ∃ j_ : Int, (mn a1 a0_1) = j_ := ⟨_, rfl⟩
        replace H : (some (true, y105, ji26, 0)) = some (r1, r2, r3, r4) := by first | (rw [hji26] at H; exact H) | (simp only [hji26] at H ⊢; exact H)
        have hji26_ : (if a0_1 < a1 then a0_1 else a1) = ji26 := hji26
        simp only [Option.some.injEq, Prod.mk.injEq] at H
        obtain ⟨rfl, rfl, rfl, rfl⟩ := H
        have hcz27_0 : wc.cell? ⟨gb104, 0, none⟩ = some (.int .i64 a0_0) := bc BK104 0
        have hcz27_1 : wc.cell? ⟨gb104, 1, none⟩ = some (.int .i64 a0_1) := bc BK104 1
        have hfz27_0 := blk_frozen BK104.out 0
        have hfz27_1 := blk_frozen BK104.out 1
        go_wp2_with (first | ((with_reducible refine gate_dst (N := 39) rfl ?_); refine Kd.R_make (Kd.int .u8) _ 5 rfl (N := 39) rfl 23 _ _ rfl ji15 rfl rfl Try.underlying23 (.int .u8 0) 1 info5 rfl (by decide) (by omega) 0 (ok := fun _ => True) (okp := fun _ => True) rfl (fun _ hk => hk) trivial (of_decide_eq_true (by first | (with_reducible assumption) | assumption)) (Nat.le_trans (Nat.mul_le_mul_right _ (of_decide_eq_true (by first | (with_reducible assumption) | assumption) : ji15.toNat ≤ 281474976710656)) (by omega)) (Below.refl _ _) (Nat.le_refl _) ?_; intro v106 w28 ho29 hb hg_ hnew_; clear hg_ hnew_; (first | rw [← Ny105.out] at ho29 | (simp only [Int.reduceToNat] at ho29; rw [← Ny105.out] at ho29)); have n0_ := am_ (Kd.R_lower ho29 (below_size aa_0)); have n1_ := am_ (bbelow BK104 aa_1 hb); have n2_ := am_ (below_step aa_0 hb); clear BK104; clear HB; have HO107 := n0_; have BK104 := n1_; have HB := n2_; clear n0_ n1_ n2_; clear hb ho29; obtain ⟨Ao30, co30, eo30⟩ := Kd.R_slice HO107.out; subst eo30) | ((with_reducible refine gate_dst (N := 42) rfl ?_); refine box_event ?hg (N := 42) ?hd (cs := #[.slice Ao30 y105.length co30, .int .i64 a1]) (t := 72) ?hr ?_; (case hd => rfl); (case hg => rfl); (case hr => first | (go_simp; done) | (go_simp; rfl)); intro g108 hg w31 hbox hb; have n0_ := am_ (Kd.R_below (by (with_reducible repeat (first | apply Kd.R_alloc | apply Kd.R_drewN | apply Kd.R_drew)); exact HO107.out) hb); have n1_ := am_ (bbelow BK104 aa_1 hb); have n2_ := am_ ((by rw [hg]; exact Nat.ne_of_lt (blk_lt (g := gb104) (o := .cells #[.int .i64 a0_0, .int .i64 a0_1] 61 (0, 0)) aa_1) : gb104 ≠ g108)); have n3_ := am_ ((by rw [hg]; exact Nat.ne_of_gt (blk_lt (g := gb104) (o := .cells #[.int .i64 a0_0, .int .i64 a0_1] 61 (0, 0)) aa_1) : g108 ≠ gb104)); have n4_ := am_ (below_step aa_0 hb); have n5_ := am_ ((show IsS72 w w31 g108 (.slice Ao30 y105.length co30) a1 from ⟨hbox, (by rw [hg]; exact (below_size aa_0))⟩)); clear HO107; clear BK104; clear HB; have HO107 := n0_; have BK104 := n1_; have NB104_108 := n2_; have NB108_104 := n3_; have HB := n4_; have HI108 := n5_; clear n0_ n1_ n2_ n3_ n4_ n5_; clear hb hbox hg; have hnb32 := NB104_108.out; have hnc32 := NB108_104.out; have hcz33_0 : w31.cell? ⟨gb104, 0, none⟩ = some (.int .i64 a0_0) := (bc BK104 0); have hcz33_1 : w31.cell? ⟨gb104, 1, none⟩ = some (.int .i64 a0_1) := (bc BK104 1); have hfz33_0 := blk_frozen BK104.out 0; have hfz33_1 := blk_frozen BK104.out 1; obtain ⟨HGz34, hgz34⟩ := HI108.out; have hcz34_0 := cellS72_0 HGz34; have hcz34_1 := cellS72_1 HGz34; have hfz34_0 := blk_frozen HGz34 0; have hfz34_1 := blk_frozen HGz34 1; clear HGz34 hgz34))
        go_ret2
        exact ⟨_, (.pointer (some ⟨g108, 0, none⟩)), by first | rfl | (simp [errW_none, errW_some] <;> rfl) | (simp only [← hji15, ← hji26]; first | rfl | (simp [errW_none, errW_some] <;> rfl)) | (simp [*, errW_none, errW_some] <;> rfl), by (with_reducible repeat (first | apply Kd.R_alloc | apply Kd.R_drewN | apply Kd.R_drew)); exact Kd.R_mono (Kd.R_far (p := ⟨g108, 1, none⟩) (IsS72.apart HI108.out HO107.out (by decide)) (fun _ hk => hk.2) (.int .i64 ji26)) (fun _ hk => trivial), by first | exact ⟨fun _ => ⟨_, rfl, by repeat (first | (with_reducible first | exact HI108.out | apply IsS72.alloc | apply IsS72.drewN | apply IsS72.drew | apply IsS72.set_0 | apply IsS72.set_1 | refine IsS72.far ?_ NB108_104.out _) | exact HI108.out)⟩, fun h_ => absurd h_ (by decide)⟩ | exact ⟨_, rfl, by repeat (first | (with_reducible first | exact HI108.out | apply IsS72.alloc | apply IsS72.drewN | apply IsS72.drew | apply IsS72.set_0 | apply IsS72.set_1 | refine IsS72.far ?_ NB108_104.out _) | exact HI108.out)⟩, by repeat (first | (with_reducible first | exact HB.out | apply below_alloc | apply pw_below_drewN | apply below_drew1 | refine below_set ?_ (IsS72.ge HI108.out) | refine below_set ?_ GE104.out) | exact HB.out)⟩
      ·rw [if_neg c17] at H
       exact absurd H (by simp)
     ·rw [if_neg c16] at H
      exact absurd H (by simp)

/-- A state of type 57 at block g of W; what its slices lead to came in by w0. -/
abbrev gangwayref9_NewMem.t : Bool := true
abbrev gangwayref9_NewMem.f_ : Bool := false
theorem gangwayref9_NewMem.bc {w : World} {g : Nat} {cs : Array Value} {t : TypeId} (h : Aside0 (w.heap[g]? = some (.cells cs t (0, 0)))) (i : Nat) {v : Value} (e : cs[i]? = some v := by rfl) : w.cell? ⟨g, i, none⟩ = some v := (blk_cell h.out i).trans e
theorem gangwayref9_NewMem.bkept {W0 W W2 : World} {g : Nat} {o : Obj} {S : Nat → Prop} (_b : Aside0 (W0.heap[g]? = some o)) (h : W.heap[g]? = some o) (hk : Kept W W2 S) (hn : ¬ S g) : W2.heap[g]? = some o := blk_kept h hk hn
theorem gangwayref9_NewMem.bbelow {W0 w w1 : World} {g : Nat} {o : Obj} (_b : Aside0 (W0.heap[g]? = some o)) (h : w.heap[g]? = some o) (hb : Below w.heap.size w w1) : w1.heap[g]? = some o := blk_below h hb
theorem gangwayref9_NewMem.e1 {α : Type _} (xs : List α) (i : Nat) (a : α) : xs.toArray.setIfInBounds i a = (xs.set i a).toArray := by simp
theorem gangwayref9_NewMem.e2 {α : Type _} (x a : α) (xs : List α) : (x :: xs).set 0 a = a :: xs := rfl
theorem gangwayref9_NewMem.e3 {α : Type _} (x a : α) (xs : List α) (n : Nat) : (x :: xs).set (n + 1) a = x :: xs.set n a := rfl
def IsS57 (w0 W : World) (g : Nat) (f0 : Value) (f1 : Int) : Prop := W.heap[g]? = some (.cells #[f0, .int .i64 f1] 57 (0, 0)) ∧ w0.heap.size ≤ g
theorem IsS57.grown {w0 W : World} {g : Nat} {f0 : Value} {f1 : Int} {W1 : World} {row : Option Nat} (h : IsS57 w0 W g f0 f1) (hw : W.grownBy W1 row) (hne : some g ≠ row) : IsS57 w0 W1 g f0 f1 := by
 obtain ⟨hb, hg⟩ := h
 exact ⟨blk_grown hb hw hne, hg⟩
theorem IsS57.own_neN {w0 W : World} {g : Nat} {f0 : Value} {f1 : Int} {α : Type} {d : Kd α} {e : Nat} {base : Nat} {ok : Nat → Prop} {v : Value} {xs : List α} (h : IsS57 w0 W g f0 f1) (ho : Kd.N d e W base ok v xs) (ht : e ≠ 57) : some g ≠ v.ownBlock := by
 obtain ⟨hb, hg⟩ := h
 exact Kd.N_ne ho hb ht
theorem IsS57.fresh {w0 W : World} {g : Nat} {f0 : Value} {f1 : Int} (h : IsS57 w0 W g f0 f1) : ∀ k, W.heap.size ≤ k → k ≠ g := by
 obtain ⟨hb, hg⟩ := h
 exact Kd.freshB hb
theorem IsS57.kept {w0 W : World} {g : Nat} {f0 : Value} {f1 : Int} {W1 : World} {S : Nat → Prop} (h : IsS57 w0 W g f0 f1) (hk : Kept W W1 S) (hne : ¬ S g) : IsS57 w0 W1 g f0 f1 := by
 obtain ⟨hb, hg⟩ := h
 exact ⟨blk_kept hb hk hne, hg⟩
theorem IsS57.keepb {w0 W : World} {g : Nat} {f0 : Value} {f1 : Int} {W1 : World} {g2 : Nat} (h : IsS57 w0 W g f0 f1) (hk : KeepBut W W1 g2 none) (hne : g ≠ g2) : IsS57 w0 W1 g f0 f1 := by
 obtain ⟨hb, hg⟩ := h
 exact ⟨KeepBut.blk hk hb hne (by simp), hg⟩
theorem IsS57.below {w0 W : World} {g : Nat} {f0 : Value} {f1 : Int} {W1 : World} (h : IsS57 w0 W g f0 f1) (hw : Below W.heap.size W W1) : IsS57 w0 W1 g f0 f1 := h.grown (grown_of_below hw none) (by simp)
theorem IsS57.alloc {w0 W : World} {g : Nat} {f0 : Value} {f1 : Int} (h : IsS57 w0 W g f0 f1) (o : Obj) : IsS57 w0 (W.alloc o) g f0 f1 := h.below (below_alloc (Below.refl _ _) o)
theorem IsS57.drewN {w0 W : World} {g : Nat} {f0 : Value} {f1 : Int} (h : IsS57 w0 W g f0 f1) (m : Nat) : IsS57 w0 (W.drewN m) g f0 f1 := h
theorem IsS57.drew {w0 W : World} {g : Nat} {f0 : Value} {f1 : Int} (h : IsS57 w0 W g f0 f1) : IsS57 w0 W.drew g f0 f1 := h
theorem IsS57.at_ {w0 W : World} {g : Nat} {f0 : Value} {f1 : Int} {w' : World} {m : Nat} (hq : W.drewN m = w') (h : IsS57 w0 W g f0 f1) : IsS57 w0 w' g f0 f1 := by subst hq; exact IsS57.drewN h m
theorem IsS57.apart {w0 W : World} {g : Nat} {f0 : Value} {f1 : Int} {α : Type} {d : Kd α} {e : Nat} {base : Nat} {ok : Nat → Prop} {v : Value} {xs : List α} (h : IsS57 w0 W g f0 f1) (ho : d.R e W base ok v xs) (ht : ∀ q, q ∈ e :: d.E → q ≠ 57) : d.R e W base (fun k => ok k ∧ k ≠ g) v xs := by
 obtain ⟨hb, hg⟩ := h
 exact Kd.R_types ho hb ht
theorem IsS57.own_ne {w0 W : World} {g : Nat} {f0 : Value} {f1 : Int} {α : Type} {d : Kd α} {e : Nat} {base : Nat} {ok : Nat → Prop} {v : Value} {xs : List α} (h : IsS57 w0 W g f0 f1) (ho : d.R e W base ok v xs) (ht : e ≠ 57) : some g ≠ v.ownBlock := by
 obtain ⟨hb, hg⟩ := h
 exact Kd.R_ne ho hb ht
theorem IsS57.apartQ {w0 W : World} {g : Nat} {f0 : Value} {f1 : Int} {α : Type} {d : Kd α} {e : Nat} {base : Nat} {ok : Nat → Prop} {v : Value} {xs : List α} (h : IsS57 w0 W g f0 f1) (ho : d.Q e W base ok v xs) (ht : ∀ q, q ∈ e :: d.E → q ≠ 57) : d.Q e W base (fun k => ok k ∧ k ≠ g) v xs := by
 obtain ⟨hb, hg⟩ := h
 exact Kd.Q_types ho hb ht
theorem IsS57.own_neQ {w0 W : World} {g : Nat} {f0 : Value} {f1 : Int} {α : Type} {d : Kd α} {e : Nat} {base : Nat} {ok : Nat → Prop} {v : Value} {xs : List α} (h : IsS57 w0 W g f0 f1) (ho : d.Q e W base ok v xs) (ht : e ≠ 57) : some g ≠ v.ownBlock := by
 obtain ⟨hb, hg⟩ := h
 exact Kd.Q_ne ho hb ht
theorem IsS57.apartS {w0 W : World} {g : Nat} {f0 : Value} {f1 : Int} {α : Type} {d : Kd α} {e : Nat} {base : Nat} {ok : Nat → Prop} {v : Value} {xs : List α} (h : IsS57 w0 W g f0 f1) (ho : d.S e W base ok v xs) (ht : ∀ q, q ∈ e :: d.E → q ≠ 57) : d.S e W base (fun k => ok k ∧ k ≠ g) v xs := by
 obtain ⟨hb, hg⟩ := h
 exact Kd.S_types ho hb ht
theorem IsS57.own_neS {w0 W : World} {g : Nat} {f0 : Value} {f1 : Int} {α : Type} {d : Kd α} {e : Nat} {base : Nat} {ok : Nat → Prop} {v : Value} {xs : List α} (h : IsS57 w0 W g f0 f1) (ho : d.S e W base ok v xs) (ht : e ≠ 57) : some g ≠ v.ownBlock := by
 obtain ⟨hb, hg⟩ := h
 exact Kd.S_ne ho hb ht
theorem IsS57.lt {w0 W : World} {g : Nat} {f0 : Value} {f1 : Int} (h : IsS57 w0 W g f0 f1) : g < W.heap.size := by
 obtain ⟨hb, hg⟩ := h
 exact blk_lt hb
theorem IsS57.ge {w0 W : World} {g : Nat} {f0 : Value} {f1 : Int} (h : IsS57 w0 W g f0 f1) : w0.heap.size ≤ g := by
 obtain ⟨hb, hg⟩ := h
 exact hg
theorem IsS57.lower {w0 W : World} {g : Nat} {f0 : Value} {f1 : Int} {w1 : World} (h : IsS57 w0 W g f0 f1) (hl : w1.heap.size ≤ w0.heap.size) : IsS57 w1 W g f0 f1 := ⟨h.1, Nat.le_trans hl h.2⟩
theorem IsS57.ne_blk {w0 W : World} {g : Nat} {f0 : Value} {f1 : Int} {a : Nat} {cs : Array Value} {t : TypeId} {fr : Nat × Nat} (h : IsS57 w0 W g f0 f1) (hb2 : W.heap[a]? = some (.cells cs t fr)) (ht : t ≠ 57) : g ≠ a := by
 obtain ⟨hb, hg⟩ := h
 rintro rfl
 rw [hb] at hb2
 injection hb2 with hb2
 injection hb2 with _ ht2
 exact ht ht2.symm
theorem IsS57.far {w0 W : World} {g : Nat} {f0 : Value} {f1 : Int} {p : Addr} (h : IsS57 w0 W g f0 f1) (hne : g ≠ p.block) (u : Value) : IsS57 w0 (W.setCell p u) g f0 f1 := by
 obtain ⟨hb, hg⟩ := h
 exact ⟨blk_far hb hne u, hg⟩
theorem cellS57_0 {W : World} {g : Nat} {f0 : Value} {f1 : Int} (h : W.heap[g]? = some (.cells #[f0, .int .i64 f1] 57 (0, 0))) : W.cell? ⟨g, 0, none⟩ = some (f0) := (blk_cell h 0).trans rfl
theorem IsS57.set_0 {w0 W : World} {g : Nat} {f0 : Value} {f1 : Int} (h : IsS57 w0 W g f0 f1) (x : Value) : IsS57 w0 (W.setCell ⟨g, 0, none⟩ (x)) g x f1 := by
 obtain ⟨hb, hg⟩ := h
 exact ⟨by simpa using blk_set hb 0 (x), hg⟩
theorem cellS57_1 {W : World} {g : Nat} {f0 : Value} {f1 : Int} (h : W.heap[g]? = some (.cells #[f0, .int .i64 f1] 57 (0, 0))) : W.cell? ⟨g, 1, none⟩ = some (.int .i64 f1) := (blk_cell h 1).trans rfl
theorem IsS57.set_1 {w0 W : World} {g : Nat} {f0 : Value} {f1 : Int} (h : IsS57 w0 W g f0 f1) (x : Int) : IsS57 w0 (W.setCell ⟨g, 1, none⟩ (.int .i64 x)) g f0 x := by
 obtain ⟨hb, hg⟩ := h
 exact ⟨by simpa using blk_set hb 1 (.int .i64 x), hg⟩
theorem IsS57.new (w0 W : World) (f0 : Value) (f1 : Int) (hB : Below w0.heap.size w0 W) : IsS57 w0 (W.alloc (.cells #[f0, .int .i64 f1] 57)) W.heap.size f0 f1 := ⟨by simpa using heap_alloc_new W _, hB.size⟩

/-! ### gangwayref9_NewMem: function 23 -/
def gangwayref9_NewMem.f (a0_0 : Int) (a0_1 : Int) (a1 : Int) : Option (Bool × List Int × Int) := if a0_0 > a1 then (some (false, ([] : List Int), 0)) else (if a0_1 ≥ 0 then (if 0 ≤ (wrap64 (a0_0 * 65536)) then (if (wrap64 (a0_0 * 65536) : Int).toNat ≤ 281474976710656 then (some (true, (List.replicate (wrap64 (a0_0 * 65536) : Int).toNat 0), mn a1 a0_1)) else (none)) else (none)) else (if 0 ≤ (wrap64 (a0_0 * 65536)) then (if (wrap64 (a0_0 * 65536) : Int).toNat ≤ 281474976710656 then (some (true, (List.replicate (wrap64 (a0_0 * 65536) : Int).toNat 0), a1)) else (none)) else (none)))
theorem gangwayref9_NewMem.aa_0 {p : Prop} (h : p := by repeat (first | (with_reducible first | exact HB.out | apply below_alloc | apply pw_below_drewN | apply below_drew1 | refine below_set ?_ GE109.out) | exact HB.out)) : p := h
theorem gangwayref9_NewMem.aa_1 {p : Prop} (h : p := by repeat (first | (with_reducible first | exact HB.out | apply below_alloc | apply pw_below_drewN | apply below_drew1) | exact HB.out)) : p := h
theorem gangwayref9_NewMem.aa_2 {p : Prop} (h : p := by (with_reducible repeat (first | refine blk_drewN ?_ _ | refine blk_drew ?_ | refine blk_alloc ?_ _)); exact BK109.out) : p := h
theorem gangwayref9_NewMem.am_ {p : Prop} (h : p) : Aside0 p := Aside0.mk h
theorem gangwayref9_NewMem.bm_ {α β : Type _} {o : Option α} {f : α → Option β} {b : β} (h : o.bind f = some b) : ∃ a, o = some a ∧ f a = some b := Option.bind_eq_some_iff.mp h
set_option maxHeartbeats 8000000 in
set_option maxRecDepth 100000 in
theorem gangwayref9_NewMem.calls (a0_0 : Int) (a0_1 : Int) (a1 : Int) (r1 : Bool) (r2 : List Int) (r3 : Int) (w : World) (h : gangwayref9_NewMem.f a0_0 a0_1 a1 = some (r1, r2, r3)) :
  Calls Try.prog 23 #[.agg #[.int .i64 a0_0, .int .i64 a0_1], .int .i64 a1] w fun e w' => ∃ v1_ : Value, ∃ p0_ : Value, e = .returned (p0_) ∧ Kd.R (Kd.int .u8) 5 w' w.heap.size (fun _ => True) v1_ r2 ∧ ((r1 = true → ∃ g_ : Nat, p0_ = .pointer (some ⟨g_, 0, none⟩) ∧ IsS57 w w' g_ v1_ r3) ∧ (r1 = false → p0_ = .pointer none)) ∧ Below w.heap.size w w' := by
 have hu61 := Try.underlying61
 have hu57 := Try.underlying57
 have HB := am_ (Below.refl w.heap.size w)
 have H : (if a0_0 > a1 then (some (false, ([] : List Int), 0)) else (if a0_1 ≥ 0 then (if 0 ≤ (wrap64 (a0_0 * 65536)) then (if (wrap64 (a0_0 * 65536) : Int).toNat ≤ 281474976710656 then (some (true, (List.replicate (wrap64 (a0_0 * 65536) : Int).toNat 0), mn a1 a0_1)) else (none)) else (none)) else (if 0 ≤ (wrap64 (a0_0 * 65536)) then (if (wrap64 (a0_0 * 65536) : Int).toNat ≤ 281474976710656 then (some (true, (List.replicate (wrap64 (a0_0 * 65536) : Int).toNat 0), a1)) else (none)) else (none)))) = some (r1, r2, r3) := h
 clear h
 by_cases c3 : a0_0 > a1
 ·rw [if_pos c3] at H
  have c3b0 : decide (a1 < a0_0) = true := decide_eq_true c3
  clear c3
  simp only [Option.some.injEq, Prod.mk.injEq] at H
  obtain ⟨rfl, rfl, rfl⟩ := H
  go_enter Try.func23, Try.ntmps23
  go_wp2_with (first | ((with_reducible refine gate_dst (N := 2) rfl ?_); refine box_event ?hg (N := 2) ?hd (cs := #[.int .i64 a0_0, .int .i64 a0_1]) (t := 61) ?hr ?_; (case hd => rfl); (case hg => rfl); (case hr => first | (go_simp; done) | (go_simp; rfl)); intro gb109 hg w4 hbox hb; have n0_ := am_ (below_step aa_1 hb); have n1_ := am_ (hbox); have n2_ := am_ ((by rw [hg]; exact (below_size aa_1) : w.heap.size ≤ gb109)); have n3_ := am_ ((by rw [hg]; exact (below_size aa_1) : w.heap.size ≤ gb109)); clear HB; have HB := n0_; have BK109 := n1_; have GW109 := n2_; have GE109 := n3_; clear n0_ n1_ n2_ n3_; clear hb hbox hg; have hcz5_0 : w4.cell? ⟨gb109, 0, none⟩ = some (.int .i64 a0_0) := (bc BK109 0); have hcz5_1 : w4.cell? ⟨gb109, 1, none⟩ = some (.int .i64 a0_1) := (bc BK109 1); have hfz5_0 := blk_frozen BK109.out 0; have hfz5_1 := blk_frozen BK109.out 1))
  go_ret
  exact ⟨_, (.pointer none), by first | rfl | (simp [errW_none, errW_some] <;> rfl) | (simp [*, errW_none, errW_some] <;> rfl), by first | exact Kd.R_nil _ _ _ _ _ | exact Kd.N_nil _ _ _ _ _ | exact Kd.V_nil _ _ _ _ _ | exact Kd.Q_nil _ _ _ _ _ | exact Kd.S_nil _ _ _ _ _, by first | exact ⟨fun h_ => absurd h_ (by decide), fun _ => rfl⟩ | rfl | exact ⟨trivial, rfl⟩, by repeat (first | (with_reducible first | exact HB.out | apply below_alloc | apply pw_below_drewN | apply below_drew1 | refine below_set ?_ GE109.out) | exact HB.out)⟩
 ·rw [if_neg c3] at H
  have c3b0 : decide (a1 < a0_0) = false := decide_eq_false c3
  clear c3
  by_cases c6 : a0_1 ≥ 0
  ·rw [if_pos c6] at H
   have c6b0 : decide (0 ≤ a0_1) = true := decide_eq_true c6
   clear c6
   obtain ⟨ji7, hji7⟩ : ∃ j_ : Int, (mn a1 a0_1) = j_ := ⟨_, rfl⟩
   replace H : (if 0 ≤ (wrap64 (a0_0 * 65536)) then (if (wrap64 (a0_0 * 65536) : Int).toNat ≤ 281474976710656 then (some (true, (List.replicate (wrap64 (a0_0 * 65536) : Int).toNat 0), ji7)) else (none)) else (none)) = some (r1, r2, r3) := by first | (rw [hji7] at H; exact H) | (simp only [hji7] at H ⊢; exact H)
   have hji7_ : (if a0_1 < a1 then a0_1 else a1) = ji7 := hji7
   obtain ⟨ji8, hji8⟩ : ∃ j_ : Int, (wrap64 (a0_0 * 65536)) = j_ := ⟨_, rfl⟩
   replace H : (if 0 ≤ (ji8) then (if (ji8 : Int).toNat ≤ 281474976710656 then (some (true, (List.replicate (ji8 : Int).toNat 0), ji7)) else (none)) else (none)) = some (r1, r2, r3) := by first | (rw [hji8] at H; exact H) | (simp only [hji8] at H ⊢; exact H)
   have hji8w : (IntKind.i64.wrap (a0_0 * 65536)) = ji8 := (i64_w _).trans hji8
   by_cases c9 : 0 ≤ (ji8)
   ·rw [if_pos c9] at H
    have c9b0 := eq_true c9
    have c9b1 : decide (0 ≤ (ji8)) = true := decide_eq_true c9
    clear c9
    by_cases c10 : (ji8 : Int).toNat ≤ 281474976710656
    ·rw [if_pos c10] at H
     have c10b0 := eq_true c10
     have c10b1 : decide ((ji8 : Int).toNat ≤ 281474976710656) = true := decide_eq_true c10
     clear c10
     obtain ⟨y110, hy110⟩ : ∃ y_ : List Int, y_ = (List.replicate (ji8 : Int).toNat 0) := ⟨_, rfl⟩
     replace H : (some (true, y110, ji7)) = some (r1, r2, r3) := by first | (rw [hy110]; with_reducible exact H) | (have H2_ := (Option.bind_some _ _).symm.trans H; rw [hy110]; with_reducible exact H2_) | (have H2_ := (Option.bind_some _ _).symm.trans H; with_reducible exact H2_) | with_reducible exact H | (rw [hy110]; exact H) | exact H
     have Ny110 := am_ hy110
     clear hy110
     simp only [Option.some.injEq, Prod.mk.injEq] at H
     obtain ⟨rfl, rfl, rfl⟩ := H
     go_enter Try.func23, Try.ntmps23
     go_wp2_with (first | ((with_reducible refine gate_dst (N := 2) rfl ?_); refine box_event ?hg (N := 2) ?hd (cs := #[.int .i64 a0_0, .int .i64 a0_1]) (t := 61) ?hr ?_; (case hd => rfl); (case hg => rfl); (case hr => first | (go_simp; done) | (go_simp; rfl)); intro gb109 hg w11 hbox hb; have n0_ := am_ (below_step aa_1 hb); have n1_ := am_ (hbox); have n2_ := am_ ((by rw [hg]; exact (below_size aa_1) : w.heap.size ≤ gb109)); have n3_ := am_ ((by rw [hg]; exact (below_size aa_1) : w.heap.size ≤ gb109)); clear HB; have HB := n0_; have BK109 := n1_; have GW109 := n2_; have GE109 := n3_; clear n0_ n1_ n2_ n3_; clear hb hbox hg; have hcz12_0 : w11.cell? ⟨gb109, 0, none⟩ = some (.int .i64 a0_0) := (bc BK109 0); have hcz12_1 : w11.cell? ⟨gb109, 1, none⟩ = some (.int .i64 a0_1) := (bc BK109 1); have hfz12_0 := blk_frozen BK109.out 0; have hfz12_1 := blk_frozen BK109.out 1) | ((with_reducible refine gate_dst (N := 19) rfl ?_); refine Kd.R_make (Kd.int .u8) _ 5 rfl (N := 19) rfl 23 _ _ rfl ji8 rfl rfl Try.underlying23 (.int .u8 0) 1 info5 rfl (by decide) (by omega) 0 (ok := fun _ => True) (okp := fun _ => True) rfl (fun _ hk => hk) trivial (of_decide_eq_true (by first | (with_reducible assumption) | assumption)) (Nat.le_trans (Nat.mul_le_mul_right _ (of_decide_eq_true (by first | (with_reducible assumption) | assumption) : ji8.toNat ≤ 281474976710656)) (by omega)) (Below.refl _ _) (Nat.le_refl _) ?_; intro v111 w13 ho14 hb hg_ hnew_; clear hg_ hnew_; (first | rw [← Ny110.out] at ho14 | (simp only [Int.reduceToNat] at ho14; rw [← Ny110.out] at ho14)); have n0_ := am_ (Kd.R_lower ho14 (below_size aa_0)); have n1_ := am_ (bbelow BK109 aa_2 hb); have n2_ := am_ (below_step aa_0 hb); clear BK109; clear HB; have HO112 := n0_; have BK109 := n1_; have HB := n2_; clear n0_ n1_ n2_; clear hb ho14; obtain ⟨Ao15, co15, eo15⟩ := Kd.R_slice HO112.out; subst eo15) | ((with_reducible refine gate_dst (N := 22) rfl ?_); refine box_event ?hg (N := 22) ?hd (cs := #[.slice Ao15 y110.length co15, .int .i64 ji7]) (t := 57) ?hr ?_; (case hd => rfl); (case hg => rfl); (case hr => first | (go_simp; done) | (go_simp; rfl)); intro g113 hg w16 hbox hb; have n0_ := am_ (Kd.R_below (by (with_reducible repeat (first | apply Kd.R_alloc | apply Kd.R_drewN | apply Kd.R_drew)); exact HO112.out) hb); have n1_ := am_ (bbelow BK109 aa_2 hb); have n2_ := am_ ((by rw [hg]; exact Nat.ne_of_lt (blk_lt (g := gb109) (o := .cells #[.int .i64 a0_0, .int .i64 a0_1] 61 (0, 0)) aa_2) : gb109 ≠ g113)); have n3_ := am_ ((by rw [hg]; exact Nat.ne_of_gt (blk_lt (g := gb109) (o := .cells #[.int .i64 a0_0, .int .i64 a0_1] 61 (0, 0)) aa_2) : g113 ≠ gb109)); have n4_ := am_ (below_step aa_0 hb); have n5_ := am_ ((show IsS57 w w16 g113 (.slice Ao15 y110.length co15) ji7 from ⟨hbox, (by rw [hg]; exact (below_size aa_0))⟩)); clear HO112; clear BK109; clear HB; have HO112 := n0_; have BK109 := n1_; have NB109_113 := n2_; have NB113_109 := n3_; have HB := n4_; have HI113 := n5_; clear n0_ n1_ n2_ n3_ n4_ n5_; clear hb hbox hg))
     go_ret
     exact ⟨_, (.pointer (some ⟨g113, 0, none⟩)), by first | rfl | (simp [errW_none, errW_some] <;> rfl) | (simp only [← hji7, ← hji8]; first | rfl | (simp [errW_none, errW_some] <;> rfl)) | (simp [*, errW_none, errW_some] <;> rfl), by (with_reducible repeat (first | apply Kd.R_alloc | apply Kd.R_drewN | apply Kd.R_drew)); exact HO112.out, by first | exact ⟨fun _ => ⟨_, rfl, by repeat (first | (with_reducible first | exact HI113.out | apply IsS57.alloc | apply IsS57.drewN | apply IsS57.drew | apply IsS57.set_0 | apply IsS57.set_1 | refine IsS57.far ?_ NB113_109.out _) | exact HI113.out)⟩, fun h_ => absurd h_ (by decide)⟩ | exact ⟨_, rfl, by repeat (first | (with_reducible first | exact HI113.out | apply IsS57.alloc | apply IsS57.drewN | apply IsS57.drew | apply IsS57.set_0 | apply IsS57.set_1 | refine IsS57.far ?_ NB113_109.out _) | exact HI113.out)⟩, by repeat (first | (with_reducible first | exact HB.out | apply below_alloc | apply pw_below_drewN | apply below_drew1 | refine below_set ?_ (IsS57.ge HI113.out) | refine below_set ?_ GE109.out) | exact HB.out)⟩
    ·rw [if_neg c10] at H
     exact absurd H (by simp)
   ·rw [if_neg c9] at H
    exact absurd H (by simp)
  ·rw [if_neg c6] at H
   have c6b0 : decide (0 ≤ a0_1) = false := decide_eq_false c6
   clear c6
   obtain ⟨ji17, hji17⟩ : ∃ j_ : Int, (wrap64 (a0_0 * 65536)) = j_ := ⟨_, rfl⟩
   replace H : (if 0 ≤ (ji17) then (if (ji17 : Int).toNat ≤ 281474976710656 then (some (true, (List.replicate (ji17 : Int).toNat 0), a1)) else (none)) else (none)) = some (r1, r2, r3) := by first | (rw [hji17] at H; exact H) | (simp only [hji17] at H ⊢; exact H)
   (try rw [hji17] at hji8)
   (try rw [hji17] at hji8w)
   (try rw [hji17] at hji8_)
   (try rw [hji17] at hji8z)
   have hji17w : (IntKind.i64.wrap (a0_0 * 65536)) = ji17 := (i64_w _).trans hji17
   by_cases c18 : 0 ≤ (ji17)
   ·rw [if_pos c18] at H
    have c18b0 := eq_true c18
    have c18b1 : decide (0 ≤ (ji17)) = true := decide_eq_true c18
    clear c18
    by_cases c19 : (ji17 : Int).toNat ≤ 281474976710656
    ·rw [if_pos c19] at H
     have c19b0 := eq_true c19
     have c19b1 : decide ((ji17 : Int).toNat ≤ 281474976710656) = true := decide_eq_true c19
     clear c19
     obtain ⟨y114, hy114⟩ : ∃ y_ : List Int, y_ = (List.replicate (ji17 : Int).toNat 0) := ⟨_, rfl⟩
     replace H : (some (true, y114, a1)) = some (r1, r2, r3) := by first | (rw [hy114]; with_reducible exact H) | (have H2_ := (Option.bind_some _ _).symm.trans H; rw [hy114]; with_reducible exact H2_) | (have H2_ := (Option.bind_some _ _).symm.trans H; with_reducible exact H2_) | with_reducible exact H | (rw [hy114]; exact H) | exact H
     have Ny114 := am_ hy114
     clear hy114
     simp only [Option.some.injEq, Prod.mk.injEq] at H
     obtain ⟨rfl, rfl, rfl⟩ := H
     go_enter Try.func23, Try.ntmps23
     go_wp2_with (first | ((with_reducible refine gate_dst (N := 2) rfl ?_); refine box_event ?hg (N := 2) ?hd (cs := #[.int .i64 a0_0, .int .i64 a0_1]) (t := 61) ?hr ?_; (case hd => rfl); (case hg => rfl); (case hr => first | (go_simp; done) | (go_simp; rfl)); intro gb109 hg w20 hbox hb; have n0_ := am_ (below_step aa_1 hb); have n1_ := am_ (hbox); have n2_ := am_ ((by rw [hg]; exact (below_size aa_1) : w.heap.size ≤ gb109)); have n3_ := am_ ((by rw [hg]; exact (below_size aa_1) : w.heap.size ≤ gb109)); clear HB; have HB := n0_; have BK109 := n1_; have GW109 := n2_; have GE109 := n3_; clear n0_ n1_ n2_ n3_; clear hb hbox hg; have hcz21_0 : w20.cell? ⟨gb109, 0, none⟩ = some (.int .i64 a0_0) := (bc BK109 0); have hcz21_1 : w20.cell? ⟨gb109, 1, none⟩ = some (.int .i64 a0_1) := (bc BK109 1); have hfz21_0 := blk_frozen BK109.out 0; have hfz21_1 := blk_frozen BK109.out 1) | ((with_reducible refine gate_dst (N := 19) rfl ?_); refine Kd.R_make (Kd.int .u8) _ 5 rfl (N := 19) rfl 23 _ _ rfl ji17 rfl rfl Try.underlying23 (.int .u8 0) 1 info5 rfl (by decide) (by omega) 0 (ok := fun _ => True) (okp := fun _ => True) rfl (fun _ hk => hk) trivial (of_decide_eq_true (by first | (with_reducible assumption) | assumption)) (Nat.le_trans (Nat.mul_le_mul_right _ (of_decide_eq_true (by first | (with_reducible assumption) | assumption) : ji17.toNat ≤ 281474976710656)) (by omega)) (Below.refl _ _) (Nat.le_refl _) ?_; intro v115 w22 ho23 hb hg_ hnew_; clear hg_ hnew_; (first | rw [← Ny114.out] at ho23 | (simp only [Int.reduceToNat] at ho23; rw [← Ny114.out] at ho23)); have n0_ := am_ (Kd.R_lower ho23 (below_size aa_0)); have n1_ := am_ (bbelow BK109 aa_2 hb); have n2_ := am_ (below_step aa_0 hb); clear BK109; clear HB; have HO116 := n0_; have BK109 := n1_; have HB := n2_; clear n0_ n1_ n2_; clear hb ho23; obtain ⟨Ao24, co24, eo24⟩ := Kd.R_slice HO116.out; subst eo24) | ((with_reducible refine gate_dst (N := 22) rfl ?_); refine box_event ?hg (N := 22) ?hd (cs := #[.slice Ao24 y114.length co24, .int .i64 a1]) (t := 57) ?hr ?_; (case hd => rfl); (case hg => rfl); (case hr => first | (go_simp; done) | (go_simp; rfl)); intro g117 hg w25 hbox hb; have n0_ := am_ (Kd.R_below (by (with_reducible repeat (first | apply Kd.R_alloc | apply Kd.R_drewN | apply Kd.R_drew)); exact HO116.out) hb); have n1_ := am_ (bbelow BK109 aa_2 hb); have n2_ := am_ ((by rw [hg]; exact Nat.ne_of_lt (blk_lt (g := gb109) (o := .cells #[.int .i64 a0_0, .int .i64 a0_1] 61 (0, 0)) aa_2) : gb109 ≠ g117)); have n3_ := am_ ((by rw [hg]; exact Nat.ne_of_gt (blk_lt (g := gb109) (o := .cells #[.int .i64 a0_0, .int .i64 a0_1] 61 (0, 0)) aa_2) : g117 ≠ gb109)); have n4_ := am_ (below_step aa_0 hb); have n5_ := am_ ((show IsS57 w w25 g117 (.slice Ao24 y114.length co24) a1 from ⟨hbox, (by rw [hg]; exact (below_size aa_0))⟩)); clear HO116; clear BK109; clear HB; have HO116 := n0_; have BK109 := n1_; have NB109_117 := n2_; have NB117_109 := n3_; have HB := n4_; have HI117 := n5_; clear n0_ n1_ n2_ n3_ n4_ n5_; clear hb hbox hg))
     go_ret
     exact ⟨_, (.pointer (some ⟨g117, 0, none⟩)), by first | rfl | (simp [errW_none, errW_some] <;> rfl) | (simp only [← hji17]; first | rfl | (simp [errW_none, errW_some] <;> rfl)) | (simp [*, errW_none, errW_some] <;> rfl), by (with_reducible repeat (first | apply Kd.R_alloc | apply Kd.R_drewN | apply Kd.R_drew)); exact HO116.out, by first | exact ⟨fun _ => ⟨_, rfl, by repeat (first | (with_reducible first | exact HI117.out | apply IsS57.alloc | apply IsS57.drewN | apply IsS57.drew | apply IsS57.set_0 | apply IsS57.set_1 | refine IsS57.far ?_ NB117_109.out _) | exact HI117.out)⟩, fun h_ => absurd h_ (by decide)⟩ | exact ⟨_, rfl, by repeat (first | (with_reducible first | exact HI117.out | apply IsS57.alloc | apply IsS57.drewN | apply IsS57.drew | apply IsS57.set_0 | apply IsS57.set_1 | refine IsS57.far ?_ NB117_109.out _) | exact HI117.out)⟩, by repeat (first | (with_reducible first | exact HB.out | apply below_alloc | apply pw_below_drewN | apply below_drew1 | refine below_set ?_ (IsS57.ge HI117.out) | refine below_set ?_ GE109.out) | exact HB.out)⟩
    ·rw [if_neg c19] at H
     exact absurd H (by simp)
   ·rw [if_neg c18] at H
    exact absurd H (by simp)

end Go.Proofs.Ytdoaininjfbemaa.PAll
