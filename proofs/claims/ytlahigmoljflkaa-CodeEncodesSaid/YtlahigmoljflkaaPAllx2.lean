import Derived.Test.YtlahigmoljflkaaPAllx0
namespace Go.Proofs.Ytlahigmoljflkaa.PAll
open Go.RowKit Go.Proofs.YtlahigmoljflkaaW.PrintWords Go.Proofs.YtlahigmoljflkaaW.PrintLast Go.Proofs.YtlahigmoljflkaaW.PrintMore
attribute [local go_sem] max2_int min2_int max_two min_two max_three min_three max_four min_four   -- for this text's walks alone
set_option linter.unusedVariables false
set_option linter.unusedSimpArgs false

theorem leb_place_groups.m_ {p q : Prop} (h : p) (k : q) : Aside0 p ∧ q := ⟨Aside0.mk h, k⟩
abbrev leb_place_groups.t : Bool := true
theorem leb_place_groups.bc {w : World} {g : Nat} {cs : Array Value} {t : TypeId} (h : Aside0 (w.heap[g]? = some (.cells cs t (0, 0)))) (i : Nat) {v : Value} (e : cs[i]? = some v := by rfl) : w.cell? ⟨g, i, none⟩ = some v := (blk_cell h.out i).trans e
theorem leb_place_groups.e1 {α : Type _} (xs : List α) (i : Nat) (a : α) : xs.toArray.setIfInBounds i a = (xs.set i a).toArray := by simp
theorem leb_place_groups.e2 {α : Type _} (x a : α) (xs : List α) : (x :: xs).set 0 a = a :: xs := rfl
theorem leb_place_groups.e3 {α : Type _} (x a : α) (xs : List α) (n : Nat) : (x :: xs).set (n + 1) a = x :: xs.set n a := rfl
theorem leb_place_groups.up {w w' : World} {a : Addr} {v : Value} (hb : Aside0 (Below w.heap.size w w')) (h : w.cell? a = some v) : w'.cell? a = some v := (hb.out.cell (World.block_lt_of_cell? w _ h)).trans h
mutual
def leb_place_groups.j0 : Nat → Int → Int → Bool → List Int → Int → Option (Int × Int × Int)
 | 0, _, _, _, _, _ => none
 | k + 1, x2, x3, x13, x0z, x1z => if x13 = true then (some (0, 0, 100)) else (leb_place_groups.l0 k x2 x3 x0z x1z)
def leb_place_groups.l0 : Nat → Int → Int → List Int → Int → Option (Int × Int × Int)
 | 0, _, _, _, _ => none
 | k + 1, x2, x3, x0z, x1z => if x3 < (x0z.length : Int) then (leb_place_groups.j2 k x2 x3 (decide (x3 < (wrap64 (Int.tdiv (wrap64 (x1z + 6)) 7)))) x0z x1z) else (leb_place_groups.j2 k x2 x3 false x0z x1z)
def leb_place_groups.j2 : Nat → Int → Int → Bool → List Int → Int → Option (Int × Int × Int)
 | 0, _, _, _, _, _ => none
 | k + 1, x2, x3, x26, x0z, x1z => if x26 = true then (if 0 ≤ x3 then (if x3 < (x0z.length : Int) then (if (wrap64 (7 * x3)) < 64 then (if 0 ≤ (wrap64 (7 * x3)) then (if (rd x0z x3) < 128 then (some (Go.bits .or .u64 x2 (shl .u64 (IntKind.u64.wrap (Go.bits .and .u8 (rd x0z x3) 127)) (wrap64 (7 * x3))), wrap64 (x3 + 1), 0)) else (leb_place_groups.l0 k (Go.bits .or .u64 x2 (shl .u64 (IntKind.u64.wrap (Go.bits .and .u8 (rd x0z x3) 127)) (wrap64 (7 * x3)))) (wrap64 (x3 + 1)) x0z x1z)) else (none)) else (if (rd x0z x3) < 128 then (some (x2, wrap64 (x3 + 1), 0)) else (leb_place_groups.l0 k x2 (wrap64 (x3 + 1)) x0z x1z))) else (none)) else (none)) else (some (0, 0, 100))
end
def leb_place_groups.f (k : Nat) (l0_0 : List Int) (a0_1 : Int) : Option (Int × Int × Int) := if a0_1 < 1 then (leb_place_groups.j0 k 0 0 true l0_0 a0_1) else (leb_place_groups.j0 k 0 0 (decide (a0_1 > 64)) l0_0 a0_1)
theorem leb_place_groups.mono_l : ∀ k, (∀ y0 y1 y2 y3 y4, LeO (leb_place_groups.j0 k y0 y1 y2 y3 y4) (leb_place_groups.j0 (k + 1) y0 y1 y2 y3 y4)) ∧ (∀ y0 y1 y2 y3, LeO (leb_place_groups.l0 k y0 y1 y2 y3) (leb_place_groups.l0 (k + 1) y0 y1 y2 y3)) ∧ (∀ y0 y1 y2 y3 y4, LeO (leb_place_groups.j2 k y0 y1 y2 y3 y4) (leb_place_groups.j2 (k + 1) y0 y1 y2 y3 y4))
 | 0 => ⟨fun _ _ _ _ _ r h => by simp [leb_place_groups.j0] at h, fun _ _ _ _ r h => by simp [leb_place_groups.l0] at h, fun _ _ _ _ _ r h => by simp [leb_place_groups.j2] at h⟩
 | k + 1 => by
  obtain ⟨ih0, ih1, ih2⟩ := leb_place_groups.mono_l k; refine ⟨?_, ?_, ?_⟩ <;> (intros; (first | unfold leb_place_groups.j0 | unfold leb_place_groups.l0 | unfold leb_place_groups.j2); repeat' first | (with_reducible apply ih0) | (with_reducible apply ih1) | (with_reducible apply ih2) | (with_reducible exact LeO.refl _) | (with_reducible exact LeO.none _) | (with_reducible refine LeO.ite ?_ ?_) | (with_reducible refine LeO.bind ?_ (fun _ => ?_)) | apply ih0 | apply ih1 | apply ih2 | exact LeO.none _ | refine LeO.ite ?_ ?_ | refine LeO.bind ?_ (fun _ => ?_))
theorem leb_place_groups.mono : ∀ a0 a1 k, LeO (leb_place_groups.f k a0 a1) (leb_place_groups.f (k + 1) a0 a1) := by
 intro a0 a1 k; obtain ⟨ih0, ih1, ih2⟩ := leb_place_groups.mono_l k
 unfold leb_place_groups.f
 repeat' first
   | (with_reducible apply ih0)
   | (with_reducible apply ih1)
   | (with_reducible apply ih2)
   | (with_reducible exact LeO.refl _)
   | (with_reducible exact LeO.none _)
   | (with_reducible refine LeO.ite ?_ ?_)
   | (with_reducible refine LeO.bind ?_ (fun _ => ?_))
   | apply ih0
   | apply ih1
   | apply ih2
   | exact LeO.none _
   | refine LeO.ite ?_ ?_
   | refine LeO.bind ?_ (fun _ => ?_)
theorem leb_place_groups.aa_0 {p : Prop} (h : p := by first | rfl | (simp; done) | (simp [*]; done)) : p := h
theorem leb_place_groups.aa_1 {p : Prop} (h : p := by repeat (first | (with_reducible first | exact HB.out | apply below_alloc | apply pw_below_drewN | apply below_drew1 | refine below_set ?_ GE113.out) | exact HB.out)) : p := h
theorem leb_place_groups.aa_2 {p : Prop} (h : p := by (with_reducible repeat (first | refine blk_drewN ?_ _ | refine blk_drew ?_ | refine blk_alloc ?_ _)); exact BK113.out) : p := h
theorem leb_place_groups.am_ {p : Prop} (h : p) : Aside0 p := Aside0.mk h
set_option maxHeartbeats 8000000 in
set_option maxRecDepth 100000 in
theorem leb_place_groups.calls (k : Nat) (A0_0 : Option Addr) (c0_0 : Nat) (l0_0 : List Int) (a0_1 : Int) (r1 : Int) (r2 : Int) (r3 : Int) (w : World) (hr0_0 : Kd.C (Kd.int .u8) w A0_0 l0_0.length l0_0) (hc0_0 : l0_0.length ≤ c0_0) (h : leb_place_groups.f k l0_0 a0_1 = some (r1, r2, r3)) :
  Calls Try.prog 74 #[.agg #[.slice A0_0 l0_0.length c0_0, .int .i64 a0_1]] w fun e w' => e = .returned (.tuple #[.int .u64 r1, .int .i64 r2, .int .i64 r3]) ∧ Below w.heap.size w w' := by
 have hu97 := Try.underlying97; have HR0_0 := am_ hr0_0; have HC0_0 := am_ hc0_0; clear hr0_0 hc0_0; have HB := am_ (Below.refl w.heap.size w); have H : (if a0_1 < 1 then (j0 k 0 0 true l0_0 a0_1) else (j0 k 0 0 (decide (a0_1 > 64)) l0_0 a0_1)) = some (r1, r2, r3) := h; clear h; have HC2 := am_ H; clear H; go_enter Try.func74, Try.ntmps74
 go_upto_region 1 with (first | ((with_reducible refine gate_dst (N := 1) rfl ?_); refine box_event ?hg (N := 1) ?hd (cs := #[.slice A0_0 l0_0.length c0_0, .int .i64 a0_1]) (t := 97) ?hr ?_; (case hd => rfl); (case hg => rfl); (case hr => first | (go_simp; done) | (go_simp; rfl)); intro gb113 hg w3 hbox hb; have N_ := m_ (below_step (by repeat (first | (with_reducible first | exact HB.out | apply below_alloc | apply pw_below_drewN | apply below_drew1) | exact HB.out)) hb) <| m_ (hbox) <| m_ ((by rw [hg]; exact (below_size (by repeat (first | (with_reducible first | exact HB.out | apply below_alloc | apply pw_below_drewN | apply below_drew1) | exact HB.out))) : w.heap.size ≤ gb113)) <| am_ ((by rw [hg]; exact (below_size (by repeat (first | (with_reducible first | exact HB.out | apply below_alloc | apply pw_below_drewN | apply below_drew1) | exact HB.out))) : w.heap.size ≤ gb113)); clear HB; obtain ⟨HB, BK113, GW113, GE113⟩ := N_; clear hb hbox hg))
 (try simp only [Act.put, e1, e2, e3])
 go_cut [13] (fun v13 wc => ∃ (kq : Nat) (x13_1 : Bool), v13 = .bool x13_1 ∧ Aside0 (j0 kq 0 0 x13_1 l0_0 a0_1 = some (r1, r2, r3)) ∧ Aside0 (kq ≤ k) ∧ Aside0 (wc.heap[gb113]? = some (.cells #[(.slice A0_0 l0_0.length c0_0), .int .i64 a0_1] 97 (0, 0))) ∧ Aside0 (Below w.heap.size w wc))
 case first =>
  have H := HC2.out; clear HC2; by_cases c4 : a0_1 < 1
  ·rw [if_pos c4] at H; have c4b0 : decide (a0_1 < 1) = true := decide_eq_true c4; clear c4; (first | rw [c4b0] | (simp only [i64_w, i32_w]; rw [c4b0]) | skip); have H' := am_ H; clear H; have Z5_0 : w3.cell? ⟨gb113, 0, none⟩ = some (.slice A0_0 l0_0.length c0_0) := bc BK113 0; have Z5_1 : w3.cell? ⟨gb113, 1, none⟩ = some (.int .i64 a0_1) := bc BK113 1; have Y5_0 := blk_frozen BK113.out 0; have Y5_1 := blk_frozen BK113.out 1; go_wp2; go_meet
   case rel => exact ⟨_, (true), aa_0, H', ⟨by first | omega | exact Nat.le_refl _⟩, ⟨aa_2⟩, ⟨aa_1⟩⟩
  rw [if_neg c4] at H; have c4b0 : decide (a0_1 < 1) = false := decide_eq_false c4; clear c4; (first | rw [c4b0] | (simp only [i64_w, i32_w]; rw [c4b0]) | skip); have H' := am_ H; clear H; have Z6_0 : w3.cell? ⟨gb113, 0, none⟩ = some (.slice A0_0 l0_0.length c0_0) := bc BK113 0; have Z6_1 : w3.cell? ⟨gb113, 1, none⟩ = some (.int .i64 a0_1) := bc BK113 1; have Y6_0 := blk_frozen BK113.out 0; have Y6_1 := blk_frozen BK113.out 1; go_wp2; go_meet
  case rel => exact ⟨_, (decide (a0_1 > 64)), aa_0, H', ⟨by first | omega | exact Nat.le_refl _⟩, ⟨aa_2⟩, ⟨aa_1⟩⟩
 case rest =>
 clear HC2; obtain ⟨kq, x13_1, rfl, HA, HJ1, BK113, HB⟩ := hcut
 cases kq with
 | zero => exact absurd HA.out (by simp [j0])
 | succ kj1 =>
 have H := HA.out; clear HA; simp only [j0] at H; by_cases c7 : x13_1 = true
 ·subst c7; have H1 : (some (0, 0, 100)) = some (r1, r2, r3) := by rw [if_pos rfl] at H; exact H
  clear H; have H := H1; clear H1; simp only [Option.some.injEq, Prod.mk.injEq] at H; obtain ⟨rfl, rfl, rfl⟩ := H; go_wp2
  go_ret3
  exact ⟨er_, by repeat (first | (with_reducible first | exact HB.out | apply below_alloc | apply pw_below_drewN | apply below_drew1 | refine below_set ?_ GE113.out) | exact HB.out)⟩
 replace c7 := Bool.eq_false_iff.mpr c7; subst c7; have H1 : (leb_place_groups.l0 kj1 0 0 l0_0 a0_1) = some (r1, r2, r3) := by rw [if_neg (show ¬ (false = true) by decide)] at H; exact H
 clear H; have H := H1; clear H1; have H' := am_ H; clear H; go_wp2
 go_loopg [2, 3] kj1 (fun kq v2 v3 w' => ∃ (x2_2 : Int) (x3_2 : Int), v2 = .int .u64 x2_2 ∧ v3 = .int .i64 x3_2 ∧ Aside0 (leb_place_groups.l0 kq x2_2 x3_2 l0_0 a0_1 = some (r1, r2, r3)) ∧ Aside0 (kq ≤ kj1) ∧ Aside0 (w'.heap[gb113]? = some (.cells #[(.slice A0_0 l0_0.length c0_0), .int .i64 a0_1] 97 (0, 0))) ∧ Aside0 (Below w.heap.size w w'))
 case atStart => exact ⟨(0), (0), aa_0, aa_0, H', ⟨Nat.le_refl _⟩, ⟨aa_2⟩, ⟨aa_1⟩⟩
 case round =>
 clear H'; (try clear c7); obtain ⟨x2_2, x3_2, rfl, rfl, HA, HK2, BK113, HB⟩ := hrel
 cases gk with
 | zero => exact absurd HA.out (by simp [leb_place_groups.l0])
 | succ k2 =>
 have H := HA.out; clear HA; simp only [leb_place_groups.l0] at H; have HC8 := am_ H; clear H
 go_upto_region 3 with (fail)
 go_cut [26] (fun v26 wc => ∃ (kq : Nat) (x26_7 : Bool), v26 = .bool x26_7 ∧ Aside0 (j2 kq x2_2 x3_2 x26_7 l0_0 a0_1 = some (r1, r2, r3)) ∧ Aside0 (kq ≤ k2) ∧ Aside0 (wc.heap[gb113]? = some (.cells #[(.slice A0_0 l0_0.length c0_0), .int .i64 a0_1] 97 (0, 0))) ∧ Aside0 (Below w.heap.size w wc))
 case first =>
  have H := HC8.out; clear HC8; by_cases c9 : x3_2 < (l0_0.length : Int)
  ·rw [if_pos c9] at H; have c9b0 : decide (x3_2 < (l0_0.length : Int)) = true := decide_eq_true c9; clear c9; (first | rw [c9b0] | (simp only [i64_w, i32_w]; rw [c9b0]) | skip); have H' := am_ H; clear H; have Z10_0 : wr.cell? ⟨gb113, 0, none⟩ = some (.slice A0_0 l0_0.length c0_0) := bc BK113 0; have Z10_1 : wr.cell? ⟨gb113, 1, none⟩ = some (.int .i64 a0_1) := bc BK113 1; have Y10_0 := blk_frozen BK113.out 0; have Y10_1 := blk_frozen BK113.out 1; go_wp2; go_meet
   case rel => exact ⟨_, (decide (x3_2 < (wrap64 (Int.tdiv (wrap64 (a0_1 + 6)) 7)))), aa_0, H', ⟨by have := HJ1.out; have := HK2.out; first | omega | exact Nat.le_refl _⟩, ⟨aa_2⟩, ⟨aa_1⟩⟩
  rw [if_neg c9] at H; have c9b0 : decide (x3_2 < (l0_0.length : Int)) = false := decide_eq_false c9; clear c9; (first | rw [c9b0] | (simp only [i64_w, i32_w]; rw [c9b0]) | skip); have H' := am_ H; clear H; have Z11_0 : wr.cell? ⟨gb113, 0, none⟩ = some (.slice A0_0 l0_0.length c0_0) := bc BK113 0; have Z11_1 : wr.cell? ⟨gb113, 1, none⟩ = some (.int .i64 a0_1) := bc BK113 1; have Y11_0 := blk_frozen BK113.out 0; have Y11_1 := blk_frozen BK113.out 1; go_wp2; go_meet
  case rel => exact ⟨_, (false), aa_0, H', ⟨by have := HJ1.out; have := HK2.out; first | omega | exact Nat.le_refl _⟩, ⟨aa_2⟩, ⟨aa_1⟩⟩
 case rest =>
 clear HC8; obtain ⟨kq, x26_7, rfl, HA, HJ7, BK113, HB⟩ := hcut
 cases kq with
 | zero => exact absurd HA.out (by simp [j2])
 | succ kj7 =>
 have H := HA.out; clear HA; simp only [j2] at H; by_cases c12 : x26_7 = true
 rotate_left
 ·replace c12 := Bool.eq_false_iff.mpr c12; subst c12; have H1 : (some (0, 0, 100)) = some (r1, r2, r3) := by rw [if_neg (show ¬ (false = true) by decide)] at H; exact H
  clear H; have H := H1; clear H1; simp only [Option.some.injEq, Prod.mk.injEq] at H; obtain ⟨rfl, rfl, rfl⟩ := H; go_wp2
  go_ret3
  exact ⟨er_, by repeat (first | (with_reducible first | exact HB.out | apply below_alloc | apply pw_below_drewN | apply below_drew1 | refine below_set ?_ GE113.out) | exact HB.out)⟩
 subst c12; have H1 : (if 0 ≤ x3_2 then (if x3_2 < (l0_0.length : Int) then (if (wrap64 (7 * x3_2)) < 64 then (if 0 ≤ (wrap64 (7 * x3_2)) then (if (rd l0_0 x3_2) < 128 then (some (Go.bits .or .u64 x2_2 (shl .u64 (IntKind.u64.wrap (Go.bits .and .u8 (rd l0_0 x3_2) 127)) (wrap64 (7 * x3_2))), wrap64 (x3_2 + 1), 0)) else (leb_place_groups.l0 kj7 (Go.bits .or .u64 x2_2 (shl .u64 (IntKind.u64.wrap (Go.bits .and .u8 (rd l0_0 x3_2) 127)) (wrap64 (7 * x3_2)))) (wrap64 (x3_2 + 1)) l0_0 a0_1)) else (none)) else (if (rd l0_0 x3_2) < 128 then (some (x2_2, wrap64 (x3_2 + 1), 0)) else (leb_place_groups.l0 kj7 x2_2 (wrap64 (x3_2 + 1)) l0_0 a0_1))) else (none)) else (none)) = some (r1, r2, r3) := by rw [if_pos rfl] at H; exact H
 clear H; have H := H1; clear H1; by_cases c13 : 0 ≤ x3_2
 rotate_left
 ·rw [if_neg c13] at H; exact absurd H (by simp)
 rw [if_pos c13] at H; have c13b0 : decide (0 ≤ x3_2) = true := decide_eq_true c13; clear c13; by_cases c14 : x3_2 < (l0_0.length : Int)
 rotate_left
 ·rw [if_neg c14] at H; exact absurd H (by simp)
 rw [if_pos c14] at H; have c14b0 : decide (x3_2 < (l0_0.length : Int)) = true := decide_eq_true c14; clear c14; by_cases c15 : (wrap64 (7 * x3_2)) < 64
 rotate_left
 ·rw [if_neg c15] at H; have c15b0 : decide ((wrap64 (7 * x3_2)) < 64) = false := decide_eq_false c15; clear c15; by_cases c22 : (rd l0_0 x3_2) < 128
  ·rw [if_pos c22] at H; have c22b0 : decide ((rd l0_0 x3_2) < 128) = true := decide_eq_true c22; clear c22; simp only [Option.some.injEq, Prod.mk.injEq] at H; obtain ⟨rfl, rfl, rfl⟩ := H; have Z23_0 : wc.cell? ⟨gb113, 0, none⟩ = some (.slice A0_0 l0_0.length c0_0) := bc BK113 0; have Z23_1 : wc.cell? ⟨gb113, 1, none⟩ = some (.int .i64 a0_1) := bc BK113 1; have Y23_0 := blk_frozen BK113.out 0; have Y23_1 := blk_frozen BK113.out 1; have p114 : 0 ≤ (x3_2 : Int) := of_decide_eq_true (by first | (with_reducible assumption) | assumption); have q114 : x3_2 < (l0_0.length : Int) := of_decide_eq_true (by first | (with_reducible assumption) | assumption); obtain ⟨ad114, e114, hx114_0⟩ := Kd.at_int HR0_0.out x3_2 p114 q114
   cases e114
   replace hx114_0 := up HB hx114_0; replace p114 := eq_true p114; replace q114 := eq_true q114; go_wp2
   go_ret3
   exact ⟨er_, by repeat (first | (with_reducible first | exact HB.out | apply below_alloc | apply pw_below_drewN | apply below_drew1 | refine below_set ?_ GE113.out) | exact HB.out)⟩
  rw [if_neg c22] at H; have c22b0 : decide ((rd l0_0 x3_2) < 128) = false := decide_eq_false c22; clear c22; have H' := am_ H; clear H; have Z24_0 : wc.cell? ⟨gb113, 0, none⟩ = some (.slice A0_0 l0_0.length c0_0) := bc BK113 0; have Z24_1 : wc.cell? ⟨gb113, 1, none⟩ = some (.int .i64 a0_1) := bc BK113 1; have Y24_0 := blk_frozen BK113.out 0; have Y24_1 := blk_frozen BK113.out 1; have p114 : 0 ≤ (x3_2 : Int) := of_decide_eq_true (by first | (with_reducible assumption) | assumption); have q114 : x3_2 < (l0_0.length : Int) := of_decide_eq_true (by first | (with_reducible assumption) | assumption); obtain ⟨ad114, e114, hx114_0⟩ := Kd.at_int HR0_0.out x3_2 p114 q114
  cases e114
  replace hx114_0 := up HB hx114_0; replace p114 := eq_true p114; replace q114 := eq_true q114; go_wp2
  go_roundg kj7
  case measure => have := HJ1.out; have := HK2.out; have := HJ7.out; omega
  case rel => exact ⟨(x2_2), (wrap64 (x3_2 + 1)), aa_0, aa_0, H', ⟨by have := HJ1.out; have := HK2.out; have := HJ7.out; omega⟩, ⟨aa_2⟩, ⟨aa_1⟩⟩
 rw [if_pos c15] at H; have c15b0 : decide ((wrap64 (7 * x3_2)) < 64) = true := decide_eq_true c15; clear c15; obtain ⟨ji16, hji16⟩ : ∃ j_ : Int, (wrap64 (7 * x3_2)) = j_ := ⟨_, rfl⟩
 replace H : (if 0 ≤ (ji16) then (if (rd l0_0 x3_2) < 128 then (some (Go.bits .or .u64 x2_2 (shl .u64 (IntKind.u64.wrap (Go.bits .and .u8 (rd l0_0 x3_2) 127)) (ji16)), wrap64 (x3_2 + 1), 0)) else (leb_place_groups.l0 kj7 (Go.bits .or .u64 x2_2 (shl .u64 (IntKind.u64.wrap (Go.bits .and .u8 (rd l0_0 x3_2) 127)) (ji16))) (wrap64 (x3_2 + 1)) l0_0 a0_1)) else (none)) = some (r1, r2, r3) := by first | (rw [hji16] at H; exact H) | (simp only [hji16] at H ⊢; exact H)
 (try rw [hji16] at c15b0); have hji16w : (IntKind.i64.wrap (7 * x3_2)) = ji16 := (i64_w _).trans hji16; by_cases c17 : 0 ≤ (ji16)
 rotate_left
 ·rw [if_neg c17] at H; exact absurd H (by simp)
 rw [if_pos c17] at H; have c17b0 := eq_true c17; have c17b1 : decide (0 ≤ (ji16)) = true := decide_eq_true c17; clear c17; obtain ⟨ji18, hji18⟩ : ∃ j_ : Int, (shl .u64 (IntKind.u64.wrap (Go.bits .and .u8 (rd l0_0 x3_2) 127)) (ji16)) = j_ := ⟨_, rfl⟩
 replace H : (if (rd l0_0 x3_2) < 128 then (some (Go.bits .or .u64 x2_2 (ji18), wrap64 (x3_2 + 1), 0)) else (leb_place_groups.l0 kj7 (Go.bits .or .u64 x2_2 (ji18)) (wrap64 (x3_2 + 1)) l0_0 a0_1)) = some (r1, r2, r3) := by first | (rw [hji18] at H; exact H) | (simp only [hji18] at H ⊢; exact H)
 have hji18_ : (IntKind.u64.wrap ((IntKind.u64.wrap (Go.bits .and .u8 (rd l0_0 x3_2) 127)) * 2 ^ min (ji16).toNat 64)) = ji18 := hji18; have hji18z : (ji16) ≤ 64 → (IntKind.u64.wrap ((IntKind.u64.wrap (Go.bits .and .u8 (rd l0_0 x3_2) 127)) * 2 ^ (ji16).toNat)) = ji18 := shl_small hji18; by_cases c19 : (rd l0_0 x3_2) < 128
 ·rw [if_pos c19] at H; have c19b0 : decide ((rd l0_0 x3_2) < 128) = true := decide_eq_true c19; clear c19; simp only [Option.some.injEq, Prod.mk.injEq] at H; obtain ⟨rfl, rfl, rfl⟩ := H; have Z20_0 : wc.cell? ⟨gb113, 0, none⟩ = some (.slice A0_0 l0_0.length c0_0) := bc BK113 0; have Z20_1 : wc.cell? ⟨gb113, 1, none⟩ = some (.int .i64 a0_1) := bc BK113 1; have Y20_0 := blk_frozen BK113.out 0; have Y20_1 := blk_frozen BK113.out 1; have p114 : 0 ≤ (x3_2 : Int) := of_decide_eq_true (by first | (with_reducible assumption) | assumption); have q114 : x3_2 < (l0_0.length : Int) := of_decide_eq_true (by first | (with_reducible assumption) | assumption); obtain ⟨ad114, e114, hx114_0⟩ := Kd.at_int HR0_0.out x3_2 p114 q114
  cases e114
  replace hx114_0 := up HB hx114_0; replace p114 := eq_true p114; replace q114 := eq_true q114; go_wp2
  go_ret3
  exact ⟨by first | rfl | (simp [errW_none, errW_some] <;> rfl) | (simp only [← hji16, ← hji18]; first | rfl | (simp [errW_none, errW_some] <;> rfl)) | (simp [*, errW_none, errW_some] <;> rfl), by repeat (first | (with_reducible first | exact HB.out | apply below_alloc | apply pw_below_drewN | apply below_drew1 | refine below_set ?_ GE113.out) | exact HB.out)⟩
 rw [if_neg c19] at H; have c19b0 : decide ((rd l0_0 x3_2) < 128) = false := decide_eq_false c19; clear c19; have H' := am_ H; clear H; have Z21_0 : wc.cell? ⟨gb113, 0, none⟩ = some (.slice A0_0 l0_0.length c0_0) := bc BK113 0; have Z21_1 : wc.cell? ⟨gb113, 1, none⟩ = some (.int .i64 a0_1) := bc BK113 1; have Y21_0 := blk_frozen BK113.out 0; have Y21_1 := blk_frozen BK113.out 1; have p114 : 0 ≤ (x3_2 : Int) := of_decide_eq_true (by first | (with_reducible assumption) | assumption); have q114 : x3_2 < (l0_0.length : Int) := of_decide_eq_true (by first | (with_reducible assumption) | assumption); obtain ⟨ad114, e114, hx114_0⟩ := Kd.at_int HR0_0.out x3_2 p114 q114
 cases e114
 replace hx114_0 := up HB hx114_0; replace p114 := eq_true p114; replace q114 := eq_true q114; go_wp2
 go_roundg kj7
 case measure => have := HJ1.out; have := HK2.out; have := HJ7.out; omega
 case rel => exact ⟨(Go.bits .or .u64 x2_2 (ji18)), (wrap64 (x3_2 + 1)), (by first | rfl | (simp; done) | (simp only [← hji18] <;> (first | rfl | simp)) | (simp [*]; done)), aa_0, H', ⟨by have := HJ1.out; have := HK2.out; have := HJ7.out; omega⟩, ⟨aa_2⟩, ⟨aa_1⟩⟩
def leb_place_over.f (l0_0 : List Int) (a0_1 : Int) (a1 : Int) (a2 : Int) : Option (Bool) := if a1 = 10 then (if 9 < (l0_0.length : Int) then (some ((Go.bits .and .u8 (Go.bits .xor .u8 (rd l0_0 9) a2) 126) != 0)) else (none)) else (some false)
set_option maxHeartbeats 8000000 in
set_option maxRecDepth 100000 in
theorem leb_place_over.calls (A0_0 : Option Addr) (c0_0 : Nat) (l0_0 : List Int) (a0_1 : Int) (a1 : Int) (a2 : Int) (r : Bool) (w : World) (hr0_0 : Kd.C (Kd.int .u8) w A0_0 l0_0.length l0_0) (hc0_0 : l0_0.length ≤ c0_0) (h : leb_place_over.f l0_0 a0_1 a1 a2 = some r) :
    Calls Try.prog 75 #[.agg #[.slice A0_0 l0_0.length c0_0, .int .i64 a0_1], .int .i64 a1, .int .u8 a2] w fun e w' => e = .returned (.bool r) ∧ Below w.heap.size w w' := by
  have hu97 := Try.underlying97
  have HR0_0 := Aside0.mk hr0_0
  have HC0_0 := Aside0.mk hc0_0
  clear hr0_0 hc0_0
  have HB := Aside0.mk (Below.refl w.heap.size w)
  have H : (if a1 = 10 then (if 9 < (l0_0.length : Int) then (some ((Go.bits .and .u8 (Go.bits .xor .u8 (rd l0_0 9) a2) 126) != 0)) else (none)) else (some false)) = some r := h
  clear h
  by_cases c4 : a1 = 10
  · rw [if_pos c4] at H
    have c4b0 : (a1 == 10) = true := beq_iff_eq.mpr c4
    have c4b1 : (a1 != 10) = false := bne_eq_false_iff_eq.mpr c4
    clear c4
    by_cases c5 : 9 < (l0_0.length : Int)
    · rw [if_pos c5] at H
      have c5b0 : decide (9 < (l0_0.length : Int)) = true := decide_eq_true c5
      have c5b1 : decide (9 < l0_0.length) = true := decide_eq_true (by omega)
      clear c5
      obtain rfl := Option.some.inj H
      go_enter Try.func75, Try.ntmps75
      go_wp2_with (first | ((with_reducible refine gate_dst (N := 3) rfl ?_); refine box_event ?hg (N := 3) ?hd (cs := #[.slice A0_0 l0_0.length c0_0, .int .i64 a0_1]) (t := 97) ?hr ?_; (case hd => rfl); (case hg => rfl); (case hr => first | (go_simp; done) | (go_simp; rfl)); intro gb115 hg w6 hbox hb; have n0_ := Aside0.mk (below_step (by repeat (first | (with_reducible first | exact HB.out | apply below_alloc | apply pw_below_drewN | apply below_drew1) | exact HB.out)) hb); have n1_ := Aside0.mk (hbox); have n2_ := Aside0.mk ((by rw [hg]; exact (below_size (by repeat (first | (with_reducible first | exact HB.out | apply below_alloc | apply pw_below_drewN | apply below_drew1) | exact HB.out))) : w.heap.size ≤ gb115)); have n3_ := Aside0.mk ((by rw [hg]; exact (below_size (by repeat (first | (with_reducible first | exact HB.out | apply below_alloc | apply pw_below_drewN | apply below_drew1) | exact HB.out))) : w.heap.size ≤ gb115)); clear HB; have HB := n0_; have BK115 := n1_; have GW115 := n2_; have GE115 := n3_; clear n0_ n1_ n2_ n3_; clear hb hbox hg; have hcz7_0 : w6.cell? ⟨gb115, 0, none⟩ = some (.slice A0_0 l0_0.length c0_0) := (blk_cell BK115.out 0).trans rfl; have hcz7_1 : w6.cell? ⟨gb115, 1, none⟩ = some (.int .i64 a0_1) := (blk_cell BK115.out 1).trans rfl; have hfz7_0 := blk_frozen BK115.out 0; have hfz7_1 := blk_frozen BK115.out 1; have p116 : 0 ≤ (9 : Int) := (by omega); have q116 : 9 < (l0_0.length : Int) := of_decide_eq_true (by first | (with_reducible assumption) | assumption); obtain ⟨ad116, e116, hx116_0⟩ := Kd.at_int HR0_0.out 9 p116 q116; cases e116; (try simp only [show (9 : Int).toNat = 9 from rfl, Nat.reduceMul, Nat.reduceEqDiff, Go.Addr.add, ↓reduceIte] at hx116_0); have qi116 : (9 < l0_0.length) = True := eq_true (by omega); (try rw [show ((9 : Int)).toNat = 9 from rfl] at hx116_0); replace hx116_0 := (HB.out.cell (World.block_lt_of_cell? w _ hx116_0)).trans hx116_0; replace p116 := eq_true p116; replace q116 := eq_true q116))
      go_ret
      exact ⟨by first | rfl | (simp [errW_none, errW_some] <;> rfl) | (simp [*, errW_none, errW_some] <;> rfl), by repeat (first | (with_reducible first | exact HB.out | apply below_alloc | apply pw_below_drewN | apply below_drew1 | refine below_set ?_ GE115.out) | exact HB.out)⟩
    · rw [if_neg c5] at H
      exact absurd H (by simp)
  · rw [if_neg c4] at H
    have c4b0 : (a1 == 10) = false := beq_eq_false_iff_ne.mpr c4
    have c4b1 : (a1 != 10) = true := bne_iff_ne.mpr c4
    obtain rfl := Option.some.inj H
    go_enter Try.func75, Try.ntmps75
    go_wp2_with (first | ((with_reducible refine gate_dst (N := 3) rfl ?_); refine box_event ?hg (N := 3) ?hd (cs := #[.slice A0_0 l0_0.length c0_0, .int .i64 a0_1]) (t := 97) ?hr ?_; (case hd => rfl); (case hg => rfl); (case hr => first | (go_simp; done) | (go_simp; rfl)); intro gb115 hg w8 hbox hb; have n0_ := Aside0.mk (below_step (by repeat (first | (with_reducible first | exact HB.out | apply below_alloc | apply pw_below_drewN | apply below_drew1) | exact HB.out)) hb); have n1_ := Aside0.mk (hbox); have n2_ := Aside0.mk ((by rw [hg]; exact (below_size (by repeat (first | (with_reducible first | exact HB.out | apply below_alloc | apply pw_below_drewN | apply below_drew1) | exact HB.out))) : w.heap.size ≤ gb115)); have n3_ := Aside0.mk ((by rw [hg]; exact (below_size (by repeat (first | (with_reducible first | exact HB.out | apply below_alloc | apply pw_below_drewN | apply below_drew1) | exact HB.out))) : w.heap.size ≤ gb115)); clear HB; have HB := n0_; have BK115 := n1_; have GW115 := n2_; have GE115 := n3_; clear n0_ n1_ n2_ n3_; clear hb hbox hg))
    go_ret
    exact ⟨by first | rfl | (simp [errW_none, errW_some] <;> rfl) | (simp [*, errW_none, errW_some] <;> rfl), by repeat (first | (with_reducible first | exact HB.out | apply below_alloc | apply pw_below_drewN | apply below_drew1 | refine below_set ?_ GE115.out) | exact HB.out)⟩

theorem leb_place_unsigned.eb {α : Type} [BEq α] [LawfulBEq α] {a b : α} (h : a = b) : (a == b) = true ∧ (a != b) = false := ⟨beq_iff_eq.mpr h, bne_eq_false_iff_eq.mpr h⟩
theorem leb_place_unsigned.nb {α : Type} [BEq α] [LawfulBEq α] {a b : α} (h : ¬ a = b) : (a == b) = false ∧ (a != b) = true := ⟨beq_eq_false_iff_ne.mpr h, bne_iff_ne.mpr h⟩
theorem leb_place_unsigned.m_ {p q : Prop} (h : p) (k : q) : Aside0 p ∧ q := ⟨Aside0.mk h, k⟩
abbrev leb_place_unsigned.t : Bool := true
theorem leb_place_unsigned.bc {w : World} {g : Nat} {cs : Array Value} {t : TypeId} (h : Aside0 (w.heap[g]? = some (.cells cs t (0, 0)))) (i : Nat) {v : Value} (e : cs[i]? = some v := by rfl) : w.cell? ⟨g, i, none⟩ = some v := (blk_cell h.out i).trans e
theorem leb_place_unsigned.bbelow {W0 w w1 : World} {g : Nat} {o : Obj} (_b : Aside0 (W0.heap[g]? = some o)) (h : w.heap[g]? = some o) (hb : Below w.heap.size w w1) : w1.heap[g]? = some o := blk_below h hb
def leb_place_unsigned.f (k : Nat) (l0_0 : List Int) (a0_1 : Int) : Option (Int × Int × Int) := (leb_place_groups.f k l0_0 a0_1).bind fun bt118 => (if bt118.2.2 = 0 then ((leb_place_over.f l0_0 a0_1 bt118.2.1 0).bind fun t121 => (if t121 = true then (some (0, 0, 100)) else (if a0_1 < 64 then (if 0 ≤ a0_1 then (if bt118.1 ≥ (shl .u64 1 a0_1) then (some (0, 0, 100)) else (some (bt118.1, bt118.2.1, 0))) else (none)) else (some (bt118.1, bt118.2.1, 0))))) else (some (0, 0, 100)))
theorem leb_place_unsigned.mono : ∀ a0 a1 k, LeO (leb_place_unsigned.f k a0 a1) (leb_place_unsigned.f (k + 1) a0 a1) := by
 intro a0 a1 k
 unfold leb_place_unsigned.f
 repeat' first
   | (with_reducible exact leb_place_groups.mono _ _ _)
   | (with_reducible exact LeO.refl _)
   | (with_reducible exact LeO.none _)
   | (with_reducible refine LeO.ite ?_ ?_)
   | (with_reducible refine LeO.bind ?_ (fun _ => ?_))
   | exact leb_place_groups.mono _ _ _
   | exact LeO.none _
   | refine LeO.ite ?_ ?_
   | refine LeO.bind ?_ (fun _ => ?_)
theorem leb_place_unsigned.aa_0 {p : Prop} (h : p := by repeat (first | (with_reducible first | exact HB.out | apply below_alloc | apply pw_below_drewN | apply below_drew1) | exact HB.out)) : p := h
theorem leb_place_unsigned.aa_1 {p : Prop} (h : p := by repeat (first | (with_reducible first | exact HB.out | apply below_alloc | apply pw_below_drewN | apply below_drew1 | refine below_set ?_ GE117.out) | exact HB.out)) : p := h
theorem leb_place_unsigned.aa_2 {p : Prop} (h : p := by (with_reducible repeat (first | refine blk_drewN ?_ _ | refine blk_drew ?_ | refine blk_alloc ?_ _)); exact BK117.out) : p := h
theorem leb_place_unsigned.aa_3 {p : Prop} (h : p := by (try simp only [List.map_toArray, List.map_cons, List.map_nil]); first | done | rfl | (simp only [List.length_drop, List.length_take]; rfl)) : p := h
theorem leb_place_unsigned.aa_4 {p : Prop} (h : p := by repeat (first | exact (Kd.C_below HR0_0.out HB.out) | (with_reducible refine Kd.C_alloc ?_ _) | (with_reducible refine Kd.C_drewN ?_ _) | (with_reducible refine Kd.C_drew ?_))) : p := h
theorem leb_place_unsigned.am_ {p : Prop} (h : p) : Aside0 p := Aside0.mk h
theorem leb_place_unsigned.bm_ {α β : Type _} {o : Option α} {f : α → Option β} {b : β} (h : o.bind f = some b) : ∃ a, o = some a ∧ f a = some b := Option.bind_eq_some_iff.mp h
set_option maxHeartbeats 8000000 in
set_option maxRecDepth 100000 in
theorem leb_place_unsigned.calls (k : Nat) (A0_0 : Option Addr) (c0_0 : Nat) (l0_0 : List Int) (a0_1 : Int) (r1 : Int) (r2 : Int) (r3 : Int) (w : World) (hr0_0 : Kd.C (Kd.int .u8) w A0_0 l0_0.length l0_0) (hc0_0 : l0_0.length ≤ c0_0) (h : leb_place_unsigned.f k l0_0 a0_1 = some (r1, r2, r3)) :
  Calls Try.prog 71 #[.agg #[.slice A0_0 l0_0.length c0_0, .int .i64 a0_1]] w fun e w' => e = .returned (.tuple #[.int .u64 r1, .int .i64 r2, .int .i64 r3]) ∧ Below w.heap.size w w' := by
 have hu97 := Try.underlying97; have HR0_0 := am_ hr0_0; have HC0_0 := am_ hc0_0; clear hr0_0 hc0_0; have HB := am_ (Below.refl w.heap.size w); have H : ((leb_place_groups.f k l0_0 a0_1).bind fun bt118 => (if bt118.2.2 = 0 then ((leb_place_over.f l0_0 a0_1 bt118.2.1 0).bind fun t121 => (if t121 = true then (some (0, 0, 100)) else (if a0_1 < 64 then (if 0 ≤ a0_1 then (if bt118.1 ≥ (shl .u64 1 a0_1) then (some (0, 0, 100)) else (some (bt118.1, bt118.2.1, 0))) else (none)) else (some (bt118.1, bt118.2.1, 0))))) else (some (0, 0, 100)))) = some (r1, r2, r3) := h; clear h; replace H := bm_ H; obtain ⟨⟨t118, t119, t120⟩, A20, H⟩ := H; replace H : (if t120 = 0 then ((leb_place_over.f l0_0 a0_1 t119 0).bind fun t121 => (if t121 = true then (some (0, 0, 100)) else (if a0_1 < 64 then (if 0 ≤ a0_1 then (if t118 ≥ (shl .u64 1 a0_1) then (some (0, 0, 100)) else (some (t118, t119, 0))) else (none)) else (some (t118, t119, 0))))) else (some (0, 0, 100))) = some (r1, r2, r3) := H; have A2 := am_ A20; clear A20; by_cases c3 : t120 = 0
 rotate_left
 ·rw [if_neg c3] at H; obtain ⟨c3b0, c3b1⟩ := nb c3; simp only [Option.some.injEq, Prod.mk.injEq] at H; obtain ⟨rfl, rfl, rfl⟩ := H; go_enter Try.func71, Try.ntmps71
  go_wp2_with (first | ((with_reducible refine gate_dst (N := 1) rfl ?_); refine box_event ?hg (N := 1) ?hd (cs := #[.slice A0_0 l0_0.length c0_0, .int .i64 a0_1]) (t := 97) ?hr ?_; (case hd => rfl); (case hg => rfl); (case hr => first | (go_simp; done) | (go_simp; rfl)); intro gb117 hg w33 hbox hb; have N_ := m_ (below_step aa_0 hb) <| m_ (hbox) <| m_ ((by rw [hg]; exact (below_size aa_0) : w.heap.size ≤ gb117)) <| am_ ((by rw [hg]; exact (below_size aa_0) : w.heap.size ≤ gb117)); clear HB; obtain ⟨HB, BK117, GW117, GE117⟩ := N_; clear hb hbox hg; have Z34_0 : w33.cell? ⟨gb117, 0, none⟩ = some (.slice A0_0 l0_0.length c0_0) := (bc BK117 0); have Z34_1 : w33.cell? ⟨gb117, 1, none⟩ = some (.int .i64 a0_1) := (bc BK117 1); have Y34_0 := blk_frozen BK117.out 0; have Y34_1 := blk_frozen BK117.out 1) | ((with_reducible refine gate_callee (f := 74) rfl ?_); refine goesL_ (some 10) rfl rfl Try.func74 (by kernel_rfl) rfl #[.agg #[.slice A0_0 l0_0.length c0_0, .int .i64 a0_1]] rfl aa_3 ?_; (with_reducible refine (leb_place_groups.calls k _ _ l0_0 a0_1 t118 t119 t120 _ ?side1 ?side2 A2.out).mono ?_); (case side1 => exact aa_4); (case side2 => exact HC0_0.out); rintro e w35 ⟨rfl, hb⟩; refine ⟨_, rfl, ?_⟩; have N_ := m_ (bbelow BK117 aa_2 hb) <| am_ (below_step aa_1 hb); clear BK117 HB; obtain ⟨BK117, HB⟩ := N_; (try clear hb); (try clear hb2); (try clear hk); (try clear hi)))
  go_ret3
  exact ⟨er_, by repeat (first | (with_reducible first | exact HB.out | apply below_alloc | apply pw_below_drewN | apply below_drew1 | refine below_set ?_ GE117.out) | exact HB.out)⟩
 rw [if_pos c3] at H; obtain ⟨c3b0, c3b1⟩ := eb c3; clear c3; replace H := bm_ H; obtain ⟨t121, A40, H⟩ := H; replace H : (if t121 = true then (some (0, 0, 100)) else (if a0_1 < 64 then (if 0 ≤ a0_1 then (if t118 ≥ (shl .u64 1 a0_1) then (some (0, 0, 100)) else (some (t118, t119, 0))) else (none)) else (some (t118, t119, 0)))) = some (r1, r2, r3) := H; have A4 := am_ A40; clear A40; by_cases c5 : t121 = true
 ·subst c5; have H1 : (some (0, 0, 100)) = some (r1, r2, r3) := by rw [if_pos rfl] at H; exact H
  clear H; have H := H1; clear H1; simp only [Option.some.injEq, Prod.mk.injEq] at H; obtain ⟨rfl, rfl, rfl⟩ := H; go_enter Try.func71, Try.ntmps71
  go_wp2_with (first | ((with_reducible refine gate_dst (N := 1) rfl ?_); refine box_event ?hg (N := 1) ?hd (cs := #[.slice A0_0 l0_0.length c0_0, .int .i64 a0_1]) (t := 97) ?hr ?_; (case hd => rfl); (case hg => rfl); (case hr => first | (go_simp; done) | (go_simp; rfl)); intro gb117 hg w6 hbox hb; have N_ := m_ (below_step aa_0 hb) <| m_ (hbox) <| m_ ((by rw [hg]; exact (below_size aa_0) : w.heap.size ≤ gb117)) <| am_ ((by rw [hg]; exact (below_size aa_0) : w.heap.size ≤ gb117)); clear HB; obtain ⟨HB, BK117, GW117, GE117⟩ := N_; clear hb hbox hg; have Z7_0 : w6.cell? ⟨gb117, 0, none⟩ = some (.slice A0_0 l0_0.length c0_0) := (bc BK117 0); have Z7_1 : w6.cell? ⟨gb117, 1, none⟩ = some (.int .i64 a0_1) := (bc BK117 1); have Y7_0 := blk_frozen BK117.out 0; have Y7_1 := blk_frozen BK117.out 1) | ((with_reducible refine gate_callee (f := 74) rfl ?_); refine goesL_ (some 10) rfl rfl Try.func74 (by kernel_rfl) rfl #[.agg #[.slice A0_0 l0_0.length c0_0, .int .i64 a0_1]] rfl aa_3 ?_; (with_reducible refine (leb_place_groups.calls k _ _ l0_0 a0_1 t118 t119 t120 _ ?side1 ?side2 A2.out).mono ?_); (case side1 => exact aa_4); (case side2 => exact HC0_0.out); rintro e w8 ⟨rfl, hb⟩; refine ⟨_, rfl, ?_⟩; have N_ := m_ (bbelow BK117 aa_2 hb) <| am_ (below_step aa_1 hb); clear BK117 HB; obtain ⟨BK117, HB⟩ := N_; (try clear hb); (try clear hb2); (try clear hk); (try clear hi); have Z9_0 : w8.cell? ⟨gb117, 0, none⟩ = some (.slice A0_0 l0_0.length c0_0) := (bc BK117 0); have Z9_1 : w8.cell? ⟨gb117, 1, none⟩ = some (.int .i64 a0_1) := (bc BK117 1); have Y9_0 := blk_frozen BK117.out 0; have Y9_1 := blk_frozen BK117.out 1) | (go_at_call 75; (with_reducible refine (leb_place_over.calls _ _ l0_0 a0_1 t119 0 true _ ?side1 ?side2 A4.out).mono ?_); (case side1 => exact aa_4); (case side2 => exact HC0_0.out); rintro e w10 ⟨rfl, hb⟩; have N_ := m_ (bbelow BK117 aa_2 hb) <| am_ (below_step aa_1 hb); clear BK117 HB; obtain ⟨BK117, HB⟩ := N_; (try clear hb); (try clear hb2); (try clear hk); (try clear hi)))
  go_ret3
  exact ⟨er_, by repeat (first | (with_reducible first | exact HB.out | apply below_alloc | apply pw_below_drewN | apply below_drew1 | refine below_set ?_ GE117.out) | exact HB.out)⟩
 replace c5 := Bool.eq_false_iff.mpr c5; subst c5; have H1 : (if a0_1 < 64 then (if 0 ≤ a0_1 then (if t118 ≥ (shl .u64 1 a0_1) then (some (0, 0, 100)) else (some (t118, t119, 0))) else (none)) else (some (t118, t119, 0))) = some (r1, r2, r3) := by rw [if_neg (show ¬ (false = true) by decide)] at H; exact H
 clear H; have H := H1; clear H1; by_cases c11 : a0_1 < 64
 rotate_left
 ·rw [if_neg c11] at H; have c11b0 : decide (a0_1 < 64) = false := decide_eq_false c11; clear c11; simp only [Option.some.injEq, Prod.mk.injEq] at H; obtain ⟨rfl, rfl, rfl⟩ := H; go_enter Try.func71, Try.ntmps71
  go_wp2_with (first | ((with_reducible refine gate_dst (N := 1) rfl ?_); refine box_event ?hg (N := 1) ?hd (cs := #[.slice A0_0 l0_0.length c0_0, .int .i64 a0_1]) (t := 97) ?hr ?_; (case hd => rfl); (case hg => rfl); (case hr => first | (go_simp; done) | (go_simp; rfl)); intro gb117 hg w27 hbox hb; have N_ := m_ (below_step aa_0 hb) <| m_ (hbox) <| m_ ((by rw [hg]; exact (below_size aa_0) : w.heap.size ≤ gb117)) <| am_ ((by rw [hg]; exact (below_size aa_0) : w.heap.size ≤ gb117)); clear HB; obtain ⟨HB, BK117, GW117, GE117⟩ := N_; clear hb hbox hg; have Z28_0 : w27.cell? ⟨gb117, 0, none⟩ = some (.slice A0_0 l0_0.length c0_0) := (bc BK117 0); have Z28_1 : w27.cell? ⟨gb117, 1, none⟩ = some (.int .i64 a0_1) := (bc BK117 1); have Y28_0 := blk_frozen BK117.out 0; have Y28_1 := blk_frozen BK117.out 1) | ((with_reducible refine gate_callee (f := 74) rfl ?_); refine goesL_ (some 10) rfl rfl Try.func74 (by kernel_rfl) rfl #[.agg #[.slice A0_0 l0_0.length c0_0, .int .i64 a0_1]] rfl aa_3 ?_; (with_reducible refine (leb_place_groups.calls k _ _ l0_0 a0_1 t118 t119 t120 _ ?side1 ?side2 A2.out).mono ?_); (case side1 => exact aa_4); (case side2 => exact HC0_0.out); rintro e w29 ⟨rfl, hb⟩; refine ⟨_, rfl, ?_⟩; have N_ := m_ (bbelow BK117 aa_2 hb) <| am_ (below_step aa_1 hb); clear BK117 HB; obtain ⟨BK117, HB⟩ := N_; (try clear hb); (try clear hb2); (try clear hk); (try clear hi); have Z30_0 : w29.cell? ⟨gb117, 0, none⟩ = some (.slice A0_0 l0_0.length c0_0) := (bc BK117 0); have Z30_1 : w29.cell? ⟨gb117, 1, none⟩ = some (.int .i64 a0_1) := (bc BK117 1); have Y30_0 := blk_frozen BK117.out 0; have Y30_1 := blk_frozen BK117.out 1) | (go_at_call 75; (with_reducible refine (leb_place_over.calls _ _ l0_0 a0_1 t119 0 false _ ?side1 ?side2 A4.out).mono ?_); (case side1 => exact aa_4); (case side2 => exact HC0_0.out); rintro e w31 ⟨rfl, hb⟩; have N_ := m_ (bbelow BK117 aa_2 hb) <| am_ (below_step aa_1 hb); clear BK117 HB; obtain ⟨BK117, HB⟩ := N_; (try clear hb); (try clear hb2); (try clear hk); (try clear hi); have Z32_0 : w31.cell? ⟨gb117, 0, none⟩ = some (.slice A0_0 l0_0.length c0_0) := (bc BK117 0); have Z32_1 : w31.cell? ⟨gb117, 1, none⟩ = some (.int .i64 a0_1) := (bc BK117 1); have Y32_0 := blk_frozen BK117.out 0; have Y32_1 := blk_frozen BK117.out 1))
  go_ret3
  exact ⟨er_, by repeat (first | (with_reducible first | exact HB.out | apply below_alloc | apply pw_below_drewN | apply below_drew1 | refine below_set ?_ GE117.out) | exact HB.out)⟩
 rw [if_pos c11] at H; have c11b0 : decide (a0_1 < 64) = true := decide_eq_true c11; clear c11; by_cases c12 : 0 ≤ a0_1
 rotate_left
 ·rw [if_neg c12] at H; exact absurd H (by simp)
 rw [if_pos c12] at H; have c12b0 := eq_true c12; have c12b1 : decide (0 ≤ a0_1) = true := decide_eq_true c12; clear c12; obtain ⟨ji13, hji13⟩ : ∃ j_ : Int, (shl .u64 1 a0_1) = j_ := ⟨_, rfl⟩
 replace H : (if t118 ≥ (ji13) then (some (0, 0, 100)) else (some (t118, t119, 0))) = some (r1, r2, r3) := by first | (rw [hji13] at H; exact H) | (simp only [hji13] at H ⊢; exact H)
 (try rw [hji13] at A2); (try rw [hji13] at A4); have hji13_ : (IntKind.u64.wrap (1 * 2 ^ min a0_1.toNat 64)) = ji13 := hji13; have hji13z : a0_1 ≤ 64 → (IntKind.u64.wrap (1 * 2 ^ a0_1.toNat)) = ji13 := shl_small hji13; have hji13u : (IntKind.u64.wrap (2 ^ min a0_1.toNat 64)) = ji13 := by have h_ := hji13_; rw [Int.one_mul] at h_; exact h_
 have hji13v : a0_1 ≤ 64 → (IntKind.u64.wrap (2 ^ a0_1.toNat)) = ji13 := fun hle_ => by have h_ := hji13z hle_; rw [Int.one_mul] at h_; exact h_
 by_cases c14 : t118 ≥ (ji13)
 ·rw [if_pos c14] at H; have c14b0 : decide ((ji13) ≤ t118) = true := decide_eq_true c14; clear c14; simp only [Option.some.injEq, Prod.mk.injEq] at H; obtain ⟨rfl, rfl, rfl⟩ := H; go_enter Try.func71, Try.ntmps71
  go_wp2_with (first | ((with_reducible refine gate_dst (N := 1) rfl ?_); refine box_event ?hg (N := 1) ?hd (cs := #[.slice A0_0 l0_0.length c0_0, .int .i64 a0_1]) (t := 97) ?hr ?_; (case hd => rfl); (case hg => rfl); (case hr => first | (go_simp; done) | (go_simp; rfl)); intro gb117 hg w15 hbox hb; have N_ := m_ (below_step aa_0 hb) <| m_ (hbox) <| m_ ((by rw [hg]; exact (below_size aa_0) : w.heap.size ≤ gb117)) <| am_ ((by rw [hg]; exact (below_size aa_0) : w.heap.size ≤ gb117)); clear HB; obtain ⟨HB, BK117, GW117, GE117⟩ := N_; clear hb hbox hg; have Z16_0 : w15.cell? ⟨gb117, 0, none⟩ = some (.slice A0_0 l0_0.length c0_0) := (bc BK117 0); have Z16_1 : w15.cell? ⟨gb117, 1, none⟩ = some (.int .i64 a0_1) := (bc BK117 1); have Y16_0 := blk_frozen BK117.out 0; have Y16_1 := blk_frozen BK117.out 1) | ((with_reducible refine gate_callee (f := 74) rfl ?_); refine goesL_ (some 10) rfl rfl Try.func74 (by kernel_rfl) rfl #[.agg #[.slice A0_0 l0_0.length c0_0, .int .i64 a0_1]] rfl aa_3 ?_; (with_reducible refine (leb_place_groups.calls k _ _ l0_0 a0_1 t118 t119 t120 _ ?side1 ?side2 A2.out).mono ?_); (case side1 => exact aa_4); (case side2 => exact HC0_0.out); rintro e w17 ⟨rfl, hb⟩; refine ⟨_, rfl, ?_⟩; have N_ := m_ (bbelow BK117 aa_2 hb) <| am_ (below_step aa_1 hb); clear BK117 HB; obtain ⟨BK117, HB⟩ := N_; (try clear hb); (try clear hb2); (try clear hk); (try clear hi); have Z18_0 : w17.cell? ⟨gb117, 0, none⟩ = some (.slice A0_0 l0_0.length c0_0) := (bc BK117 0); have Z18_1 : w17.cell? ⟨gb117, 1, none⟩ = some (.int .i64 a0_1) := (bc BK117 1); have Y18_0 := blk_frozen BK117.out 0; have Y18_1 := blk_frozen BK117.out 1) | (go_at_call 75; (with_reducible refine (leb_place_over.calls _ _ l0_0 a0_1 t119 0 false _ ?side1 ?side2 A4.out).mono ?_); (case side1 => exact aa_4); (case side2 => exact HC0_0.out); rintro e w19 ⟨rfl, hb⟩; have N_ := m_ (bbelow BK117 aa_2 hb) <| am_ (below_step aa_1 hb); clear BK117 HB; obtain ⟨BK117, HB⟩ := N_; (try clear hb); (try clear hb2); (try clear hk); (try clear hi); have Z20_0 : w19.cell? ⟨gb117, 0, none⟩ = some (.slice A0_0 l0_0.length c0_0) := (bc BK117 0); have Z20_1 : w19.cell? ⟨gb117, 1, none⟩ = some (.int .i64 a0_1) := (bc BK117 1); have Y20_0 := blk_frozen BK117.out 0; have Y20_1 := blk_frozen BK117.out 1))
  go_ret3
  exact ⟨by first | rfl | (simp [errW_none, errW_some] <;> rfl) | (simp only [← hji13]; first | rfl | (simp [errW_none, errW_some] <;> rfl)) | (simp [*, errW_none, errW_some] <;> rfl), by repeat (first | (with_reducible first | exact HB.out | apply below_alloc | apply pw_below_drewN | apply below_drew1 | refine below_set ?_ GE117.out) | exact HB.out)⟩
 rw [if_neg c14] at H; have c14b0 : decide ((ji13) ≤ t118) = false := decide_eq_false c14; clear c14; simp only [Option.some.injEq, Prod.mk.injEq] at H; obtain ⟨rfl, rfl, rfl⟩ := H; go_enter Try.func71, Try.ntmps71
 go_wp2_with (first | ((with_reducible refine gate_dst (N := 1) rfl ?_); refine box_event ?hg (N := 1) ?hd (cs := #[.slice A0_0 l0_0.length c0_0, .int .i64 a0_1]) (t := 97) ?hr ?_; (case hd => rfl); (case hg => rfl); (case hr => first | (go_simp; done) | (go_simp; rfl)); intro gb117 hg w21 hbox hb; have N_ := m_ (below_step aa_0 hb) <| m_ (hbox) <| m_ ((by rw [hg]; exact (below_size aa_0) : w.heap.size ≤ gb117)) <| am_ ((by rw [hg]; exact (below_size aa_0) : w.heap.size ≤ gb117)); clear HB; obtain ⟨HB, BK117, GW117, GE117⟩ := N_; clear hb hbox hg; have Z22_0 : w21.cell? ⟨gb117, 0, none⟩ = some (.slice A0_0 l0_0.length c0_0) := (bc BK117 0); have Z22_1 : w21.cell? ⟨gb117, 1, none⟩ = some (.int .i64 a0_1) := (bc BK117 1); have Y22_0 := blk_frozen BK117.out 0; have Y22_1 := blk_frozen BK117.out 1) | ((with_reducible refine gate_callee (f := 74) rfl ?_); refine goesL_ (some 10) rfl rfl Try.func74 (by kernel_rfl) rfl #[.agg #[.slice A0_0 l0_0.length c0_0, .int .i64 a0_1]] rfl aa_3 ?_; (with_reducible refine (leb_place_groups.calls k _ _ l0_0 a0_1 t118 t119 t120 _ ?side1 ?side2 A2.out).mono ?_); (case side1 => exact aa_4); (case side2 => exact HC0_0.out); rintro e w23 ⟨rfl, hb⟩; refine ⟨_, rfl, ?_⟩; have N_ := m_ (bbelow BK117 aa_2 hb) <| am_ (below_step aa_1 hb); clear BK117 HB; obtain ⟨BK117, HB⟩ := N_; (try clear hb); (try clear hb2); (try clear hk); (try clear hi); have Z24_0 : w23.cell? ⟨gb117, 0, none⟩ = some (.slice A0_0 l0_0.length c0_0) := (bc BK117 0); have Z24_1 : w23.cell? ⟨gb117, 1, none⟩ = some (.int .i64 a0_1) := (bc BK117 1); have Y24_0 := blk_frozen BK117.out 0; have Y24_1 := blk_frozen BK117.out 1) | (go_at_call 75; (with_reducible refine (leb_place_over.calls _ _ l0_0 a0_1 t119 0 false _ ?side1 ?side2 A4.out).mono ?_); (case side1 => exact aa_4); (case side2 => exact HC0_0.out); rintro e w25 ⟨rfl, hb⟩; have N_ := m_ (bbelow BK117 aa_2 hb) <| am_ (below_step aa_1 hb); clear BK117 HB; obtain ⟨BK117, HB⟩ := N_; (try clear hb); (try clear hb2); (try clear hk); (try clear hi); have Z26_0 : w25.cell? ⟨gb117, 0, none⟩ = some (.slice A0_0 l0_0.length c0_0) := (bc BK117 0); have Z26_1 : w25.cell? ⟨gb117, 1, none⟩ = some (.int .i64 a0_1) := (bc BK117 1); have Y26_0 := blk_frozen BK117.out 0; have Y26_1 := blk_frozen BK117.out 1))
 go_ret3
 exact ⟨by first | rfl | (simp [errW_none, errW_some] <;> rfl) | (simp only [← hji13]; first | rfl | (simp [errW_none, errW_some] <;> rfl)) | (simp [*, errW_none, errW_some] <;> rfl), by repeat (first | (with_reducible first | exact HB.out | apply below_alloc | apply pw_below_drewN | apply below_drew1 | refine below_set ?_ GE117.out) | exact HB.out)⟩
def leb_Uint.f (k : Nat) (l0 : List Int) (a1 : Int) : Option (Int × Int × Int) := (leb_place_unsigned.f k l0 a1).bind fun bt122 => (some (bt122.1, bt122.2.1, bt122.2.2))
theorem leb_Uint.mono : ∀ a0 a1 k, LeO (leb_Uint.f k a0 a1) (leb_Uint.f (k + 1) a0 a1) := by
  intro a0 a1 k
  unfold leb_Uint.f
  repeat' first
      | (with_reducible exact leb_place_unsigned.mono _ _ _)
      | (with_reducible exact LeO.refl _)
      | (with_reducible exact LeO.none _)
      | (with_reducible refine LeO.ite ?_ ?_)
      | (with_reducible refine LeO.bind ?_ (fun _ => ?_))
      | exact leb_place_unsigned.mono _ _ _
      | exact LeO.none _
      | refine LeO.ite ?_ ?_
      | refine LeO.bind ?_ (fun _ => ?_)
set_option maxHeartbeats 8000000 in
set_option maxRecDepth 100000 in
theorem leb_Uint.calls (k : Nat) (A0 : Option Addr) (c0 : Nat) (l0 : List Int) (a1 : Int) (r1 : Int) (r2 : Int) (r3 : Int) (w : World) (hr0 : Kd.C (Kd.int .u8) w A0 l0.length l0) (hc0 : l0.length ≤ c0) (h : leb_Uint.f k l0 a1 = some (r1, r2, r3)) :
    Calls Try.prog 64 #[.slice A0 l0.length c0, .int .i64 a1] w fun e w' => e = .returned (.tuple #[.int .u64 r1, .int .i64 r2, .int .i64 r3]) ∧ Below w.heap.size w w' := by
  have hu97 := Try.underlying97
  have HR0 := Aside0.mk hr0
  have HC0 := Aside0.mk hc0
  clear hr0 hc0
  have HB := Aside0.mk (Below.refl w.heap.size w)
  have H : ((leb_place_unsigned.f k l0 a1).bind fun bt122 => (some (bt122.1, bt122.2.1, bt122.2.2))) = some (r1, r2, r3) := h
  clear h
  replace H := Option.bind_eq_some_iff.mp H
  obtain ⟨⟨t122, t123, t124⟩, A30, H⟩ := H
  replace H : (some (t122, t123, t124)) = some (r1, r2, r3) := H
  have A3 := Aside0.mk A30
  clear A30
  simp only [Option.some.injEq, Prod.mk.injEq] at H
  obtain ⟨rfl, rfl, rfl⟩ := H
  go_enter Try.func64, Try.ntmps64
  go_wp2_with (first | ((with_reducible refine Go.Proofs.YtlahigmoljflkaaO.gate_value (F := .tmp 12) rfl ?_); refine Go.Proofs.YtlahigmoljflkaaO.goesM_ (some 13) rfl rfl Try.func71 (by kernel_rfl) rfl #[.agg #[.slice A0 l0.length c0, .int .i64 a1]] rfl rfl (by (try simp only [List.map_toArray, List.map_cons, List.map_nil]); first | done | rfl | (simp; done) | rfl | (simp only [List.length_drop, List.length_take]; rfl)) ?_; (with_reducible refine (leb_place_unsigned.calls k _ _ l0 a1 t122 t123 t124 _ ?side1 ?side2 A3.out).mono ?_); (case side1 => repeat (first | exact HR0.out | (with_reducible refine Kd.C_alloc ?_ _) | (with_reducible refine Kd.C_drewN ?_ _) | (with_reducible refine Kd.C_drew ?_))); (case side2 => exact HC0.out); rintro e w4 ⟨rfl, hb⟩; refine ⟨_, rfl, ?_⟩; have n0_ := Aside0.mk (below_step (by repeat (first | (with_reducible first | exact HB.out | apply below_alloc | apply pw_below_drewN | apply below_drew1) | exact HB.out)) hb); clear HB; have HB := n0_; clear n0_; (try clear hb); (try clear hb2); (try clear hk); (try clear hi)))
  go_ret3
  exact ⟨by first | rfl | (simp [errW_none, errW_some] <;> rfl) | (simp [*, errW_none, errW_some] <;> rfl), by repeat (first | (with_reducible first | exact HB.out | apply below_alloc | apply pw_below_drewN | apply below_drew1) | exact HB.out)⟩

end Go.Proofs.Ytlahigmoljflkaa.PAll
