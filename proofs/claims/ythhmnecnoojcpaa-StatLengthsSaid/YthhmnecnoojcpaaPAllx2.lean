/- Printed by a copy of the printer that was turned for this claim: functions as plain Lean functions, with proofs that their calls come to these; or words that such proofs use. -/
import Derived.Test.YthhmnecnoojcpaaPAllx0
namespace Go.Proofs.Ythhmnecnoojcpaa.PAll
open Go.RowKit Go.Proofs.YthhmnecnoojcpaaW.PrintWords Go.Proofs.YthhmnecnoojcpaaW.PrintLast Go.Proofs.YthhmnecnoojcpaaW.PrintMore
attribute [local go_sem] max2_int min2_int max_two min_two max_three min_three max_four min_four   -- for this text's walks alone
set_option linter.unusedVariables false
set_option linter.unusedSimpArgs false

/-! what is known of the values that come in -/
def okT28 (x : S28) : Prop := (Lit.int .i64 x.f0).wf = true ∧ (Lit.int .i64 x.f1).wf = true ∧ (Lit.int .i64 x.f2).wf = true ∧ (Lit.int .i64 x.f3).wf = true ∧ (Lit.int .i64 x.f4).wf = true ∧ (Lit.int .i64 x.f5).wf = true ∧ x.f6.size ≤ 140737488351232
theorem opT28 (W : World) : Go.Proofs.YthhmnecnoojcpaaO.Opens Try.prog W 28 k28 okT28 :=
  Go.Proofs.YthhmnecnoojcpaaO.opens_iso (Go.Proofs.YthhmnecnoojcpaaO.opens_struct Try.underlying28 (by kernel_rfl) (Go.Proofs.YthhmnecnoojcpaaO.fields_cons (by kernel_rfl) (by kernel_rfl) (Go.Proofs.YthhmnecnoojcpaaO.opens_int Try.underlying3) (Go.Proofs.YthhmnecnoojcpaaO.fields_cons (by kernel_rfl) (by kernel_rfl) (Go.Proofs.YthhmnecnoojcpaaO.opens_int Try.underlying3) (Go.Proofs.YthhmnecnoojcpaaO.fields_cons (by kernel_rfl) (by kernel_rfl) (Go.Proofs.YthhmnecnoojcpaaO.opens_int Try.underlying2) (Go.Proofs.YthhmnecnoojcpaaO.fields_cons (by kernel_rfl) (by kernel_rfl) (Go.Proofs.YthhmnecnoojcpaaO.opens_int Try.underlying3) (Go.Proofs.YthhmnecnoojcpaaO.fields_cons (by kernel_rfl) (by kernel_rfl) (Go.Proofs.YthhmnecnoojcpaaO.opens_int Try.underlying2) (Go.Proofs.YthhmnecnoojcpaaO.fields_cons (by kernel_rfl) (by kernel_rfl) (Go.Proofs.YthhmnecnoojcpaaO.opens_int Try.underlying2) (Go.Proofs.YthhmnecnoojcpaaO.fields_last (by kernel_rfl) (by kernel_rfl) (Go.Proofs.YthhmnecnoojcpaaO.opens_string Try.underlying9))))))))) _ (fun p => ⟨p.1, p.2.1, p.2.2.1, p.2.2.2.1, p.2.2.2.2.1, p.2.2.2.2.2.1, p.2.2.2.2.2.2⟩) (fun _ => rfl)
def okT93 (x : S93) : Prop := x.f0.size ≤ 140737488351232 ∧ (Lit.int .i64 x.f1).wf = true
theorem opT93 (W : World) : Go.Proofs.YthhmnecnoojcpaaO.Opens Try.prog W 93 k93 okT93 :=
  Go.Proofs.YthhmnecnoojcpaaO.opens_iso (Go.Proofs.YthhmnecnoojcpaaO.opens_struct Try.underlying93 (by kernel_rfl) (Go.Proofs.YthhmnecnoojcpaaO.fields_cons (by kernel_rfl) (by kernel_rfl) (Go.Proofs.YthhmnecnoojcpaaO.opens_string Try.underlying9) (Go.Proofs.YthhmnecnoojcpaaO.fields_last (by kernel_rfl) (by kernel_rfl) (Go.Proofs.YthhmnecnoojcpaaO.opens_int Try.underlying3)))) _ (fun p => ⟨p.1, p.2⟩) (fun _ => rfl)
def okT31 (x : S31) : Prop := (Lit.int .i64 x.f0).wf = true ∧ (x.f1.length * 1 ≤ 140737488351232 ∧ ∀ y169 ∈ x.f1, (Lit.int .u8 y169).wf = true) ∧ (x.f2.length * 24 ≤ 140737488351232 ∧ ∀ y170 ∈ x.f2, okT93 y170) ∧ x.f3.size ≤ 140737488351232 ∧ (Lit.int .i64 x.f4).wf = true ∧ (Lit.int .i64 x.f5).wf = true
theorem opT31 (W : World) : Go.Proofs.YthhmnecnoojcpaaO.Opens Try.prog W 31 k31 okT31 :=
  Go.Proofs.YthhmnecnoojcpaaO.opens_iso (Go.Proofs.YthhmnecnoojcpaaO.opens_struct Try.underlying31 (by kernel_rfl) (Go.Proofs.YthhmnecnoojcpaaO.fields_cons (by kernel_rfl) (by kernel_rfl) (Go.Proofs.YthhmnecnoojcpaaO.opens_int Try.underlying3) (Go.Proofs.YthhmnecnoojcpaaO.fields_cons (by kernel_rfl) (by kernel_rfl) (Go.Proofs.YthhmnecnoojcpaaO.opens_slice (B := 1) Try.underlying23 (by kernel_rfl) (by kernel_rfl) (Go.Proofs.YthhmnecnoojcpaaO.opens_int Try.underlying5)) (Go.Proofs.YthhmnecnoojcpaaO.fields_cons (by kernel_rfl) (by kernel_rfl) (Go.Proofs.YthhmnecnoojcpaaO.opens_slice (B := 24) Try.underlying29 (by kernel_rfl) (by kernel_rfl) (opT93 W)) (Go.Proofs.YthhmnecnoojcpaaO.fields_cons (by kernel_rfl) (by kernel_rfl) (Go.Proofs.YthhmnecnoojcpaaO.opens_string Try.underlying9) (Go.Proofs.YthhmnecnoojcpaaO.fields_cons (by kernel_rfl) (by kernel_rfl) (Go.Proofs.YthhmnecnoojcpaaO.opens_int Try.underlying3) (Go.Proofs.YthhmnecnoojcpaaO.fields_last (by kernel_rfl) (by kernel_rfl) (Go.Proofs.YthhmnecnoojcpaaO.opens_int Try.underlying2)))))))) _ (fun p => ⟨p.1, p.2.1, p.2.2.1, p.2.2.2.1, p.2.2.2.2.1, p.2.2.2.2.2⟩) (fun _ => rfl)
def okT33 (x : S33) : Prop := (Lit.int .i64 x.f0).wf = true ∧ (Lit.int .i64 x.f1).wf = true ∧ (Lit.int .i64 x.f2).wf = true ∧ (Lit.int .i64 x.f3).wf = true
theorem opT33 (W : World) : Go.Proofs.YthhmnecnoojcpaaO.Opens Try.prog W 33 k33 okT33 :=
  Go.Proofs.YthhmnecnoojcpaaO.opens_iso (Go.Proofs.YthhmnecnoojcpaaO.opens_struct Try.underlying33 (by kernel_rfl) (Go.Proofs.YthhmnecnoojcpaaO.fields_cons (by kernel_rfl) (by kernel_rfl) (Go.Proofs.YthhmnecnoojcpaaO.opens_int Try.underlying2) (Go.Proofs.YthhmnecnoojcpaaO.fields_cons (by kernel_rfl) (by kernel_rfl) (Go.Proofs.YthhmnecnoojcpaaO.opens_int Try.underlying24) (Go.Proofs.YthhmnecnoojcpaaO.fields_cons (by kernel_rfl) (by kernel_rfl) (Go.Proofs.YthhmnecnoojcpaaO.opens_int Try.underlying3) (Go.Proofs.YthhmnecnoojcpaaO.fields_last (by kernel_rfl) (by kernel_rfl) (Go.Proofs.YthhmnecnoojcpaaO.opens_int Try.underlying2)))))) _ (fun p => ⟨p.1, p.2.1, p.2.2.1, p.2.2.2⟩) (fun _ => rfl)
def okT35 (x : S35) : Prop := okT28 x.f0 ∧ okT31 x.f1 ∧ (Lit.int .i64 x.f2).wf = true ∧ x.f3.size ≤ 140737488351232 ∧ (Lit.int .i64 x.f4).wf = true ∧ (Lit.int .i64 x.f5).wf = true ∧ (Lit.int .i64 x.f6).wf = true ∧ okT33 x.f7 ∧ (x.f8.length * 1 ≤ 140737488351232 ∧ ∀ y171 ∈ x.f8, (Lit.int .u8 y171).wf = true)
theorem opT35 (W : World) : Go.Proofs.YthhmnecnoojcpaaO.Opens Try.prog W 35 k35 okT35 :=
  Go.Proofs.YthhmnecnoojcpaaO.opens_iso (Go.Proofs.YthhmnecnoojcpaaO.opens_struct Try.underlying35 (by kernel_rfl) (Go.Proofs.YthhmnecnoojcpaaO.fields_cons (by kernel_rfl) (by kernel_rfl) (opT28 W) (Go.Proofs.YthhmnecnoojcpaaO.fields_cons (by kernel_rfl) (by kernel_rfl) (opT31 W) (Go.Proofs.YthhmnecnoojcpaaO.fields_cons (by kernel_rfl) (by kernel_rfl) (Go.Proofs.YthhmnecnoojcpaaO.opens_int Try.underlying3) (Go.Proofs.YthhmnecnoojcpaaO.fields_cons (by kernel_rfl) (by kernel_rfl) (Go.Proofs.YthhmnecnoojcpaaO.opens_string Try.underlying9) (Go.Proofs.YthhmnecnoojcpaaO.fields_cons (by kernel_rfl) (by kernel_rfl) (Go.Proofs.YthhmnecnoojcpaaO.opens_int Try.underlying2) (Go.Proofs.YthhmnecnoojcpaaO.fields_cons (by kernel_rfl) (by kernel_rfl) (Go.Proofs.YthhmnecnoojcpaaO.opens_int Try.underlying2) (Go.Proofs.YthhmnecnoojcpaaO.fields_cons (by kernel_rfl) (by kernel_rfl) (Go.Proofs.YthhmnecnoojcpaaO.opens_int Try.underlying3) (Go.Proofs.YthhmnecnoojcpaaO.fields_cons (by kernel_rfl) (by kernel_rfl) (opT33 W) (Go.Proofs.YthhmnecnoojcpaaO.fields_last (by kernel_rfl) (by kernel_rfl) (Go.Proofs.YthhmnecnoojcpaaO.opens_slice (B := 1) Try.underlying23 (by kernel_rfl) (by kernel_rfl) (Go.Proofs.YthhmnecnoojcpaaO.opens_int Try.underlying5)))))))))))) _ (fun p => ⟨p.1, p.2.1, p.2.2.1, p.2.2.2.1, p.2.2.2.2.1, p.2.2.2.2.2.1, p.2.2.2.2.2.2.1, p.2.2.2.2.2.2.2.1, p.2.2.2.2.2.2.2.2⟩) (fun _ => rfl)

/-! ### stat_fresh: function 31 -/
def stat_fresh.f (a0 : Int) : Option (List Int) := if 0 ≤ a0 then (if (a0 : Int).toNat ≤ 281474976710656 then (some (List.replicate (a0 : Int).toNat 0)) else (none)) else (none)
set_option maxHeartbeats 8000000 in
set_option maxRecDepth 100000 in
theorem stat_fresh.calls (a0 : Int) (r : List Int) (w : World) (h : stat_fresh.f a0 = some r) :
    Calls Try.prog 31 #[.int .i64 a0] w fun e w' => ∃ v0_ : Value, e = .returned (.agg #[v0_]) ∧ Kd.R (Kd.int .u8) 5 w' w.heap.size (fun _ => True) v0_ r ∧ Below w.heap.size w w' := by
  have hu61 := Try.underlying61
  have HB := Aside0.mk (Below.refl w.heap.size w)
  have H : (if 0 ≤ a0 then (if (a0 : Int).toNat ≤ 281474976710656 then (some (List.replicate (a0 : Int).toNat 0)) else (none)) else (none)) = some r := h
  clear h
  by_cases c2 : 0 ≤ a0
  · rw [if_pos c2] at H
    have c2b0 := eq_true c2
    have c2b1 : decide (0 ≤ a0) = true := decide_eq_true c2
    clear c2
    by_cases c3 : (a0 : Int).toNat ≤ 281474976710656
    · rw [if_pos c3] at H
      have c3b0 := eq_true c3
      have c3b1 : decide ((a0 : Int).toNat ≤ 281474976710656) = true := decide_eq_true c3
      clear c3
      obtain ⟨y102, hy102⟩ : ∃ y_ : List Int, y_ = (List.replicate (a0 : Int).toNat 0) := ⟨_, rfl⟩
      replace H : (some y102) = some r := by first | (rw [hy102]; with_reducible exact H) | (have H2_ := (Option.bind_some _ _).symm.trans H; rw [hy102]; with_reducible exact H2_) | (have H2_ := (Option.bind_some _ _).symm.trans H; with_reducible exact H2_) | with_reducible exact H | (rw [hy102]; exact H) | exact H
      have Ny102 := Aside0.mk hy102
      clear hy102
      obtain rfl := Option.some.inj H
      go_enter Try.func31, Try.ntmps31
      go_wp2_with (first | ((with_reducible refine gate_dst (N := 2) rfl ?_); refine box_event ?hg (N := 2) ?hd (cs := #[.slice none 0 0]) (t := 61) ?hr ?_; (case hd => rfl); (case hg => rfl); (case hr => first | (go_simp; done) | (go_simp; rfl)); intro gb101 hg w4 hbox hb; have n0_ := Aside0.mk (below_step (by repeat (first | (with_reducible first | exact HB.out | apply below_alloc | apply pw_below_drewN | apply below_drew1) | exact HB.out)) hb); have n1_ := Aside0.mk (hbox); have n2_ := Aside0.mk ((by rw [hg]; exact (below_size (by repeat (first | (with_reducible first | exact HB.out | apply below_alloc | apply pw_below_drewN | apply below_drew1) | exact HB.out))) : w.heap.size ≤ gb101)); have n3_ := Aside0.mk ((by rw [hg]; exact (below_size (by repeat (first | (with_reducible first | exact HB.out | apply below_alloc | apply pw_below_drewN | apply below_drew1) | exact HB.out))) : w.heap.size ≤ gb101)); clear HB; have HB := n0_; have BK101 := n1_; have GW101 := n2_; have GE101 := n3_; clear n0_ n1_ n2_ n3_; clear hb hbox hg) | ((with_reducible refine gate_dst (N := 4) rfl ?_); refine Kd.R_make (Kd.int .u8) _ 5 rfl (N := 4) rfl 23 _ _ rfl a0 rfl rfl Try.underlying23 (.int .u8 0) 1 info5 rfl (by decide) (by omega) 0 (ok := fun _ => True) (okp := fun _ => True) rfl (fun _ hk => hk) trivial (of_decide_eq_true (by first | (with_reducible assumption) | assumption)) (Nat.le_trans (Nat.mul_le_mul_right _ (of_decide_eq_true (by first | (with_reducible assumption) | assumption) : a0.toNat ≤ 281474976710656)) (by omega)) (Below.refl _ _) (Nat.le_refl _) ?_; intro v103 w5 ho6 hb hg_ hnew_; clear hg_ hnew_; (first | rw [← Ny102.out] at ho6 | (simp only [Int.reduceToNat] at ho6; rw [← Ny102.out] at ho6)); have n0_ := Aside0.mk (Kd.R_lower ho6 (below_size (by repeat (first | (with_reducible first | exact HB.out | apply below_alloc | apply pw_below_drewN | apply below_drew1 | refine below_set ?_ GE101.out) | exact HB.out)))); have n1_ := Aside0.mk (blk_below (g := gb101) (o := .cells #[.slice none 0 0] 61 (0, 0)) (by (with_reducible repeat (first | refine blk_drewN ?_ _ | refine blk_drew ?_ | refine blk_alloc ?_ _)); exact BK101.out) hb); have n2_ := Aside0.mk (below_step (by repeat (first | (with_reducible first | exact HB.out | apply below_alloc | apply pw_below_drewN | apply below_drew1 | refine below_set ?_ GE101.out) | exact HB.out)) hb); clear BK101; clear HB; have HO104 := n0_; have BK101 := n1_; have HB := n2_; clear n0_ n1_ n2_; clear hb ho6; obtain ⟨Ao7, co7, eo7⟩ := Kd.R_slice HO104.out; subst eo7; have hcz8_0 : w5.cell? ⟨gb101, 0, none⟩ = some (.slice none 0 0) := (blk_cell BK101.out 0).trans rfl; have hfz8_0 := blk_frozen BK101.out 0))
      refine bodyPost_ret (results_cell_row rfl _ _ gb101 61 #[.slice Ao7 y102.length co7] (0, 0) _ rfl (by (with_reducible repeat (first | refine blk_drewN ?_ _ | refine blk_drew ?_ | refine blk_alloc ?_ _)); refine blk_put (cs := #[.slice none 0 0]) ?_ 0 _ rfl; (with_reducible repeat (first | refine blk_drewN ?_ _ | refine blk_drew ?_ | refine blk_alloc ?_ _)); exact BK101.out) Try.underlying61 rfl (by kernel_rfl)) rfl ?_
      exact ⟨_, by first | rfl | (simp [errW_none, errW_some] <;> rfl) | (simp [*, errW_none, errW_some] <;> rfl), by (with_reducible repeat (first | apply Kd.R_alloc | apply Kd.R_drewN | apply Kd.R_drew)); exact Kd.R_mono (Kd.R_far (p := ⟨gb101, 0, none⟩) (Kd.R_types HO104.out BK101.out (by decide)) (fun _ hk => hk.2) (.slice Ao7 y102.length co7)) (fun _ hk => trivial), by repeat (first | (with_reducible first | exact HB.out | apply below_alloc | apply pw_below_drewN | apply below_drew1 | refine below_set ?_ GE101.out) | exact HB.out)⟩
    · rw [if_neg c3] at H
      exact absurd H (by simp)
  · rw [if_neg c2] at H
    exact absurd H (by simp)

/-! ### stat_field_set: function 32 -/
abbrev stat_field_set.t : Bool := true
abbrev stat_field_set.f_ : Bool := false
def stat_field_set.bb0_ : Array Bool := #[t, t, t, t, t, t, t, t, t, t, t, t]
def stat_field_set.bb1_ : Array Bool := #[t, t, t, t, t, t, t, t, t, t, t, f_]
def stat_field_set.bb2_ : Array Bool := #[t, t, t, t, t, t, t, t, t, t, f_, f_]
def stat_field_set.bb3_ : Array Bool := #[t, f_, t, t, t, t, t, t, t, t, f_, f_]
def stat_field_set.bb4_ : Array Bool := #[t, f_, t, t, t, t, t, t, t, f_, f_, f_]
def stat_field_set.bb5_ : Array Bool := #[t, f_, t, t, t, t, t, t, f_, f_, f_, f_]
def stat_field_set.bb6_ : Array Bool := #[t, f_, t, t, t, t, t, f_, f_, f_, f_, f_]
def stat_field_set.bb7_ : Array Bool := #[t, f_, t, t, t, t, f_, f_, f_, f_, f_, f_]
def stat_field_set.bb8_ : Array Bool := #[t, f_, t, t, t, f_, f_, f_, f_, f_, f_, f_]
def stat_field_set.bb9_ : Array Bool := #[t, f_, t, t, f_, f_, f_, f_, f_, f_, f_, f_]
def stat_field_set.bb10_ : Array Bool := #[t, f_, t, f_, f_, f_, f_, f_, f_, f_, f_, f_]
def stat_field_set.bb11_ : Array Bool := #[t, f_, f_, f_, f_, f_, f_, f_, f_, f_, f_, f_]
def stat_field_set.bb12_ : Array Bool := #[f_, f_, f_, f_, f_, f_, f_, f_, f_, f_, f_, f_]
theorem stat_field_set.bc {w : World} {g : Nat} {cs : Array Value} {t : TypeId} (h : Aside0 (w.heap[g]? = some (.cells cs t (0, 0)))) (i : Nat) {v : Value} (e : cs[i]? = some v := by rfl) : w.cell? ⟨g, i, none⟩ = some v := (blk_cell h.out i).trans e
theorem stat_field_set.bkept {W0 W W2 : World} {g : Nat} {o : Obj} {S : Nat → Prop} (_b : Aside0 (W0.heap[g]? = some o)) (h : W.heap[g]? = some o) (hk : Kept W W2 S) (hn : ¬ S g) : W2.heap[g]? = some o := blk_kept h hk hn
theorem stat_field_set.bbelow {W0 w w1 : World} {g : Nat} {o : Obj} (_b : Aside0 (W0.heap[g]? = some o)) (h : w.heap[g]? = some o) (hb : Below w.heap.size w w1) : w1.heap[g]? = some o := blk_below h hb
theorem stat_field_set.e1 {α : Type _} (xs : List α) (i : Nat) (a : α) : xs.toArray.setIfInBounds i a = (xs.set i a).toArray := by simp
theorem stat_field_set.e2 {α : Type _} (x a : α) (xs : List α) : (x :: xs).set 0 a = a :: xs := rfl
theorem stat_field_set.e3 {α : Type _} (x a : α) (xs : List α) (n : Nat) : (x :: xs).set (n + 1) a = x :: xs.set n a := rfl
def stat_field_set.l0 : Nat → Int → Int → Int → Int → List Int → Option (List Int)
 | 0, _, _, _, _, _ => none
 | k + 1, x1, x3, x9, x10, x0z => if x10 < x9 then (if 0 ≤ (wrap64 (8 * x10)) then (if 0 ≤ (wrap64 (x1 + x10)) then (if (wrap64 (x1 + x10)) < (x0z.length : Int) then (stat_field_set.l0 k x1 x3 x9 (wrap64 (x10 + 1)) (x0z.set ((wrap64 (x1 + x10)) : Int).toNat ((shr .i64 x3 (wrap64 (8 * x10))) % 256))) else (none)) else (none)) else (none)) else (some x0z)
def stat_field_set.f (k : Nat) (l0_0 : List Int) (a1 : Int) (a2 : Int) (a3 : Int) : Option (List Int) := stat_field_set.l0 k a1 a3 a2 0 l0_0
theorem stat_field_set.mono_l : ∀ k, (∀ y0 y1 y2 y3 y4, LeO (stat_field_set.l0 k y0 y1 y2 y3 y4) (stat_field_set.l0 (k + 1) y0 y1 y2 y3 y4))
 | 0 => fun _ _ _ _ _ r h => by simp [stat_field_set.l0] at h
 | k + 1 => by
  have ih0 := stat_field_set.mono_l k
  ·intro y0 y1 y2 y3 y4
   unfold stat_field_set.l0
   repeat' first
   | (with_reducible apply ih0)
   | (with_reducible exact LeO.refl _)
   | (with_reducible exact LeO.none _)
   | (with_reducible refine LeO.ite ?_ ?_)
   | (with_reducible refine LeO.bind ?_ (fun _ => ?_))
   | apply ih0
   | exact LeO.none _
   | refine LeO.ite ?_ ?_
   | refine LeO.bind ?_ (fun _ => ?_)
theorem stat_field_set.mono : ∀ a0 a1 a2 a3 k, LeO (stat_field_set.f k a0 a1 a2 a3) (stat_field_set.f (k + 1) a0 a1 a2 a3) := by
 intro a0 a1 a2 a3 k
 have ih0 := stat_field_set.mono_l k
 unfold stat_field_set.f
 repeat' first
   | (with_reducible apply ih0)
   | (with_reducible exact LeO.refl _)
   | (with_reducible exact LeO.none _)
   | (with_reducible refine LeO.ite ?_ ?_)
   | (with_reducible refine LeO.bind ?_ (fun _ => ?_))
   | apply ih0
   | exact LeO.none _
   | refine LeO.ite ?_ ?_
   | refine LeO.bind ?_ (fun _ => ?_)
def stat_field_set.T4 : Bool × List (List Nat × List Nat) := (true, [([], []), ([0], [0]), ([], []), ([], []), ([2, 3], [2, 3]), ([], []), ([], []), ([6], [6]), ([5, 7], [5, 7]), ([8], [8]), ([1, 4, 0, 1, 2, 3, 4, 5, 6, 7, 8, 9], [1, 4]), ([10, 9, 0, 1, 2, 3, 4, 5, 6, 7, 8, 9], [9, 10])])
def stat_field_set.B4 : List Nat := [0, 1, 0, 0, 12, 0, 0, 64, 224, 480, 1023, 2047]
theorem stat_field_set.tab4 : rtab .any (opsOf Try.f32 4) = stat_field_set.T4 := by kernel_rfl
theorem stat_field_set.bits4 : waitsOk stat_field_set.T4.2 stat_field_set.B4 = true := by kernel_rfl
theorem stat_field_set.am_ {p : Prop} (h : p) : Aside0 p := Aside0.mk h
theorem stat_field_set.bm_ {α β : Type _} {o : Option α} {f : α → Option β} {b : β} (h : o.bind f = some b) : ∃ a, o = some a ∧ f a = some b := Option.bind_eq_some_iff.mp h
set_option maxHeartbeats 8000000 in
set_option maxRecDepth 100000 in
theorem stat_field_set.calls (k : Nat) (P0_0_ : Nat → Prop) (u9000_ : Value) (l0_0 : List Int) (a1 : Int) (a2 : Int) (a3 : Int) (r : List Int) (w0 w : World) (hB : Below w0.heap.size w0 w) (ho0_0 : Kd.R (Kd.int .u8) 5 w w0.heap.size P0_0_ u9000_ l0_0) (h : stat_field_set.f k l0_0 a1 a2 a3 = some r) :
  Calls Try.prog 32 #[.agg #[u9000_], .int .i64 a1, .int .i64 a2, .int .i64 a3] w fun e w' => e = .returned (.tuple #[]) ∧ Kd.R (Kd.int .u8) 5 w' w0.heap.size (fun k_ => (P0_0_ k_ ∨ w.heap.size ≤ k_)) u9000_ r ∧ Below w0.heap.size w0 w' ∧ Kept w w' (fun k_ => P0_0_ k_) := by
 have hu61 := Try.underlying61
 have HO0_0 := am_ (show Kd.R (Kd.int .u8) 5 w w0.heap.size (fun k_ => (P0_0_ k_ ∨ w.heap.size ≤ k_)) u9000_ l0_0 from Kd.R_mono ho0_0 (fun k_ hk => (.inl hk)))
 have HK := am_ (Kept.refl w (fun k_ => P0_0_ k_))
 have HW0 := am_ hB.size
 have HB := am_ hB
 clear hB
 have H : (stat_field_set.l0 k a1 a3 a2 0 l0_0) = some r := h
 clear h
 have H' := am_ H
 clear H
 obtain ⟨Ao5, co5, eo5⟩ := Kd.R_slice HO0_0.out
 subst eo5
 go_enter Try.func32, Try.ntmps32
 go_wp2_with (first | ((with_reducible refine gate_dst (N := 4) rfl ?_); refine box_event ?hg (N := 4) ?hd (cs := #[.slice Ao5 l0_0.length co5]) (t := 61) ?hr ?_; (case hd => rfl); (case hg => rfl); (case hr => first | (go_simp; done) | (go_simp; rfl)); intro gb105 hg w6 hbox hb; have n0_ := am_ (Kd.R_below (by (with_reducible repeat (first | apply Kd.R_alloc | apply Kd.R_drewN | apply Kd.R_drew)); exact HO0_0.out) hb); have n1_ := am_ (Kept.below (S := (fun k_ => P0_0_ k_)) (by repeat (first | (with_reducible first | exact HK.out | apply Kept.alloc | apply Kept.drewN | apply Kept.drew) | exact HK.out)) hb); have n2_ := am_ (below_step (by repeat (first | (with_reducible first | exact HB.out | apply below_alloc | apply pw_below_drewN | apply below_drew1) | exact HB.out)) hb); have n3_ := am_ (hbox); have n4_ := am_ ((by rw [hg]; exact (by first | exact HK.out.1 | exact (show Kept w _ (fun k_ => P0_0_ k_) from by repeat (first | (with_reducible first | exact HK.out | apply Kept.alloc | apply Kept.drewN | apply Kept.drew) | exact HK.out)).1) : w.heap.size ≤ gb105)); have n5_ := am_ ((by rw [hg]; exact (below_size (by repeat (first | (with_reducible first | exact HB.out | apply below_alloc | apply pw_below_drewN | apply below_drew1) | exact HB.out))) : w0.heap.size ≤ gb105)); clear HO0_0; clear HK; clear HB; have HO0_0 := n0_; have HK := n1_; have HB := n2_; have BK105 := n3_; have GW105 := n4_; have GE105 := n5_; clear n0_ n1_ n2_ n3_ n4_ n5_; clear hb hbox hg))
 go_loopg [10] k (fun kq v10 w' => ∃ (x10_1 : Int) (x0z_1 : List Int), v10 = .int .i64 x10_1 ∧ Aside0 (stat_field_set.l0 kq a1 a3 a2 x10_1 x0z_1 = some r) ∧ Aside0 (kq ≤ k) ∧ Aside0 (Kd.R (Kd.int .u8) 5 w' w0.heap.size (fun k_ => (P0_0_ k_ ∨ w.heap.size ≤ k_)) (.slice Ao5 l0_0.length co5) x0z_1) ∧ Aside0 (w'.heap[gb105]? = some (.cells #[(.slice Ao5 l0_0.length co5)] 61 (0, 0))) ∧ Aside0 (Kept w w' (fun k_ => P0_0_ k_)) ∧ Aside0 (Below w0.heap.size w0 w'))
 case atStart => exact ⟨(0), (l0_0), (by first | rfl | (simp; done) | (simp [*]; done)), H', ⟨Nat.le_refl _⟩, ⟨by (with_reducible repeat (first | apply Kd.R_alloc | apply Kd.R_drewN | apply Kd.R_drew)); exact HO0_0.out⟩, ⟨by (with_reducible repeat (first | refine blk_drewN ?_ _ | refine blk_drew ?_ | refine blk_alloc ?_ _)); exact BK105.out⟩, ⟨by repeat (first | (with_reducible first | exact HK.out | apply Kept.alloc | apply Kept.drewN | apply Kept.drew | refine Kept.setCell ?_ (.inr GW105.out) _) | exact HK.out)⟩, ⟨by repeat (first | (with_reducible first | exact HB.out | apply below_alloc | apply pw_below_drewN | apply below_drew1 | refine below_set ?_ GE105.out) | exact HB.out)⟩⟩
 case round =>
 clear H'
 try clear p2
 try clear c3
 obtain ⟨x10_1, x0z_1, rfl, HA, HK1, HO_0z, BK105, HK, HB⟩ := hrel
 have hl106000_1 := (Kd.R_reads' HO_0z.out).1
 rw [hl106000_1] at HO_0z
 (try simp only [hl106000_1])
 (try simp only [hl106000_1] at BK105)
 cases gk with
 | zero => exact absurd HA.out (by simp [stat_field_set.l0])
 | succ k1 =>
 have H := HA.out
 clear HA
 simp only [stat_field_set.l0] at H
 by_cases c7 : x10_1 < a2
 rotate_left
 ·rw [if_neg c7] at H
  have c7b0 : decide (x10_1 < a2) = false := decide_eq_false c7
  clear c7
  obtain rfl := Option.some.inj H
  go_wp2
  first | go_end0 | ((try simp only [Exit.inBlock, Exit.then]); refine bodyPost_ret (results_none rfl _ _ _) rfl ?_)
  exact ⟨by first | rfl | (simp [errW_none, errW_some] <;> rfl) | (simp [*, errW_none, errW_some] <;> rfl), (by first | exact (by (with_reducible repeat (first | apply Kd.R_alloc | apply Kd.R_drewN | apply Kd.R_drew)); exact HO_0z.out) | (simp only [hl106000_1]; exact (by (with_reducible repeat (first | apply Kd.R_alloc | apply Kd.R_drewN | apply Kd.R_drew)); exact HO_0z.out))), by repeat (first | (with_reducible first | exact HB.out | apply below_alloc | apply pw_below_drewN | apply below_drew1 | refine below_set ?_ GE105.out) | exact HB.out), by repeat (first | (with_reducible first | exact HK.out | apply Kept.alloc | apply Kept.drewN | apply Kept.drew | refine Kept.setCell ?_ (.inr GW105.out) _) | exact HK.out)⟩
 rw [if_pos c7] at H
 have c7b0 : decide (x10_1 < a2) = true := decide_eq_true c7
 clear c7
 obtain ⟨ji8, hji8⟩ : ∃ j_ : Int, (wrap64 (8 * x10_1)) = j_ := ⟨_, rfl⟩
 replace H : (if 0 ≤ (ji8) then (if 0 ≤ (wrap64 (a1 + x10_1)) then (if (wrap64 (a1 + x10_1)) < (x0z_1.length : Int) then (stat_field_set.l0 k1 a1 a3 a2 (wrap64 (x10_1 + 1)) (x0z_1.set ((wrap64 (a1 + x10_1)) : Int).toNat ((shr .i64 a3 (ji8)) % 256))) else (none)) else (none)) else (none)) = some r := by first | (rw [hji8] at H; exact H) | (simp only [hji8] at H ⊢; exact H)
 have hji8w : (IntKind.i64.wrap (8 * x10_1)) = ji8 := (i64_w _).trans hji8
 by_cases c9 : 0 ≤ (ji8)
 rotate_left
 ·rw [if_neg c9] at H
  exact absurd H (by simp)
 rw [if_pos c9] at H
 have c9b0 := eq_true c9
 have c9b1 : decide (0 ≤ (ji8)) = true := decide_eq_true c9
 clear c9
 obtain ⟨ji10, hji10⟩ : ∃ j_ : Int, (shr .i64 a3 (ji8)) = j_ := ⟨_, rfl⟩
 replace H : (if 0 ≤ (wrap64 (a1 + x10_1)) then (if (wrap64 (a1 + x10_1)) < (x0z_1.length : Int) then (stat_field_set.l0 k1 a1 a3 a2 (wrap64 (x10_1 + 1)) (x0z_1.set ((wrap64 (a1 + x10_1)) : Int).toNat ((ji10) % 256))) else (none)) else (none)) = some r := by first | (rw [hji10] at H; exact H) | (simp only [hji10] at H ⊢; exact H)
 have hji10_ : (a3 / 2 ^ min (ji8).toNat 64) = ji10 := hji10
 have hji10z : (ji8) ≤ 64 → (a3 / 2 ^ (ji8).toNat) = ji10 := shr_small hji10
 obtain ⟨ji11, hji11⟩ : ∃ j_ : Int, (wrap64 (a1 + x10_1)) = j_ := ⟨_, rfl⟩
 replace H : (if 0 ≤ (ji11) then (if (ji11) < (x0z_1.length : Int) then (stat_field_set.l0 k1 a1 a3 a2 (wrap64 (x10_1 + 1)) (x0z_1.set ((ji11) : Int).toNat ((ji10) % 256))) else (none)) else (none)) = some r := by first | (rw [hji11] at H; exact H) | (simp only [hji11] at H ⊢; exact H)
 have hji11w : (IntKind.i64.wrap (a1 + x10_1)) = ji11 := (i64_w _).trans hji11
 by_cases c12 : 0 ≤ (ji11)
 rotate_left
 ·rw [if_neg c12] at H
  exact absurd H (by simp)
 rw [if_pos c12] at H
 have c12b0 : decide (0 ≤ (ji11)) = true := decide_eq_true c12
 clear c12
 by_cases c13 : (ji11) < (x0z_1.length : Int)
 rotate_left
 ·rw [if_neg c13] at H
  exact absurd H (by simp)
 rw [if_pos c13] at H
 have c13b0 : decide ((ji11) < (x0z_1.length : Int)) = true := decide_eq_true c13
 clear c13
 obtain ⟨y106, hy106⟩ : ∃ y_ : List Int, y_ = (x0z_1.set ((ji11) : Int).toNat ((ji10) % 256)) := ⟨_, rfl⟩
 replace H : (stat_field_set.l0 k1 a1 a3 a2 (wrap64 (x10_1 + 1)) y106) = some r := by first | (rw [hy106]; with_reducible exact H) | (have H2_ := (Option.bind_some _ _).symm.trans H; rw [hy106]; with_reducible exact H2_) | (have H2_ := (Option.bind_some _ _).symm.trans H; with_reducible exact H2_) | with_reducible exact H | (rw [hy106]; exact H) | exact H
 have Ny106 := am_ hy106
 clear hy106
 have H' := am_ H
 clear H
 try go_wp2
 have n0_ := am_ (Kd.R_drew HO_0z.out)
 have n1_ := am_ (blk_drew BK105.out)
 have n2_ := am_ (Kept.drew HK.out)
 have n3_ := am_ (below_drew1 HB.out)
 clear HO_0z
 clear BK105
 clear HK
 clear HB
 have HO_0z := n0_
 have BK105 := n1_
 have HK := n2_
 have HB := n3_
 clear n0_ n1_ n2_ n3_
 have p14 : 0 ≤ ((ji11) : Int) := of_decide_eq_true (by first | (with_reducible assumption) | assumption)
 have q14 : ((ji11) : Int) < ((x0z_1.length : Int) : Int) := of_decide_eq_true (by first | (with_reducible assumption) | assumption)
 obtain ⟨go14, co14, eo14, gb14, gl14, cl14, HG14⟩ := Kd.R_form HO_0z.out (by omega)
 (first | cases eo14 | (injection eo14 with ea_ en_ ec_; (first | subst ea_ | (injection ea_ with ea_; subst ea_)); subst ec_; clear en_))
 have GB14 := am_ gb14
 have GG14 := am_ HG14
 clear gb14 gl14 HG14
 have HMgo14 := am_ (show (P0_0_ go14 ∨ w.heap.size ≤ go14) from (HO_0z.out.1 _ rfl))
 obtain ⟨hx14_0, hf14_0⟩ := Kd.R_celln 0 HO_0z.out ((ji11) : Int) p14 q14
 replace p14 := eq_true p14
 replace q14 := eq_true q14
 have HP16 := Kd.R_putn HO_0z.out ((ji11) : Int) ((ji10) % 256)
 rw [← Ny106.out] at HP16
 have HQ16 := am_ HP16
 clear HP16
 refine start_ (n := 12) (S := fun w' => w'.cell? ⟨gb105, 0, none⟩ = some (.slice (some ⟨go14, 0, none⟩) x0z_1.length co5)) (ds := [11]) bb12_ (by kernel_rfl) rfl rfl ((bc BK105 0)) (fun hHeld => ?_); refine with_tabW stat_field_set.tab4 stat_field_set.bits4 (fun HT_ HW_ => ?_)
 generalize wr.drew = w15 at HO_0z BK105 HK HB GG14 HQ16 hf14_0 hx14_0 hHeld ⊢
 refine pure_ (i := 0) (N := some 13) (v := ?_) (a' := ?_) bb11_ rfl rfl (any_of HT_.out (by kernel_rfl)) (fun _ _ _ h => h) (Or.inl ⟨by rfl, ?_⟩) ?_ ?_
 rotate_left; · intro w'; go_simp; with_reducible rfl
 rotate_left; · simp only [Act.put, e1, e2, e3, i64_w, i32_w]; rfl
 refine pure_ (i := 2) (N := some 15) (v := ?_) (a' := ?_) bb10_ rfl rfl (any_of HT_.out (by kernel_rfl)) (fun _ _ _ h => h) (Or.inl ⟨by rfl, ?_⟩) ?_ ?_
 rotate_left; · intro w'; go_simp; with_reducible rfl
 rotate_left; · simp only [Act.put, e1, e2, e3, i64_w, i32_w]; rfl
 refine pure_ (i := 3) (N := some 16) (v := ?_) (a' := ?_) bb9_ rfl rfl (any_of HT_.out (by kernel_rfl)) (fun _ _ _ h => h) (Or.inl ⟨by rfl, ?_⟩) ?_ ?_
 rotate_left; · intro w'; go_simp; with_reducible rfl
 rotate_left; · simp only [Act.put, e1, e2, e3, i64_w, i32_w]; rfl
 refine pure_ (i := 4) (N := some 17) (v := ?_) (a' := ?_) bb8_ rfl rfl (any_of HT_.out (by kernel_rfl)) (fun _ _ _ h => h) (Or.inl ⟨by rfl, ?_⟩) ?_ ?_
 rotate_left; · intro w'; go_simp; with_reducible rfl
 rotate_left; · simp only [Act.put, e1, e2, e3, i64_w, i32_w]; rfl
 refine pure_ (i := 5) (N := some 18) (v := ?_) (a' := ?_) bb7_ rfl rfl (any_of HT_.out (by kernel_rfl)) (fun _ _ _ h => h) (Or.inl ⟨by rfl, ?_⟩) ?_ ?_
 rotate_left; · intro w'; go_simp; with_reducible rfl
 rotate_left; · simp only [Act.put, e1, e2, e3, i64_w, i32_w]; rfl
 refine pure_ (i := 6) (N := some 19) (v := ?_) (a' := ?_) bb6_ rfl rfl (any_of HT_.out (by kernel_rfl)) (fun _ _ _ h => h) (Or.inl ⟨by rfl, ?_⟩) ?_ ?_
 rotate_left; · intro w'; go_simp; with_reducible rfl
 rotate_left; · simp only [Act.put, e1, e2, e3, i64_w, i32_w]; rfl
 refine pure_ (i := 7) (N := some 20) (v := ?_) (a' := ?_) bb5_ rfl rfl (any_of HT_.out (by kernel_rfl)) (fun _ _ _ h => h) (Or.inl ⟨by rfl, ?_⟩) ?_ ?_
 rotate_left; · intro w'; go_simp; with_reducible rfl
 rotate_left; · simp only [Act.put, e1, e2, e3, i64_w, i32_w]; rfl
 refine pure_ (i := 8) (N := some 21) (v := ?_) (a' := ?_) bb4_ rfl rfl (any_of HT_.out (by kernel_rfl)) (fun _ _ _ h => h) (Or.inl ⟨by rfl, ?_⟩) ?_ ?_
 rotate_left; · intro w'; go_simp; with_reducible rfl
 rotate_left; · simp only [Act.put, e1, e2, e3, i64_w, i32_w]; rfl
 refine pure_ (i := 9) (N := some 22) (v := ?_) (a' := ?_) bb3_ rfl rfl (any_of HT_.out (by kernel_rfl)) (fun _ _ _ h => h) (Or.inl ⟨by rfl, ?_⟩) ?_ ?_
 rotate_left; · intro w'; go_simp; with_reducible rfl
 rotate_left; · simp only [Act.put, e1, e2, e3, i64_w, i32_w]; rfl
 refine take_ (i := 1) (N := some 14) (v := ?_) (a' := ?_) bb2_ rfl rfl (take_ofW HT_.out HW_.out (by kernel_rfl)) (fun _ _ _ h => h) (Or.inl ⟨by rfl, ?_⟩) hHeld ?_ ?_
 rotate_left; · intro w' s0; go_simp; with_reducible rfl
 rotate_left; · simp only [Act.put, e1, e2, e3, i64_w, i32_w]; rfl
 refine pure_ (i := 10) (N := some 23) (v := ?_) (a' := ?_) bb1_ rfl rfl (any_of HT_.out (by kernel_rfl)) (fun _ _ _ h => h) (Or.inl ⟨by rfl, ?_⟩) ?_ ?_
 rotate_left; · intro w'; go_simp; with_reducible rfl
 rotate_left; · simp only [Act.put, e1, e2, e3, i64_w, i32_w]; rfl
 refine last_ (i := 11) (N := none) bb0_ rfl rfl (one_of HT_.out (by kernel_rfl)) (by decide) (fun K hK => ?_)
 refine skip_ (w1 := ?_) (by rfl) rfl ?_ ?_
 rotate_left
 ·go_simp
  rfl
 refine hK.out _ _ ?_
 clear hK K
 refine done_ (done_of HT_.out (by kernel_rfl)) ?_
 try go_wp2
 (try simp only [← hl106000_1])
 go_roundg k1
 case measure => have := HK1.out; omega
 case rel => exact ⟨(wrap64 (x10_1 + 1)), (y106), (by first | rfl | (simp; done) | (simp [*]; done)), H', ⟨by have := HK1.out; omega⟩, ⟨by (try simp only [hl106000_1]); (with_reducible repeat (first | apply Kd.R_alloc | apply Kd.R_drewN | apply Kd.R_drew)); exact HQ16.out⟩, ⟨by (try simp only [hl106000_1]); (with_reducible repeat (first | refine blk_drewN ?_ _ | refine blk_drew ?_ | refine blk_alloc ?_ _)); refine blk_far ?_ (by have h_ := Kd.R_ne HO_0z.out BK105.out (by decide); intro e_; exact h_ (by rw [e_]; rfl)) _; (with_reducible repeat (first | refine blk_drewN ?_ _ | refine blk_drew ?_ | refine blk_alloc ?_ _)); exact BK105.out⟩, ⟨by repeat (first | (with_reducible first | exact HK.out | apply Kept.alloc | apply Kept.drewN | apply Kept.drew | refine Kept.setCell ?_ HMgo14.out _ | refine Kept.setCell ?_ (.inr GW105.out) _) | exact HK.out)⟩, ⟨by repeat (first | (with_reducible first | exact HB.out | apply below_alloc | apply pw_below_drewN | apply below_drew1 | refine below_set ?_ GB14.out | refine below_set ?_ GE105.out) | exact HB.out)⟩⟩
/-! ### stat_Event: function 10 -/
abbrev stat_Event.t : Bool := true
abbrev stat_Event.f_ : Bool := false
theorem stat_Event.bc {w : World} {g : Nat} {cs : Array Value} {t : TypeId} (h : Aside0 (w.heap[g]? = some (.cells cs t (0, 0)))) (i : Nat) {v : Value} (e : cs[i]? = some v := by rfl) : w.cell? ⟨g, i, none⟩ = some v := (blk_cell h.out i).trans e
theorem stat_Event.bkept {W0 W W2 : World} {g : Nat} {o : Obj} {S : Nat → Prop} (_b : Aside0 (W0.heap[g]? = some o)) (h : W.heap[g]? = some o) (hk : Kept W W2 S) (hn : ¬ S g) : W2.heap[g]? = some o := blk_kept h hk hn
theorem stat_Event.bbelow {W0 w w1 : World} {g : Nat} {o : Obj} (_b : Aside0 (W0.heap[g]? = some o)) (h : w.heap[g]? = some o) (hb : Below w.heap.size w w1) : w1.heap[g]? = some o := blk_below h hb
theorem stat_Event.e1 {α : Type _} (xs : List α) (i : Nat) (a : α) : xs.toArray.setIfInBounds i a = (xs.set i a).toArray := by simp
theorem stat_Event.e2 {α : Type _} (x a : α) (xs : List α) : (x :: xs).set 0 a = a :: xs := rfl
theorem stat_Event.e3 {α : Type _} (x a : α) (xs : List α) (n : Nat) : (x :: xs).set (n + 1) a = x :: xs.set n a := rfl
def stat_Event.j0 : Nat → Bool → Int → Int → Int → Int → Option (List Int × Int)
 | 0, _, _, _, _, _ => none
 | k + 1, x28, x0z, x1z, x2z, x3z => if x28 = true then (some (([] : List Int), 100)) else ((stat_fresh.f 32).bind fun t108 => ((stat_field_set.f k t108 0 8 x0z).bind fun t112 => ((stat_field_set.f k t112 8 2 x1z).bind fun t113 => ((stat_field_set.f k t113 10 1 x2z).bind fun t114 => ((stat_field_set.f k t114 16 8 x3z).bind fun t115 => (some (t115, 0)))))))
def stat_Event.f (k : Nat) (a0_0 : Int) (a0_1 : Int) (a0_2 : Int) (a0_3 : Int) : Option (List Int × Int) := if a0_1 < 0 then (stat_Event.j0 k true a0_0 a0_1 a0_2 a0_3) else (if a0_1 > 76 then (stat_Event.j0 k true a0_0 a0_1 a0_2 a0_3) else (if a0_2 < 0 then (stat_Event.j0 k true a0_0 a0_1 a0_2 a0_3) else (if a0_2 > 2 then (stat_Event.j0 k true a0_0 a0_1 a0_2 a0_3) else (stat_Event.j0 k (decide (a0_3 < 0)) a0_0 a0_1 a0_2 a0_3))))
theorem stat_Event.mono_l : ∀ k, (∀ y0 y1 y2 y3 y4, LeO (stat_Event.j0 k y0 y1 y2 y3 y4) (stat_Event.j0 (k + 1) y0 y1 y2 y3 y4))
 | 0 => fun _ _ _ _ _ r h => by simp [stat_Event.j0] at h
 | k + 1 => by
  have ih0 := stat_Event.mono_l k
  ·intro y0 y1 y2 y3 y4
   unfold stat_Event.j0
   repeat' first
   | (with_reducible apply ih0)
   | (with_reducible exact stat_field_set.mono _ _ _ _ _)
   | (with_reducible exact LeO.refl _)
   | (with_reducible exact LeO.none _)
   | (with_reducible refine LeO.ite ?_ ?_)
   | (with_reducible refine LeO.bind ?_ (fun _ => ?_))
   | apply ih0
   | exact stat_field_set.mono _ _ _ _ _
   | exact LeO.none _
   | refine LeO.ite ?_ ?_
   | refine LeO.bind ?_ (fun _ => ?_)
theorem stat_Event.mono : ∀ a0 a1 a2 a3 k, LeO (stat_Event.f k a0 a1 a2 a3) (stat_Event.f (k + 1) a0 a1 a2 a3) := by
 intro a0 a1 a2 a3 k
 have ih0 := stat_Event.mono_l k
 unfold stat_Event.f
 repeat' first
   | (with_reducible apply ih0)
   | (with_reducible exact stat_field_set.mono _ _ _ _ _)
   | (with_reducible exact LeO.refl _)
   | (with_reducible exact LeO.none _)
   | (with_reducible refine LeO.ite ?_ ?_)
   | (with_reducible refine LeO.bind ?_ (fun _ => ?_))
   | apply ih0
   | exact stat_field_set.mono _ _ _ _ _
   | exact LeO.none _
   | refine LeO.ite ?_ ?_
   | refine LeO.bind ?_ (fun _ => ?_)
theorem stat_Event.aa_0 {p : Prop} (h : p := by (with_reducible repeat (first | refine blk_drewN ?_ _ | refine blk_drew ?_ | refine blk_alloc ?_ _)); exact BK107.out) : p := h
theorem stat_Event.aa_1 {p : Prop} (h : p := by repeat (first | (with_reducible first | exact HB.out | apply below_alloc | apply pw_below_drewN | apply below_drew1 | refine below_set ?_ GE107.out) | exact HB.out)) : p := h
theorem stat_Event.aa_2 {p : Prop} (h : p := by (try simp only [List.map_toArray, List.map_cons, List.map_nil]); first | done | rfl | (simp; done) | rfl | (simp only [List.length_drop, List.length_take]; rfl)) : p := h
theorem stat_Event.aa_3 {p : Prop} (h : p := by (with_reducible repeat (first | refine blk_drewN ?_ _ | refine blk_drew ?_ | refine blk_alloc ?_ _)); exact BK111.out) : p := h
theorem stat_Event.aa_4 {p : Prop} (h : p := by repeat (first | (with_reducible first | exact HB.out | apply below_alloc | apply pw_below_drewN | apply below_drew1 | refine below_set ?_ GE107.out | refine below_set ?_ GE111.out) | exact HB.out)) : p := h
theorem stat_Event.am_ {p : Prop} (h : p) : Aside0 p := Aside0.mk h
theorem stat_Event.bm_ {α β : Type _} {o : Option α} {f : α → Option β} {b : β} (h : o.bind f = some b) : ∃ a, o = some a ∧ f a = some b := Option.bind_eq_some_iff.mp h
set_option maxHeartbeats 8000000 in
set_option maxRecDepth 100000 in
theorem stat_Event.calls (k : Nat) (a0_0 : Int) (a0_1 : Int) (a0_2 : Int) (a0_3 : Int) (r1 : List Int) (r2 : Int) (w : World) (h : stat_Event.f k a0_0 a0_1 a0_2 a0_3 = some (r1, r2)) :
  Calls Try.prog 10 #[.agg #[.int .i64 a0_0, .int .i64 a0_1, .int .i64 a0_2, .int .i64 a0_3]] w fun e w' => ∃ v0_ : Value, e = .returned (.tuple #[v0_, .int .i64 r2]) ∧ Kd.R (Kd.int .u8) 5 w' w.heap.size (fun _ => True) v0_ r1 ∧ Below w.heap.size w w' := by
 have hu33 := Try.underlying33
 have hu61 := Try.underlying61
 have HB := am_ (Below.refl w.heap.size w)
 have H : (if a0_1 < 0 then (j0 k true a0_0 a0_1 a0_2 a0_3) else (if a0_1 > 76 then (j0 k true a0_0 a0_1 a0_2 a0_3) else (if a0_2 < 0 then (j0 k true a0_0 a0_1 a0_2 a0_3) else (if a0_2 > 2 then (j0 k true a0_0 a0_1 a0_2 a0_3) else (j0 k (decide (a0_3 < 0)) a0_0 a0_1 a0_2 a0_3))))) = some (r1, r2) := h
 clear h
 have HC2 := am_ H
 clear H
 go_enter Try.func10, Try.ntmps10
 go_upto_region 1 with (first | ((with_reducible refine gate_dst (N := 1) rfl ?_); refine box_event ?hg (N := 1) ?hd (cs := #[.int .i64 a0_0, .int .i64 a0_1, .int .i64 a0_2, .int .i64 a0_3]) (t := 33) ?hr ?_; (case hd => rfl); (case hg => rfl); (case hr => first | (go_simp; done) | (go_simp; rfl)); intro gb107 hg w3 hbox hb; have n0_ := am_ (below_step (by repeat (first | (with_reducible first | exact HB.out | apply below_alloc | apply pw_below_drewN | apply below_drew1) | exact HB.out)) hb); have n1_ := am_ (hbox); have n2_ := am_ ((by rw [hg]; exact (below_size (by repeat (first | (with_reducible first | exact HB.out | apply below_alloc | apply pw_below_drewN | apply below_drew1) | exact HB.out))) : w.heap.size ≤ gb107)); have n3_ := am_ ((by rw [hg]; exact (below_size (by repeat (first | (with_reducible first | exact HB.out | apply below_alloc | apply pw_below_drewN | apply below_drew1) | exact HB.out))) : w.heap.size ≤ gb107)); clear HB; have HB := n0_; have BK107 := n1_; have GW107 := n2_; have GE107 := n3_; clear n0_ n1_ n2_ n3_; clear hb hbox hg))
 (try simp only [Act.put, e1, e2, e3])
 go_cut [28] (fun v28 wc => ∃ (kq : Nat) (x28_1 : Bool), v28 = .bool x28_1 ∧ Aside0 (j0 kq x28_1 a0_0 a0_1 a0_2 a0_3 = some (r1, r2)) ∧ Aside0 (kq ≤ k) ∧ Aside0 (wc.heap[gb107]? = some (.cells #[.int .i64 a0_0, .int .i64 a0_1, .int .i64 a0_2, .int .i64 a0_3] 33 (0, 0))) ∧ Aside0 (Below w.heap.size w wc))
 case first =>
  have H := HC2.out
  clear HC2
  by_cases c4 : a0_1 < 0
  ·rw [if_pos c4] at H
   have c4b0 : decide (a0_1 < 0) = true := decide_eq_true c4
   clear c4
   (first | rw [c4b0] | (simp only [i64_w, i32_w]; rw [c4b0]) | skip)
   have H' := am_ H
   clear H
   have hcz5_0 : w3.cell? ⟨gb107, 0, none⟩ = some (.int .i64 a0_0) := bc BK107 0
   have hcz5_1 : w3.cell? ⟨gb107, 1, none⟩ = some (.int .i64 a0_1) := bc BK107 1
   have hcz5_2 : w3.cell? ⟨gb107, 2, none⟩ = some (.int .i64 a0_2) := bc BK107 2
   have hcz5_3 : w3.cell? ⟨gb107, 3, none⟩ = some (.int .i64 a0_3) := bc BK107 3
   have hfz5_0 := blk_frozen BK107.out 0
   have hfz5_1 := blk_frozen BK107.out 1
   have hfz5_2 := blk_frozen BK107.out 2
   have hfz5_3 := blk_frozen BK107.out 3
   go_wp2
   go_meet
   case rel => exact ⟨_, (true), (by first | rfl | (simp; done) | (simp [*]; done)), H', ⟨by first | omega | exact Nat.le_refl _⟩, ⟨aa_0⟩, ⟨aa_1⟩⟩
  rw [if_neg c4] at H
  have c4b0 : decide (a0_1 < 0) = false := decide_eq_false c4
  clear c4
  (first | rw [c4b0] | (simp only [i64_w, i32_w]; rw [c4b0]) | skip)
  by_cases c6 : a0_1 > 76
  ·rw [if_pos c6] at H
   have c6b0 : decide (76 < a0_1) = true := decide_eq_true c6
   clear c6
   have H' := am_ H
   clear H
   have hcz7_0 : w3.cell? ⟨gb107, 0, none⟩ = some (.int .i64 a0_0) := bc BK107 0
   have hcz7_1 : w3.cell? ⟨gb107, 1, none⟩ = some (.int .i64 a0_1) := bc BK107 1
   have hcz7_2 : w3.cell? ⟨gb107, 2, none⟩ = some (.int .i64 a0_2) := bc BK107 2
   have hcz7_3 : w3.cell? ⟨gb107, 3, none⟩ = some (.int .i64 a0_3) := bc BK107 3
   have hfz7_0 := blk_frozen BK107.out 0
   have hfz7_1 := blk_frozen BK107.out 1
   have hfz7_2 := blk_frozen BK107.out 2
   have hfz7_3 := blk_frozen BK107.out 3
   go_wp2
   go_meet
   case rel => exact ⟨_, (true), (by first | rfl | (simp; done) | (simp [*]; done)), H', ⟨by first | omega | exact Nat.le_refl _⟩, ⟨aa_0⟩, ⟨aa_1⟩⟩
  rw [if_neg c6] at H
  have c6b0 : decide (76 < a0_1) = false := decide_eq_false c6
  clear c6
  by_cases c8 : a0_2 < 0
  ·rw [if_pos c8] at H
   have c8b0 : decide (a0_2 < 0) = true := decide_eq_true c8
   clear c8
   have H' := am_ H
   clear H
   have hcz9_0 : w3.cell? ⟨gb107, 0, none⟩ = some (.int .i64 a0_0) := bc BK107 0
   have hcz9_1 : w3.cell? ⟨gb107, 1, none⟩ = some (.int .i64 a0_1) := bc BK107 1
   have hcz9_2 : w3.cell? ⟨gb107, 2, none⟩ = some (.int .i64 a0_2) := bc BK107 2
   have hcz9_3 : w3.cell? ⟨gb107, 3, none⟩ = some (.int .i64 a0_3) := bc BK107 3
   have hfz9_0 := blk_frozen BK107.out 0
   have hfz9_1 := blk_frozen BK107.out 1
   have hfz9_2 := blk_frozen BK107.out 2
   have hfz9_3 := blk_frozen BK107.out 3
   go_wp2
   go_meet
   case rel => exact ⟨_, (true), (by first | rfl | (simp; done) | (simp [*]; done)), H', ⟨by first | omega | exact Nat.le_refl _⟩, ⟨aa_0⟩, ⟨aa_1⟩⟩
  rw [if_neg c8] at H
  have c8b0 : decide (a0_2 < 0) = false := decide_eq_false c8
  clear c8
  by_cases c10 : a0_2 > 2
  ·rw [if_pos c10] at H
   have c10b0 : decide (2 < a0_2) = true := decide_eq_true c10
   clear c10
   have H' := am_ H
   clear H
   have hcz11_0 : w3.cell? ⟨gb107, 0, none⟩ = some (.int .i64 a0_0) := bc BK107 0
   have hcz11_1 : w3.cell? ⟨gb107, 1, none⟩ = some (.int .i64 a0_1) := bc BK107 1
   have hcz11_2 : w3.cell? ⟨gb107, 2, none⟩ = some (.int .i64 a0_2) := bc BK107 2
   have hcz11_3 : w3.cell? ⟨gb107, 3, none⟩ = some (.int .i64 a0_3) := bc BK107 3
   have hfz11_0 := blk_frozen BK107.out 0
   have hfz11_1 := blk_frozen BK107.out 1
   have hfz11_2 := blk_frozen BK107.out 2
   have hfz11_3 := blk_frozen BK107.out 3
   go_wp2
   go_meet
   case rel => exact ⟨_, (true), (by first | rfl | (simp; done) | (simp [*]; done)), H', ⟨by first | omega | exact Nat.le_refl _⟩, ⟨aa_0⟩, ⟨aa_1⟩⟩
  rw [if_neg c10] at H
  have c10b0 : decide (2 < a0_2) = false := decide_eq_false c10
  clear c10
  have H' := am_ H
  clear H
  have hcz12_0 : w3.cell? ⟨gb107, 0, none⟩ = some (.int .i64 a0_0) := bc BK107 0
  have hcz12_1 : w3.cell? ⟨gb107, 1, none⟩ = some (.int .i64 a0_1) := bc BK107 1
  have hcz12_2 : w3.cell? ⟨gb107, 2, none⟩ = some (.int .i64 a0_2) := bc BK107 2
  have hcz12_3 : w3.cell? ⟨gb107, 3, none⟩ = some (.int .i64 a0_3) := bc BK107 3
  have hfz12_0 := blk_frozen BK107.out 0
  have hfz12_1 := blk_frozen BK107.out 1
  have hfz12_2 := blk_frozen BK107.out 2
  have hfz12_3 := blk_frozen BK107.out 3
  go_wp2
  go_meet
  case rel => exact ⟨_, (decide (a0_3 < 0)), (by first | rfl | (simp; done) | (simp [*]; done)), H', ⟨by first | omega | exact Nat.le_refl _⟩, ⟨aa_0⟩, ⟨aa_1⟩⟩
 case rest =>
 clear HC2
 try clear c1
 try clear p2
 try clear c4
 try clear c4b0
 try clear c6
 try clear c6b0
 try clear c8
 try clear c8b0
 try clear c10
 try clear c10b0
 try clear hcz11_0
 try clear hcz11_1
 try clear hcz11_2
 try clear hcz11_3
 try clear hcz12_0
 try clear hcz12_1
 try clear hcz12_2
 try clear hcz12_3
 try clear hcz5_0
 try clear hcz5_1
 try clear hcz5_2
 try clear hcz5_3
 try clear hcz7_0
 try clear hcz7_1
 try clear hcz7_2
 try clear hcz7_3
 try clear hcz9_0
 try clear hcz9_1
 try clear hcz9_2
 try clear hcz9_3
 try clear hfz11_0
 try clear hfz11_1
 try clear hfz11_2
 try clear hfz11_3
 try clear hfz12_0
 try clear hfz12_1
 try clear hfz12_2
 try clear hfz12_3
 try clear hfz5_0
 try clear hfz5_1
 try clear hfz5_2
 try clear hfz5_3
 try clear hfz7_0
 try clear hfz7_1
 try clear hfz7_2
 try clear hfz7_3
 try clear hfz9_0
 try clear hfz9_1
 try clear hfz9_2
 try clear hfz9_3
 obtain ⟨kq, x28_1, rfl, HA, HJ1, BK107, HB⟩ := hcut
 cases kq with
 | zero => exact absurd HA.out (by simp [j0])
 | succ kj1 =>
 have H := HA.out
 clear HA
 simp only [j0] at H
 by_cases c13 : x28_1 = true
 ·subst c13
  have H1 : (some (([] : List Int), 100)) = some (r1, r2) := by rw [if_pos rfl] at H; exact H
  clear H
  have H := H1
  clear H1
  simp only [Option.some.injEq, Prod.mk.injEq] at H
  obtain ⟨rfl, rfl⟩ := H
  go_wp2
  go_ret2
  exact ⟨_, by first | rfl | (simp [errW_none, errW_some] <;> rfl) | (simp [*, errW_none, errW_some] <;> rfl), by first | exact Kd.R_nil _ _ _ _ _ | exact Kd.N_nil _ _ _ _ _ | exact Kd.V_nil _ _ _ _ _ | exact Kd.Q_nil _ _ _ _ _ | exact Kd.S_nil _ _ _ _ _, by repeat (first | (with_reducible first | exact HB.out | apply below_alloc | apply pw_below_drewN | apply below_drew1 | refine below_set ?_ GE107.out) | exact HB.out)⟩
 replace c13 := Bool.eq_false_iff.mpr c13
 subst c13
 have H1 : ((stat_fresh.f 32).bind fun t108 => ((stat_field_set.f kj1 t108 0 8 a0_0).bind fun t112 => ((stat_field_set.f kj1 t112 8 2 a0_1).bind fun t113 => ((stat_field_set.f kj1 t113 10 1 a0_2).bind fun t114 => ((stat_field_set.f kj1 t114 16 8 a0_3).bind fun t115 => (some (t115, 0))))))) = some (r1, r2) := by rw [if_neg (show ¬ (false = true) by decide)] at H; exact H
 clear H
 have H := H1
 clear H1
 replace H := bm_ H
 obtain ⟨t108, A140, H⟩ := H
 replace H : ((stat_field_set.f kj1 t108 0 8 a0_0).bind fun t112 => ((stat_field_set.f kj1 t112 8 2 a0_1).bind fun t113 => ((stat_field_set.f kj1 t113 10 1 a0_2).bind fun t114 => ((stat_field_set.f kj1 t114 16 8 a0_3).bind fun t115 => (some (t115, 0)))))) = some (r1, r2) := H
 have A14 := am_ A140
 clear A140
 replace H := bm_ H
 obtain ⟨t112, A150, H⟩ := H
 replace H : ((stat_field_set.f kj1 t112 8 2 a0_1).bind fun t113 => ((stat_field_set.f kj1 t113 10 1 a0_2).bind fun t114 => ((stat_field_set.f kj1 t114 16 8 a0_3).bind fun t115 => (some (t115, 0))))) = some (r1, r2) := H
 have A15 := am_ A150
 clear A150
 replace H := bm_ H
 obtain ⟨t113, A160, H⟩ := H
 replace H : ((stat_field_set.f kj1 t113 10 1 a0_2).bind fun t114 => ((stat_field_set.f kj1 t114 16 8 a0_3).bind fun t115 => (some (t115, 0)))) = some (r1, r2) := H
 have A16 := am_ A160
 clear A160
 replace H := bm_ H
 obtain ⟨t114, A170, H⟩ := H
 replace H : ((stat_field_set.f kj1 t114 16 8 a0_3).bind fun t115 => (some (t115, 0))) = some (r1, r2) := H
 have A17 := am_ A170
 clear A170
 replace H := bm_ H
 obtain ⟨t115, A180, H⟩ := H
 replace H : (some (t115, 0)) = some (r1, r2) := H
 have A18 := am_ A180
 clear A180
 simp only [Option.some.injEq, Prod.mk.injEq] at H
 obtain ⟨rfl, rfl⟩ := H
 go_wp2_with (first | ((with_reducible refine gate_callee (f := 31) rfl ?_); refine goesL_ (some 29) rfl rfl Try.func31 (by kernel_rfl) rfl #[.int .i64 32] rfl (by (try simp only [List.map_toArray, List.map_cons, List.map_nil]); first | done | rfl | (simp only [List.length_drop, List.length_take]; rfl)) ?_; (with_reducible refine (stat_fresh.calls 32 t108 _ A14.out).mono ?_); rintro e w19 ⟨v109, rfl, ho0, hb⟩; refine ⟨_, rfl, ?_⟩; have n0_ := am_ (Kd.R_lower ho0 (below_size aa_1)); have n1_ := am_ (bbelow BK107 aa_0 hb); have n2_ := am_ (below_step aa_1 hb); clear BK107; clear HB; have HO110 := n0_; have BK107 := n1_; have HB := n2_; clear n0_ n1_ n2_; (try clear hb); (try clear hb2); (try clear hk); (try clear hi); (try clear ho0)) | ((with_reducible refine gate_dst (N := 4) rfl ?_); refine box_event ?hg (N := 4) ?hd (cs := #[.slice none 0 0]) (t := 61) ?hr ?_; (case hd => rfl); (case hg => rfl); (case hr => first | (go_simp; done) | (go_simp; rfl)); intro gb111 hg w20 hbox hb; have n0_ := am_ (Kd.R_below (by (with_reducible repeat (first | apply Kd.R_alloc | apply Kd.R_drewN | apply Kd.R_drew)); exact HO110.out) hb); have n1_ := am_ (bbelow BK107 aa_0 hb); have n2_ := am_ (below_step aa_1 hb); have n3_ := am_ (hbox); have n4_ := am_ ((by rw [hg]; exact (below_size aa_1) : w.heap.size ≤ gb111)); have n5_ := am_ ((by rw [hg]; exact (below_size aa_1) : w.heap.size ≤ gb111)); have n6_ := am_ ((by rw [hg]; exact Nat.ne_of_lt (blk_lt (g := gb107) (o := .cells #[.int .i64 a0_0, .int .i64 a0_1, .int .i64 a0_2, .int .i64 a0_3] 33 (0, 0)) aa_0) : gb107 ≠ gb111)); have n7_ := am_ ((by rw [hg]; exact Nat.ne_of_gt (blk_lt (g := gb107) (o := .cells #[.int .i64 a0_0, .int .i64 a0_1, .int .i64 a0_2, .int .i64 a0_3] 33 (0, 0)) aa_0) : gb111 ≠ gb107)); clear HO110; clear BK107; clear HB; have HO110 := n0_; have BK107 := n1_; have HB := n2_; have BK111 := n3_; have GW111 := n4_; have GE111 := n5_; have NB107_111 := n6_; have NB111_107 := n7_; clear n0_ n1_ n2_ n3_ n4_ n5_ n6_ n7_; clear hb hbox hg; obtain ⟨Ao21, co21, eo21⟩ := Kd.R_slice HO110.out; subst eo21; have hnb22 := NB111_107.out; have hnc22 := NB107_111.out; have hcz23_0 : w20.cell? ⟨gb111, 0, none⟩ = some (.slice none 0 0) := (bc BK111 0); have hfz23_0 := blk_frozen BK111.out 0) | ((with_reducible refine gate_store (t := 61) (p := 4) rfl ?_); refine store_event (t := 61) (p := 4) (v := ?vo_w24) (w1 := (w20.setCell ⟨gb111, 0, none⟩ (.slice Ao21 t108.length co21))) ?hg ?ho ?hn ?hr ?_; (case ho => rfl); (case hg => rfl); (case hn => rfl); (case hr => first | (go_simp; done) | (go_simp; rfl)); intro w24 hw; have n0_ : Aside0 (Kd.R (Kd.int .u8) 5 w24 w.heap.size (fun _ => True) (.slice Ao21 t108.length co21) t108) := ⟨(by rw [hw]; exact (by (with_reducible repeat (first | apply Kd.R_alloc | apply Kd.R_drewN | apply Kd.R_drew)); exact Kd.R_mono (Kd.R_far (p := ⟨gb111, 0, none⟩) (Kd.R_types HO110.out BK111.out (by decide)) (fun _ hk => hk.2) (.slice Ao21 t108.length co21)) (fun _ hk => trivial)))⟩; have n1_ : Aside0 (w24.heap[gb107]? = some (.cells #[.int .i64 a0_0, .int .i64 a0_1, .int .i64 a0_2, .int .i64 a0_3] 33 (0, 0))) := ⟨(by rw [hw]; exact (by (with_reducible repeat (first | refine blk_drewN ?_ _ | refine blk_drew ?_ | refine blk_alloc ?_ _)); refine blk_far ?_ NB107_111.out _; (with_reducible repeat (first | refine blk_drewN ?_ _ | refine blk_drew ?_ | refine blk_alloc ?_ _)); exact BK107.out))⟩; have n2_ : Aside0 (w24.heap[gb111]? = some (.cells #[.slice Ao21 t108.length co21] 61 (0, 0))) := ⟨(by rw [hw]; exact (by (with_reducible repeat (first | refine blk_drewN ?_ _ | refine blk_drew ?_ | refine blk_alloc ?_ _)); refine blk_put (cs := #[.slice none 0 0]) ?_ 0 _ rfl; (with_reducible repeat (first | refine blk_drewN ?_ _ | refine blk_drew ?_ | refine blk_alloc ?_ _)); exact BK111.out))⟩; have n3_ : Aside0 (Below w.heap.size w w24) := ⟨(by rw [hw]; exact (by repeat (first | (with_reducible first | exact HB.out | apply below_alloc | apply pw_below_drewN | apply below_drew1 | refine below_set ?_ GE107.out | refine below_set ?_ GE111.out) | exact HB.out)))⟩; clear hw; clear HO110; clear BK107; clear BK111; clear HB; have HO110 := n0_; have BK107 := n1_; have BK111 := n2_; have HB := n3_; clear n0_ n1_ n2_ n3_; have hcz25_0 : w24.cell? ⟨gb111, 0, none⟩ = some (.slice Ao21 t108.length co21) := (bc BK111 0); have hfz25_0 := blk_frozen BK111.out 0; have hcz26_0 : w24.cell? ⟨gb107, 0, none⟩ = some (.int .i64 a0_0) := (bc BK107 0); have hcz26_1 : w24.cell? ⟨gb107, 1, none⟩ = some (.int .i64 a0_1) := (bc BK107 1); have hcz26_2 : w24.cell? ⟨gb107, 2, none⟩ = some (.int .i64 a0_2) := (bc BK107 2); have hcz26_3 : w24.cell? ⟨gb107, 3, none⟩ = some (.int .i64 a0_3) := (bc BK107 3); have hfz26_0 := blk_frozen BK107.out 0; have hfz26_1 := blk_frozen BK107.out 1; have hfz26_2 := blk_frozen BK107.out 2; have hfz26_3 := blk_frozen BK107.out 3) | ((with_reducible refine Go.Proofs.YthhmnecnoojcpaaO.gate_value (F := .tmp 32) rfl ?_); refine Go.Proofs.YthhmnecnoojcpaaO.goesM_ (some 35) rfl rfl Try.func32 (by kernel_rfl) rfl #[.agg #[.slice Ao21 t108.length co21], .int .i64 0, .int .i64 8, .int .i64 a0_0] rfl rfl aa_2 ?_; (with_reducible refine (stat_field_set.calls kj1 (fun k_ => some k_ = (.slice Ao21 t108.length co21 : Value).ownBlock) (.slice Ao21 t108.length co21) t108 0 8 a0_0 t112 w _ ?side1 ?side2 A15.out).mono ?_); (case side1 => exact aa_4); (case side2 => exact Kd.R_tight rfl HO110.out); rintro e w27 ⟨rfl, hy0, hb, hkp⟩; refine ⟨_, rfl, ?_⟩; (try obtain ⟨hlew27_0, hgew27_0⟩ := Go.Proofs.YthhmnecnoojcpaaO.R_lens hy0); have n0_ := am_ (bkept BK107 aa_0 hkp (fun hs_ => (fun e_ => (Kd.R_ne HO110.out BK107.out (by decide)) e_) hs_)); have n1_ := am_ (Kd.R_reok rfl hy0 (fun k_ e_ => HO110.out.1 k_ e_)); have n2_ := am_ (bkept BK111 aa_3 hkp (fun hs_ => (fun e_ => (Kd.R_ne HO110.out BK111.out (by decide)) e_) hs_)); have n3_ := am_ (hb); clear BK107; clear HO110; clear BK111; clear HB; have BK107 := n0_; have HO110 := n1_; have BK111 := n2_; have HB := n3_; clear n0_ n1_ n2_ n3_; (try clear hb); (try clear hkp); (try clear hy0); have hcz28_0 : w27.cell? ⟨gb107, 0, none⟩ = some (.int .i64 a0_0) := (bc BK107 0); have hcz28_1 : w27.cell? ⟨gb107, 1, none⟩ = some (.int .i64 a0_1) := (bc BK107 1); have hcz28_2 : w27.cell? ⟨gb107, 2, none⟩ = some (.int .i64 a0_2) := (bc BK107 2); have hcz28_3 : w27.cell? ⟨gb107, 3, none⟩ = some (.int .i64 a0_3) := (bc BK107 3); have hfz28_0 := blk_frozen BK107.out 0; have hfz28_1 := blk_frozen BK107.out 1; have hfz28_2 := blk_frozen BK107.out 2; have hfz28_3 := blk_frozen BK107.out 3) | ((with_reducible refine Go.Proofs.YthhmnecnoojcpaaO.gate_value (F := .tmp 36) rfl ?_); refine Go.Proofs.YthhmnecnoojcpaaO.goesM_ (some 39) rfl rfl Try.func32 (by kernel_rfl) rfl #[.agg #[.slice Ao21 t108.length co21], .int .i64 8, .int .i64 2, .int .i64 a0_1] rfl rfl aa_2 ?_; (with_reducible refine (stat_field_set.calls kj1 (fun k_ => some k_ = (.slice Ao21 t108.length co21 : Value).ownBlock) (.slice Ao21 t108.length co21) t112 8 2 a0_1 t113 w _ ?side1 ?side2 A16.out).mono ?_); (case side1 => exact aa_4); (case side2 => exact Kd.R_tight rfl HO110.out); rintro e w29 ⟨rfl, hy0, hb, hkp⟩; refine ⟨_, rfl, ?_⟩; (try obtain ⟨hlew29_0, hgew29_0⟩ := Go.Proofs.YthhmnecnoojcpaaO.R_lens hy0); have n0_ := am_ (bkept BK107 aa_0 hkp (fun hs_ => (fun e_ => (Kd.R_ne HO110.out BK107.out (by decide)) e_) hs_)); have n1_ := am_ (Kd.R_reok rfl hy0 (fun k_ e_ => HO110.out.1 k_ e_)); have n2_ := am_ (bkept BK111 aa_3 hkp (fun hs_ => (fun e_ => (Kd.R_ne HO110.out BK111.out (by decide)) e_) hs_)); have n3_ := am_ (hb); clear BK107; clear HO110; clear BK111; clear HB; have BK107 := n0_; have HO110 := n1_; have BK111 := n2_; have HB := n3_; clear n0_ n1_ n2_ n3_; (try clear hb); (try clear hkp); (try clear hy0); have hcz30_0 : w29.cell? ⟨gb107, 0, none⟩ = some (.int .i64 a0_0) := (bc BK107 0); have hcz30_1 : w29.cell? ⟨gb107, 1, none⟩ = some (.int .i64 a0_1) := (bc BK107 1); have hcz30_2 : w29.cell? ⟨gb107, 2, none⟩ = some (.int .i64 a0_2) := (bc BK107 2); have hcz30_3 : w29.cell? ⟨gb107, 3, none⟩ = some (.int .i64 a0_3) := (bc BK107 3); have hfz30_0 := blk_frozen BK107.out 0; have hfz30_1 := blk_frozen BK107.out 1; have hfz30_2 := blk_frozen BK107.out 2; have hfz30_3 := blk_frozen BK107.out 3) | ((with_reducible refine Go.Proofs.YthhmnecnoojcpaaO.gate_value (F := .tmp 40) rfl ?_); refine Go.Proofs.YthhmnecnoojcpaaO.goesM_ (some 43) rfl rfl Try.func32 (by kernel_rfl) rfl #[.agg #[.slice Ao21 t108.length co21], .int .i64 10, .int .i64 1, .int .i64 a0_2] rfl rfl aa_2 ?_; (with_reducible refine (stat_field_set.calls kj1 (fun k_ => some k_ = (.slice Ao21 t108.length co21 : Value).ownBlock) (.slice Ao21 t108.length co21) t113 10 1 a0_2 t114 w _ ?side1 ?side2 A17.out).mono ?_); (case side1 => exact aa_4); (case side2 => exact Kd.R_tight rfl HO110.out); rintro e w31 ⟨rfl, hy0, hb, hkp⟩; refine ⟨_, rfl, ?_⟩; (try obtain ⟨hlew31_0, hgew31_0⟩ := Go.Proofs.YthhmnecnoojcpaaO.R_lens hy0); have n0_ := am_ (bkept BK107 aa_0 hkp (fun hs_ => (fun e_ => (Kd.R_ne HO110.out BK107.out (by decide)) e_) hs_)); have n1_ := am_ (Kd.R_reok rfl hy0 (fun k_ e_ => HO110.out.1 k_ e_)); have n2_ := am_ (bkept BK111 aa_3 hkp (fun hs_ => (fun e_ => (Kd.R_ne HO110.out BK111.out (by decide)) e_) hs_)); have n3_ := am_ (hb); clear BK107; clear HO110; clear BK111; clear HB; have BK107 := n0_; have HO110 := n1_; have BK111 := n2_; have HB := n3_; clear n0_ n1_ n2_ n3_; (try clear hb); (try clear hkp); (try clear hy0); have hcz32_0 : w31.cell? ⟨gb107, 0, none⟩ = some (.int .i64 a0_0) := (bc BK107 0); have hcz32_1 : w31.cell? ⟨gb107, 1, none⟩ = some (.int .i64 a0_1) := (bc BK107 1); have hcz32_2 : w31.cell? ⟨gb107, 2, none⟩ = some (.int .i64 a0_2) := (bc BK107 2); have hcz32_3 : w31.cell? ⟨gb107, 3, none⟩ = some (.int .i64 a0_3) := (bc BK107 3); have hfz32_0 := blk_frozen BK107.out 0; have hfz32_1 := blk_frozen BK107.out 1; have hfz32_2 := blk_frozen BK107.out 2; have hfz32_3 := blk_frozen BK107.out 3) | ((with_reducible refine Go.Proofs.YthhmnecnoojcpaaO.gate_value (F := .tmp 44) rfl ?_); refine Go.Proofs.YthhmnecnoojcpaaO.goesM_ (some 47) rfl rfl Try.func32 (by kernel_rfl) rfl #[.agg #[.slice Ao21 t108.length co21], .int .i64 16, .int .i64 8, .int .i64 a0_3] rfl rfl aa_2 ?_; (with_reducible refine (stat_field_set.calls kj1 (fun k_ => some k_ = (.slice Ao21 t108.length co21 : Value).ownBlock) (.slice Ao21 t108.length co21) t114 16 8 a0_3 t115 w _ ?side1 ?side2 A18.out).mono ?_); (case side1 => exact aa_4); (case side2 => exact Kd.R_tight rfl HO110.out); rintro e w33 ⟨rfl, hy0, hb, hkp⟩; refine ⟨_, rfl, ?_⟩; (try obtain ⟨hlew33_0, hgew33_0⟩ := Go.Proofs.YthhmnecnoojcpaaO.R_lens hy0); have n0_ := am_ (bkept BK107 aa_0 hkp (fun hs_ => (fun e_ => (Kd.R_ne HO110.out BK107.out (by decide)) e_) hs_)); have n1_ := am_ (Kd.R_reok rfl hy0 (fun k_ e_ => HO110.out.1 k_ e_)); have n2_ := am_ (bkept BK111 aa_3 hkp (fun hs_ => (fun e_ => (Kd.R_ne HO110.out BK111.out (by decide)) e_) hs_)); have n3_ := am_ (hb); clear BK107; clear HO110; clear BK111; clear HB; have BK107 := n0_; have HO110 := n1_; have BK111 := n2_; have HB := n3_; clear n0_ n1_ n2_ n3_; (try clear hb); (try clear hkp); (try clear hy0); have hcz34_0 : w33.cell? ⟨gb111, 0, none⟩ = some (.slice Ao21 t108.length co21) := (bc BK111 0); have hfz34_0 := blk_frozen BK111.out 0))
 go_ret2
 exact ⟨_, by first | rfl | (simp [errW_none, errW_some] <;> rfl) | (simp [*, errW_none, errW_some] <;> rfl), by (with_reducible repeat (first | apply Kd.R_alloc | apply Kd.R_drewN | apply Kd.R_drew)); exact HO110.out, by repeat (first | (with_reducible first | exact HB.out | apply below_alloc | apply pw_below_drewN | apply below_drew1 | refine below_set ?_ GE107.out | refine below_set ?_ GE111.out) | exact HB.out)⟩
/-! ### gangwaylaw20_num: function 19 -/
def gangwaylaw20_num.f (a0 : Int) : Option (Int) := some a0
set_option maxHeartbeats 8000000 in
set_option maxRecDepth 100000 in
theorem gangwaylaw20_num.calls (a0 : Int) (r : Int) (w : World) (h : gangwaylaw20_num.f a0 = some r) :
    Calls Try.prog 19 #[.int .i64 a0] w fun e w' => e = .returned (.int .i64 r) ∧ Drawn0 w w' := by
  have H : (some a0) = some r := h
  clear h
  obtain rfl := Option.some.inj H
  go_enter Try.func19, Try.ntmps19
  go_wp2
  go_ret
  exact ⟨by first | rfl | (simp; done) | (simp [*]; done), by repeat (first | exact Drawn0.refl _ | apply Drawn0.step)⟩

/-! ### gangwayref0_EqBytes: function 26 -/
def gangwayref0_EqBytes.l0 : Nat → List Int → List Int → Int → Option (Bool)
  | 0, _, _, _ => none
  | k + 1, x0, x1, x5 => if x5 < (x0.length : Int) then (if 0 ≤ x5 then (if x5 < (x1.length : Int) then (if (rd x0 x5) = (rd x1 x5) then (gangwayref0_EqBytes.l0 k x0 x1 (wrap64 (x5 + 1))) else (some false)) else (none)) else (none)) else (some true)
def gangwayref0_EqBytes.f (k : Nat) (l0 : List Int) (l1 : List Int) : Option (Bool) := if (l0.length : Int) = (l1.length : Int) then (gangwayref0_EqBytes.l0 k l0 l1 0) else (some false)
theorem gangwayref0_EqBytes.mono_l : ∀ k, (∀ y0 y1 y2, LeO (gangwayref0_EqBytes.l0 k y0 y1 y2) (gangwayref0_EqBytes.l0 (k + 1) y0 y1 y2))
  | 0 => fun _ _ _ r h => by simp [gangwayref0_EqBytes.l0] at h
  | k + 1 => by
    have ih0 := gangwayref0_EqBytes.mono_l k
    · intro y0 y1 y2
      unfold gangwayref0_EqBytes.l0
      repeat' first
      | (with_reducible exact ih0 _ _ _)
      | (with_reducible exact LeO.refl _)
      | (with_reducible exact LeO.none _)
      | (with_reducible refine LeO.ite ?_ ?_)
      | (with_reducible refine LeO.bind ?_ (fun _ => ?_))
      | exact ih0 _ _ _
      | exact LeO.none _
      | refine LeO.ite ?_ ?_
      | refine LeO.bind ?_ (fun _ => ?_)
theorem gangwayref0_EqBytes.mono : ∀ a0 a1 k, LeO (gangwayref0_EqBytes.f k a0 a1) (gangwayref0_EqBytes.f (k + 1) a0 a1) := by
  intro a0 a1 k
  have ih0 := gangwayref0_EqBytes.mono_l k
  unfold gangwayref0_EqBytes.f
  repeat' first
      | (with_reducible exact ih0 _ _ _)
      | (with_reducible exact LeO.refl _)
      | (with_reducible exact LeO.none _)
      | (with_reducible refine LeO.ite ?_ ?_)
      | (with_reducible refine LeO.bind ?_ (fun _ => ?_))
      | exact ih0 _ _ _
      | exact LeO.none _
      | refine LeO.ite ?_ ?_
      | refine LeO.bind ?_ (fun _ => ?_)
set_option maxHeartbeats 8000000 in
set_option maxRecDepth 100000 in
theorem gangwayref0_EqBytes.calls (k : Nat) (A0 : Option Addr) (c0 : Nat) (l0 : List Int) (A1 : Option Addr) (c1 : Nat) (l1 : List Int) (r : Bool) (w : World) (hr0 : Kd.C (Kd.int .u8) w A0 l0.length l0) (hc0 : l0.length ≤ c0) (hr1 : Kd.C (Kd.int .u8) w A1 l1.length l1) (hc1 : l1.length ≤ c1) (h : gangwayref0_EqBytes.f k l0 l1 = some r) :
    Calls Try.prog 26 #[.slice A0 l0.length c0, .slice A1 l1.length c1] w fun e w' => e = .returned (.bool r) ∧ Drawn0 w w' := by
  have HR0 := Aside0.mk hr0
  have HC0 := Aside0.mk hc0
  clear hr0 hc0
  have HR1 := Aside0.mk hr1
  have HC1 := Aside0.mk hc1
  clear hr1 hc1
  have H : (if (l0.length : Int) = (l1.length : Int) then (gangwayref0_EqBytes.l0 k l0 l1 0) else (some false)) = some r := h
  clear h
  by_cases c3 : (l0.length : Int) = (l1.length : Int)
  · rw [if_pos c3] at H
    have c3b0 : ((l0.length : Int) == (l1.length : Int)) = true := beq_iff_eq.mpr c3
    have c3b1 : ((l0.length : Int) != (l1.length : Int)) = false := bne_eq_false_iff_eq.mpr c3
    have c3b2 : (l0.length == l1.length) = true := by first | simpa using c3 | (simp at c3 ⊢; omega)
    clear c3
    have H' := Aside0.mk H
    clear H
    go_enter Try.func26, Try.ntmps26
    go_wp2
    repeat (go_quiet (fail); try go_wp2)
    go_loopg [5] k (fun kq v5 w' => ∃ (x5_1 : Int), v5 = .int .i64 x5_1 ∧ Aside0 (gangwayref0_EqBytes.l0 kq l0 l1 x5_1 = some r) ∧ Aside0 (kq ≤ k) ∧ Drawn0 w w')
    case atStart => exact ⟨(0), (by first | rfl | (simp; done) | (simp [*]; done)), H', ⟨Nat.le_refl _⟩, by repeat (first | exact Drawn0.refl _ | apply Drawn0.step)⟩
    case round =>
      clear H'
      try clear c1
      try clear c2
      try clear p2
      try clear c3
      try clear c3b0
      try clear c3b1
      try clear c3b2
      obtain ⟨x5_1, rfl, HA, HK1, ⟨m1, rfl⟩⟩ := hrel
      cases gk with
      | zero => exact absurd HA.out (by simp [gangwayref0_EqBytes.l0])
      | succ k1 =>
        have H := HA.out
        clear HA
        simp only [gangwayref0_EqBytes.l0] at H
        by_cases c4 : x5_1 < (l0.length : Int)
        · rw [if_pos c4] at H
          have c4b0 : decide (x5_1 < (l0.length : Int)) = true := decide_eq_true c4
          clear c4
          by_cases c5 : 0 ≤ x5_1
          · rw [if_pos c5] at H
            have c5b0 : decide (0 ≤ x5_1) = true := decide_eq_true c5
            clear c5
            by_cases c6 : x5_1 < (l1.length : Int)
            · rw [if_pos c6] at H
              have c6b0 : decide (x5_1 < (l1.length : Int)) = true := decide_eq_true c6
              clear c6
              by_cases c7 : (rd l0 x5_1) = (rd l1 x5_1)
              · rw [if_pos c7] at H
                have c7b0 : ((rd l0 x5_1) == (rd l1 x5_1)) = true := beq_iff_eq.mpr c7
                have c7b1 : ((rd l0 x5_1) != (rd l1 x5_1)) = false := bne_eq_false_iff_eq.mpr c7
                clear c7
                have H' := Aside0.mk H
                clear H
                have p116 : 0 ≤ (x5_1 : Int) := of_decide_eq_true (by first | (with_reducible assumption) | assumption)
                have q116 : x5_1 < (l0.length : Int) := of_decide_eq_true (by first | (with_reducible assumption) | assumption)
                obtain ⟨ad116, e116, hx116_0⟩ := Kd.at_int HR0.out x5_1 p116 q116
                cases e116
                replace p116 := eq_true p116
                replace q116 := eq_true q116
                have p117 : 0 ≤ (x5_1 : Int) := of_decide_eq_true (by first | (with_reducible assumption) | assumption)
                have q117 : x5_1 < (l1.length : Int) := of_decide_eq_true (by first | (with_reducible assumption) | assumption)
                obtain ⟨ad117, e117, hx117_0⟩ := Kd.at_int HR1.out x5_1 p117 q117
                cases e117
                replace p117 := eq_true p117
                replace q117 := eq_true q117
                go_wp2
                repeat (go_quiet (fail); try go_wp2)
                go_roundg k1
                case measure => have := HK1.out; omega
                case rel => exact ⟨(wrap64 (x5_1 + 1)), (by first | rfl | (simp; done) | (simp [*]; done)), H', ⟨by have := HK1.out; omega⟩, by repeat (first | exact Drawn0.refl _ | apply Drawn0.step)⟩
              · rw [if_neg c7] at H
                have c7b0 : ((rd l0 x5_1) == (rd l1 x5_1)) = false := beq_eq_false_iff_ne.mpr c7
                have c7b1 : ((rd l0 x5_1) != (rd l1 x5_1)) = true := bne_iff_ne.mpr c7
                obtain rfl := Option.some.inj H
                have p116 : 0 ≤ (x5_1 : Int) := of_decide_eq_true (by first | (with_reducible assumption) | assumption)
                have q116 : x5_1 < (l0.length : Int) := of_decide_eq_true (by first | (with_reducible assumption) | assumption)
                obtain ⟨ad116, e116, hx116_0⟩ := Kd.at_int HR0.out x5_1 p116 q116
                cases e116
                replace p116 := eq_true p116
                replace q116 := eq_true q116
                have p117 : 0 ≤ (x5_1 : Int) := of_decide_eq_true (by first | (with_reducible assumption) | assumption)
                have q117 : x5_1 < (l1.length : Int) := of_decide_eq_true (by first | (with_reducible assumption) | assumption)
                obtain ⟨ad117, e117, hx117_0⟩ := Kd.at_int HR1.out x5_1 p117 q117
                cases e117
                replace p117 := eq_true p117
                replace q117 := eq_true q117
                go_wp2
                repeat (go_quiet (fail); try go_wp2)
                go_ret
                exact ⟨by first | rfl | (simp; done) | (simp [*]; done), by repeat (first | exact Drawn0.refl _ | apply Drawn0.step)⟩
            · rw [if_neg c6] at H
              exact absurd H (by simp)
          · rw [if_neg c5] at H
            exact absurd H (by simp)
        · rw [if_neg c4] at H
          have c4b0 : decide (x5_1 < (l0.length : Int)) = false := decide_eq_false c4
          clear c4
          obtain rfl := Option.some.inj H
          go_wp2
          repeat (go_quiet (fail); try go_wp2)
          go_ret
          exact ⟨by first | rfl | (simp; done) | (simp [*]; done), by repeat (first | exact Drawn0.refl _ | apply Drawn0.step)⟩
  · rw [if_neg c3] at H
    have c3b0 : ((l0.length : Int) == (l1.length : Int)) = false := beq_eq_false_iff_ne.mpr c3
    have c3b1 : ((l0.length : Int) != (l1.length : Int)) = true := bne_iff_ne.mpr c3
    have c3b2 : (l0.length == l1.length) = false := by first | simpa using c3 | (simp at c3 ⊢; omega)
    obtain rfl := Option.some.inj H
    go_enter Try.func26, Try.ntmps26
    go_wp2
    repeat (go_quiet (fail); try go_wp2)
    go_ret
    exact ⟨by first | rfl | (simp; done) | (simp [*]; done), by repeat (first | exact Drawn0.refl _ | apply Drawn0.step)⟩

/-! ### gangwaylaw20_is: function 11 -/
def gangwaylaw20_is.f (k : Nat) (l0 : List Int) (a1 : Int) (a2 : Bool) (l3 : List Int) : Option (Bool) := if a2 = true then ((gangwaylaw20_num.f a1).bind fun t118 => (if t118 = 0 then ((gangwayref0_EqBytes.f k l0 l3).bind fun t119 => (some t119)) else (some false))) else ((gangwaylaw20_num.f a1).bind fun t120 => (if t120 = 100 then (some ((l0.length : Int) == 0)) else (some false)))
theorem gangwaylaw20_is.mono : ∀ a0 a1 a2 a3 k, LeO (gangwaylaw20_is.f k a0 a1 a2 a3) (gangwaylaw20_is.f (k + 1) a0 a1 a2 a3) := by
  intro a0 a1 a2 a3 k
  unfold gangwaylaw20_is.f
  repeat' first
      | (with_reducible exact gangwayref0_EqBytes.mono _ _ _)
      | (with_reducible exact LeO.refl _)
      | (with_reducible exact LeO.none _)
      | (with_reducible refine LeO.ite ?_ ?_)
      | (with_reducible refine LeO.bind ?_ (fun _ => ?_))
      | exact gangwayref0_EqBytes.mono _ _ _
      | exact LeO.none _
      | refine LeO.ite ?_ ?_
      | refine LeO.bind ?_ (fun _ => ?_)
set_option maxHeartbeats 8000000 in
set_option maxRecDepth 100000 in
theorem gangwaylaw20_is.calls (k : Nat) (A0 : Option Addr) (c0 : Nat) (l0 : List Int) (a1 : Int) (a2 : Bool) (A3 : Option Addr) (c3 : Nat) (l3 : List Int) (r : Bool) (w : World) (hr0 : Kd.C (Kd.int .u8) w A0 l0.length l0) (hc0 : l0.length ≤ c0) (hr3 : Kd.C (Kd.int .u8) w A3 l3.length l3) (hc3 : l3.length ≤ c3) (h : gangwaylaw20_is.f k l0 a1 a2 l3 = some r) :
    Calls Try.prog 11 #[.slice A0 l0.length c0, .int .i64 a1, .bool a2, .slice A3 l3.length c3] w fun e w' => e = .returned (.bool r) ∧ Drawn0 w w' := by
  have HR0 := Aside0.mk hr0
  have HC0 := Aside0.mk hc0
  clear hr0 hc0
  have HR3 := Aside0.mk hr3
  have HC3 := Aside0.mk hc3
  clear hr3 hc3
  have H : (if a2 = true then ((gangwaylaw20_num.f a1).bind fun t118 => (if t118 = 0 then ((gangwayref0_EqBytes.f k l0 l3).bind fun t119 => (some t119)) else (some false))) else ((gangwaylaw20_num.f a1).bind fun t120 => (if t120 = 100 then (some ((l0.length : Int) == 0)) else (some false)))) = some r := h
  clear h
  by_cases c5 : a2 = true
  · subst c5
    have H1 : ((gangwaylaw20_num.f a1).bind fun t118 => (if t118 = 0 then ((gangwayref0_EqBytes.f k l0 l3).bind fun t119 => (some t119)) else (some false))) = some r := by rw [if_pos rfl] at H; exact H
    clear H
    have H := H1
    clear H1
    replace H := Option.bind_eq_some_iff.mp H
    obtain ⟨t118, A60, H⟩ := H
    replace H : (if t118 = 0 then ((gangwayref0_EqBytes.f k l0 l3).bind fun t119 => (some t119)) else (some false)) = some r := H
    have A6 := Aside0.mk A60
    clear A60
    by_cases c7 : t118 = 0
    · rw [if_pos c7] at H
      have c7b0 : (t118 == 0) = true := beq_iff_eq.mpr c7
      have c7b1 : (t118 != 0) = false := bne_eq_false_iff_eq.mpr c7
      clear c7
      replace H := Option.bind_eq_some_iff.mp H
      obtain ⟨t119, A80, H⟩ := H
      replace H : (some t119) = some r := H
      have A8 := Aside0.mk A80
      clear A80
      obtain rfl := Option.some.inj H
      go_enter Try.func11, Try.ntmps11
      go_wp2_with (first | ((with_reducible refine gate_callee (f := 19) rfl ?_); refine goesL_ (some 20) rfl rfl Try.func19 (by kernel_rfl) rfl #[.int .i64 a1] rfl (by (try simp only [List.map_toArray, List.map_cons, List.map_nil]); first | done | rfl | (simp only [List.length_drop, List.length_take]; rfl)) ?_; (with_reducible refine (gangwaylaw20_num.calls a1 t118 _ A6.out).mono ?_); rintro e w' ⟨rfl, ⟨nd, rfl⟩⟩; refine ⟨_, rfl, ?_⟩) | (go_at_call 26; (with_reducible refine (gangwayref0_EqBytes.calls k _ _ l0 _ _ l3 t119 _ ?side1 ?side2 ?side3 ?side4 A8.out).mono ?_); (case side1 => repeat (first | exact HR0.out | (with_reducible refine Kd.C_alloc ?_ _) | (with_reducible refine Kd.C_drewN ?_ _) | (with_reducible refine Kd.C_drew ?_))); (case side2 => exact HC0.out); (case side3 => repeat (first | exact HR3.out | (with_reducible refine Kd.C_alloc ?_ _) | (with_reducible refine Kd.C_drewN ?_ _) | (with_reducible refine Kd.C_drew ?_))); (case side4 => exact HC3.out); rintro e w' ⟨rfl, ⟨nd, rfl⟩⟩))
      go_ret
      exact ⟨by first | rfl | (simp; done) | (simp [*]; done), by repeat (first | exact Drawn0.refl _ | apply Drawn0.step)⟩
    · rw [if_neg c7] at H
      have c7b0 : (t118 == 0) = false := beq_eq_false_iff_ne.mpr c7
      have c7b1 : (t118 != 0) = true := bne_iff_ne.mpr c7
      obtain rfl := Option.some.inj H
      go_enter Try.func11, Try.ntmps11
      go_wp2_with (first | ((with_reducible refine gate_callee (f := 19) rfl ?_); refine goesL_ (some 20) rfl rfl Try.func19 (by kernel_rfl) rfl #[.int .i64 a1] rfl (by (try simp only [List.map_toArray, List.map_cons, List.map_nil]); first | done | rfl | (simp only [List.length_drop, List.length_take]; rfl)) ?_; (with_reducible refine (gangwaylaw20_num.calls a1 t118 _ A6.out).mono ?_); rintro e w' ⟨rfl, ⟨nd, rfl⟩⟩; refine ⟨_, rfl, ?_⟩))
      go_ret
      exact ⟨by first | rfl | (simp; done) | (simp [*]; done), by repeat (first | exact Drawn0.refl _ | apply Drawn0.step)⟩
  · replace c5 := Bool.eq_false_iff.mpr c5
    subst c5
    have H1 : ((gangwaylaw20_num.f a1).bind fun t120 => (if t120 = 100 then (some ((l0.length : Int) == 0)) else (some false))) = some r := by rw [if_neg (show ¬ (false = true) by decide)] at H; exact H
    clear H
    have H := H1
    clear H1
    replace H := Option.bind_eq_some_iff.mp H
    obtain ⟨t120, A90, H⟩ := H
    replace H : (if t120 = 100 then (some ((l0.length : Int) == 0)) else (some false)) = some r := H
    have A9 := Aside0.mk A90
    clear A90
    by_cases c10 : t120 = 100
    · rw [if_pos c10] at H
      have c10b0 : (t120 == 100) = true := beq_iff_eq.mpr c10
      have c10b1 : (t120 != 100) = false := bne_eq_false_iff_eq.mpr c10
      clear c10
      obtain rfl := Option.some.inj H
      go_enter Try.func11, Try.ntmps11
      go_wp2_with (first | ((with_reducible refine gate_callee (f := 19) rfl ?_); refine goesL_ (some 12) rfl rfl Try.func19 (by kernel_rfl) rfl #[.int .i64 a1] rfl (by (try simp only [List.map_toArray, List.map_cons, List.map_nil]); first | done | rfl | (simp only [List.length_drop, List.length_take]; rfl)) ?_; (with_reducible refine (gangwaylaw20_num.calls a1 t120 _ A9.out).mono ?_); rintro e w' ⟨rfl, ⟨nd, rfl⟩⟩; refine ⟨_, rfl, ?_⟩))
      go_ret
      exact ⟨by first | rfl | (simp; done) | (simp [*]; done), by repeat (first | exact Drawn0.refl _ | apply Drawn0.step)⟩
    · rw [if_neg c10] at H
      have c10b0 : (t120 == 100) = false := beq_eq_false_iff_ne.mpr c10
      have c10b1 : (t120 != 100) = true := bne_iff_ne.mpr c10
      obtain rfl := Option.some.inj H
      go_enter Try.func11, Try.ntmps11
      go_wp2_with (first | ((with_reducible refine gate_callee (f := 19) rfl ?_); refine goesL_ (some 12) rfl rfl Try.func19 (by kernel_rfl) rfl #[.int .i64 a1] rfl (by (try simp only [List.map_toArray, List.map_cons, List.map_nil]); first | done | rfl | (simp only [List.length_drop, List.length_take]; rfl)) ?_; (with_reducible refine (gangwaylaw20_num.calls a1 t120 _ A9.out).mono ?_); rintro e w' ⟨rfl, ⟨nd, rfl⟩⟩; refine ⟨_, rfl, ?_⟩))
      go_ret
      exact ⟨by first | rfl | (simp; done) | (simp [*]; done), by repeat (first | exact Drawn0.refl _ | apply Drawn0.step)⟩

/-! ### gangwayref20_MayEvent: function 12 -/
def gangwayref20_MayEvent.f (a0_0 : Int) (a0_1 : Int) (a0_2 : Int) (a0_3 : Int) : Option (Bool) := if a0_1 ≥ 0 then (if a0_1 ≤ 76 then (if a0_2 ≥ 0 then (if a0_2 ≤ 2 then (some (decide (a0_3 ≥ 0))) else (some false)) else (some false)) else (some false)) else (some false)
set_option maxHeartbeats 8000000 in
set_option maxRecDepth 100000 in
theorem gangwayref20_MayEvent.calls (a0_0 : Int) (a0_1 : Int) (a0_2 : Int) (a0_3 : Int) (r : Bool) (w : World) (h : gangwayref20_MayEvent.f a0_0 a0_1 a0_2 a0_3 = some r) :
    Calls Try.prog 12 #[.agg #[.int .i64 a0_0, .int .i64 a0_1, .int .i64 a0_2, .int .i64 a0_3]] w fun e w' => e = .returned (.bool r) ∧ Below w.heap.size w w' := by
  have hu33 := Try.underlying33
  have HB := Aside0.mk (Below.refl w.heap.size w)
  have H : (if a0_1 ≥ 0 then (if a0_1 ≤ 76 then (if a0_2 ≥ 0 then (if a0_2 ≤ 2 then (some (decide (a0_3 ≥ 0))) else (some false)) else (some false)) else (some false)) else (some false)) = some r := h
  clear h
  by_cases c2 : a0_1 ≥ 0
  · rw [if_pos c2] at H
    have c2b0 : decide (0 ≤ a0_1) = true := decide_eq_true c2
    clear c2
    by_cases c3 : a0_1 ≤ 76
    · rw [if_pos c3] at H
      have c3b0 : decide (a0_1 ≤ 76) = true := decide_eq_true c3
      clear c3
      by_cases c4 : a0_2 ≥ 0
      · rw [if_pos c4] at H
        have c4b0 : decide (0 ≤ a0_2) = true := decide_eq_true c4
        clear c4
        by_cases c5 : a0_2 ≤ 2
        · rw [if_pos c5] at H
          have c5b0 : decide (a0_2 ≤ 2) = true := decide_eq_true c5
          clear c5
          obtain rfl := Option.some.inj H
          go_enter Try.func12, Try.ntmps12
          go_wp2_with (first | ((with_reducible refine gate_dst (N := 1) rfl ?_); refine box_event ?hg (N := 1) ?hd (cs := #[.int .i64 a0_0, .int .i64 a0_1, .int .i64 a0_2, .int .i64 a0_3]) (t := 33) ?hr ?_; (case hd => rfl); (case hg => rfl); (case hr => first | (go_simp; done) | (go_simp; rfl)); intro gb121 hg w6 hbox hb; have n0_ := Aside0.mk (below_step (by repeat (first | (with_reducible first | exact HB.out | apply below_alloc | apply pw_below_drewN | apply below_drew1) | exact HB.out)) hb); have n1_ := Aside0.mk (hbox); have n2_ := Aside0.mk ((by rw [hg]; exact (below_size (by repeat (first | (with_reducible first | exact HB.out | apply below_alloc | apply pw_below_drewN | apply below_drew1) | exact HB.out))) : w.heap.size ≤ gb121)); have n3_ := Aside0.mk ((by rw [hg]; exact (below_size (by repeat (first | (with_reducible first | exact HB.out | apply below_alloc | apply pw_below_drewN | apply below_drew1) | exact HB.out))) : w.heap.size ≤ gb121)); clear HB; have HB := n0_; have BK121 := n1_; have GW121 := n2_; have GE121 := n3_; clear n0_ n1_ n2_ n3_; clear hb hbox hg; have hcz7_0 : w6.cell? ⟨gb121, 0, none⟩ = some (.int .i64 a0_0) := (blk_cell BK121.out 0).trans rfl; have hcz7_1 : w6.cell? ⟨gb121, 1, none⟩ = some (.int .i64 a0_1) := (blk_cell BK121.out 1).trans rfl; have hcz7_2 : w6.cell? ⟨gb121, 2, none⟩ = some (.int .i64 a0_2) := (blk_cell BK121.out 2).trans rfl; have hcz7_3 : w6.cell? ⟨gb121, 3, none⟩ = some (.int .i64 a0_3) := (blk_cell BK121.out 3).trans rfl; have hfz7_0 := blk_frozen BK121.out 0; have hfz7_1 := blk_frozen BK121.out 1; have hfz7_2 := blk_frozen BK121.out 2; have hfz7_3 := blk_frozen BK121.out 3))
          go_ret
          exact ⟨by first | rfl | (simp [errW_none, errW_some] <;> rfl) | (simp [*, errW_none, errW_some] <;> rfl), by repeat (first | (with_reducible first | exact HB.out | apply below_alloc | apply pw_below_drewN | apply below_drew1 | refine below_set ?_ GE121.out) | exact HB.out)⟩
        · rw [if_neg c5] at H
          have c5b0 : decide (a0_2 ≤ 2) = false := decide_eq_false c5
          clear c5
          obtain rfl := Option.some.inj H
          go_enter Try.func12, Try.ntmps12
          go_wp2_with (first | ((with_reducible refine gate_dst (N := 1) rfl ?_); refine box_event ?hg (N := 1) ?hd (cs := #[.int .i64 a0_0, .int .i64 a0_1, .int .i64 a0_2, .int .i64 a0_3]) (t := 33) ?hr ?_; (case hd => rfl); (case hg => rfl); (case hr => first | (go_simp; done) | (go_simp; rfl)); intro gb121 hg w8 hbox hb; have n0_ := Aside0.mk (below_step (by repeat (first | (with_reducible first | exact HB.out | apply below_alloc | apply pw_below_drewN | apply below_drew1) | exact HB.out)) hb); have n1_ := Aside0.mk (hbox); have n2_ := Aside0.mk ((by rw [hg]; exact (below_size (by repeat (first | (with_reducible first | exact HB.out | apply below_alloc | apply pw_below_drewN | apply below_drew1) | exact HB.out))) : w.heap.size ≤ gb121)); have n3_ := Aside0.mk ((by rw [hg]; exact (below_size (by repeat (first | (with_reducible first | exact HB.out | apply below_alloc | apply pw_below_drewN | apply below_drew1) | exact HB.out))) : w.heap.size ≤ gb121)); clear HB; have HB := n0_; have BK121 := n1_; have GW121 := n2_; have GE121 := n3_; clear n0_ n1_ n2_ n3_; clear hb hbox hg; have hcz9_0 : w8.cell? ⟨gb121, 0, none⟩ = some (.int .i64 a0_0) := (blk_cell BK121.out 0).trans rfl; have hcz9_1 : w8.cell? ⟨gb121, 1, none⟩ = some (.int .i64 a0_1) := (blk_cell BK121.out 1).trans rfl; have hcz9_2 : w8.cell? ⟨gb121, 2, none⟩ = some (.int .i64 a0_2) := (blk_cell BK121.out 2).trans rfl; have hcz9_3 : w8.cell? ⟨gb121, 3, none⟩ = some (.int .i64 a0_3) := (blk_cell BK121.out 3).trans rfl; have hfz9_0 := blk_frozen BK121.out 0; have hfz9_1 := blk_frozen BK121.out 1; have hfz9_2 := blk_frozen BK121.out 2; have hfz9_3 := blk_frozen BK121.out 3))
          go_ret
          exact ⟨by first | rfl | (simp [errW_none, errW_some] <;> rfl) | (simp [*, errW_none, errW_some] <;> rfl), by repeat (first | (with_reducible first | exact HB.out | apply below_alloc | apply pw_below_drewN | apply below_drew1 | refine below_set ?_ GE121.out) | exact HB.out)⟩
      · rw [if_neg c4] at H
        have c4b0 : decide (0 ≤ a0_2) = false := decide_eq_false c4
        clear c4
        obtain rfl := Option.some.inj H
        go_enter Try.func12, Try.ntmps12
        go_wp2_with (first | ((with_reducible refine gate_dst (N := 1) rfl ?_); refine box_event ?hg (N := 1) ?hd (cs := #[.int .i64 a0_0, .int .i64 a0_1, .int .i64 a0_2, .int .i64 a0_3]) (t := 33) ?hr ?_; (case hd => rfl); (case hg => rfl); (case hr => first | (go_simp; done) | (go_simp; rfl)); intro gb121 hg w10 hbox hb; have n0_ := Aside0.mk (below_step (by repeat (first | (with_reducible first | exact HB.out | apply below_alloc | apply pw_below_drewN | apply below_drew1) | exact HB.out)) hb); have n1_ := Aside0.mk (hbox); have n2_ := Aside0.mk ((by rw [hg]; exact (below_size (by repeat (first | (with_reducible first | exact HB.out | apply below_alloc | apply pw_below_drewN | apply below_drew1) | exact HB.out))) : w.heap.size ≤ gb121)); have n3_ := Aside0.mk ((by rw [hg]; exact (below_size (by repeat (first | (with_reducible first | exact HB.out | apply below_alloc | apply pw_below_drewN | apply below_drew1) | exact HB.out))) : w.heap.size ≤ gb121)); clear HB; have HB := n0_; have BK121 := n1_; have GW121 := n2_; have GE121 := n3_; clear n0_ n1_ n2_ n3_; clear hb hbox hg; have hcz11_0 : w10.cell? ⟨gb121, 0, none⟩ = some (.int .i64 a0_0) := (blk_cell BK121.out 0).trans rfl; have hcz11_1 : w10.cell? ⟨gb121, 1, none⟩ = some (.int .i64 a0_1) := (blk_cell BK121.out 1).trans rfl; have hcz11_2 : w10.cell? ⟨gb121, 2, none⟩ = some (.int .i64 a0_2) := (blk_cell BK121.out 2).trans rfl; have hcz11_3 : w10.cell? ⟨gb121, 3, none⟩ = some (.int .i64 a0_3) := (blk_cell BK121.out 3).trans rfl; have hfz11_0 := blk_frozen BK121.out 0; have hfz11_1 := blk_frozen BK121.out 1; have hfz11_2 := blk_frozen BK121.out 2; have hfz11_3 := blk_frozen BK121.out 3))
        go_ret
        exact ⟨by first | rfl | (simp [errW_none, errW_some] <;> rfl) | (simp [*, errW_none, errW_some] <;> rfl), by repeat (first | (with_reducible first | exact HB.out | apply below_alloc | apply pw_below_drewN | apply below_drew1 | refine below_set ?_ GE121.out) | exact HB.out)⟩
    · rw [if_neg c3] at H
      have c3b0 : decide (a0_1 ≤ 76) = false := decide_eq_false c3
      clear c3
      obtain rfl := Option.some.inj H
      go_enter Try.func12, Try.ntmps12
      go_wp2_with (first | ((with_reducible refine gate_dst (N := 1) rfl ?_); refine box_event ?hg (N := 1) ?hd (cs := #[.int .i64 a0_0, .int .i64 a0_1, .int .i64 a0_2, .int .i64 a0_3]) (t := 33) ?hr ?_; (case hd => rfl); (case hg => rfl); (case hr => first | (go_simp; done) | (go_simp; rfl)); intro gb121 hg w12 hbox hb; have n0_ := Aside0.mk (below_step (by repeat (first | (with_reducible first | exact HB.out | apply below_alloc | apply pw_below_drewN | apply below_drew1) | exact HB.out)) hb); have n1_ := Aside0.mk (hbox); have n2_ := Aside0.mk ((by rw [hg]; exact (below_size (by repeat (first | (with_reducible first | exact HB.out | apply below_alloc | apply pw_below_drewN | apply below_drew1) | exact HB.out))) : w.heap.size ≤ gb121)); have n3_ := Aside0.mk ((by rw [hg]; exact (below_size (by repeat (first | (with_reducible first | exact HB.out | apply below_alloc | apply pw_below_drewN | apply below_drew1) | exact HB.out))) : w.heap.size ≤ gb121)); clear HB; have HB := n0_; have BK121 := n1_; have GW121 := n2_; have GE121 := n3_; clear n0_ n1_ n2_ n3_; clear hb hbox hg; have hcz13_0 : w12.cell? ⟨gb121, 0, none⟩ = some (.int .i64 a0_0) := (blk_cell BK121.out 0).trans rfl; have hcz13_1 : w12.cell? ⟨gb121, 1, none⟩ = some (.int .i64 a0_1) := (blk_cell BK121.out 1).trans rfl; have hcz13_2 : w12.cell? ⟨gb121, 2, none⟩ = some (.int .i64 a0_2) := (blk_cell BK121.out 2).trans rfl; have hcz13_3 : w12.cell? ⟨gb121, 3, none⟩ = some (.int .i64 a0_3) := (blk_cell BK121.out 3).trans rfl; have hfz13_0 := blk_frozen BK121.out 0; have hfz13_1 := blk_frozen BK121.out 1; have hfz13_2 := blk_frozen BK121.out 2; have hfz13_3 := blk_frozen BK121.out 3))
      go_ret
      exact ⟨by first | rfl | (simp [errW_none, errW_some] <;> rfl) | (simp [*, errW_none, errW_some] <;> rfl), by repeat (first | (with_reducible first | exact HB.out | apply below_alloc | apply pw_below_drewN | apply below_drew1 | refine below_set ?_ GE121.out) | exact HB.out)⟩
  · rw [if_neg c2] at H
    have c2b0 : decide (0 ≤ a0_1) = false := decide_eq_false c2
    clear c2
    obtain rfl := Option.some.inj H
    go_enter Try.func12, Try.ntmps12
    go_wp2_with (first | ((with_reducible refine gate_dst (N := 1) rfl ?_); refine box_event ?hg (N := 1) ?hd (cs := #[.int .i64 a0_0, .int .i64 a0_1, .int .i64 a0_2, .int .i64 a0_3]) (t := 33) ?hr ?_; (case hd => rfl); (case hg => rfl); (case hr => first | (go_simp; done) | (go_simp; rfl)); intro gb121 hg w14 hbox hb; have n0_ := Aside0.mk (below_step (by repeat (first | (with_reducible first | exact HB.out | apply below_alloc | apply pw_below_drewN | apply below_drew1) | exact HB.out)) hb); have n1_ := Aside0.mk (hbox); have n2_ := Aside0.mk ((by rw [hg]; exact (below_size (by repeat (first | (with_reducible first | exact HB.out | apply below_alloc | apply pw_below_drewN | apply below_drew1) | exact HB.out))) : w.heap.size ≤ gb121)); have n3_ := Aside0.mk ((by rw [hg]; exact (below_size (by repeat (first | (with_reducible first | exact HB.out | apply below_alloc | apply pw_below_drewN | apply below_drew1) | exact HB.out))) : w.heap.size ≤ gb121)); clear HB; have HB := n0_; have BK121 := n1_; have GW121 := n2_; have GE121 := n3_; clear n0_ n1_ n2_ n3_; clear hb hbox hg; have hcz15_0 : w14.cell? ⟨gb121, 0, none⟩ = some (.int .i64 a0_0) := (blk_cell BK121.out 0).trans rfl; have hcz15_1 : w14.cell? ⟨gb121, 1, none⟩ = some (.int .i64 a0_1) := (blk_cell BK121.out 1).trans rfl; have hcz15_2 : w14.cell? ⟨gb121, 2, none⟩ = some (.int .i64 a0_2) := (blk_cell BK121.out 2).trans rfl; have hcz15_3 : w14.cell? ⟨gb121, 3, none⟩ = some (.int .i64 a0_3) := (blk_cell BK121.out 3).trans rfl; have hfz15_0 := blk_frozen BK121.out 0; have hfz15_1 := blk_frozen BK121.out 1; have hfz15_2 := blk_frozen BK121.out 2; have hfz15_3 := blk_frozen BK121.out 3))
    go_ret
    exact ⟨by first | rfl | (simp [errW_none, errW_some] <;> rfl) | (simp [*, errW_none, errW_some] <;> rfl), by repeat (first | (with_reducible first | exact HB.out | apply below_alloc | apply pw_below_drewN | apply below_drew1 | refine below_set ?_ GE121.out) | exact HB.out)⟩

end Go.Proofs.Ythhmnecnoojcpaa.PAll
