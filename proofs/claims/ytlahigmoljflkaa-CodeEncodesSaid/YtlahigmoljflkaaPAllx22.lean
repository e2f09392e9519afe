import Derived.Test.YtlahigmoljflkaaPAllx0
import Derived.Test.YtlahigmoljflkaaPAllx1
import Derived.Test.YtlahigmoljflkaaPAllx7
import Derived.Test.YtlahigmoljflkaaPAllx12
import Derived.Test.YtlahigmoljflkaaPAllx13
import Derived.Test.YtlahigmoljflkaaPAllx14
import Derived.Test.YtlahigmoljflkaaPAllx15
import Derived.Test.YtlahigmoljflkaaPAllx18
import Derived.Test.YtlahigmoljflkaaPAllx19
import Derived.Test.YtlahigmoljflkaaPAllx21
namespace Go.Proofs.Ytlahigmoljflkaa.PAll
open Go.RowKit Go.Proofs.YtlahigmoljflkaaW.PrintWords Go.Proofs.YtlahigmoljflkaaW.PrintLast Go.Proofs.YtlahigmoljflkaaW.PrintMore
attribute [local go_sem] max2_int min2_int max_two min_two max_three min_three max_four min_four   -- for this text's walks alone
set_option linter.unusedVariables false
set_option linter.unusedSimpArgs false

/-- A state of type 64 at block g of W; what its slices lead to came in by w0. -/
def IsS64 (w0 W : World) (g : Nat) (f0 : Value) : Prop := W.heap[g]? = some (.cells #[f0] 64 (0, 0)) ∧ w0.heap.size ≤ g
theorem IsS64.grown {w0 W : World} {g : Nat} {f0 : Value} {W1 : World} {row : Option Nat} (h : IsS64 w0 W g f0) (hw : W.grownBy W1 row) (hne : some g ≠ row) : IsS64 w0 W1 g f0 := by
  obtain ⟨hb, hg⟩ := h
  exact ⟨blk_grown hb hw hne, hg⟩
theorem IsS64.kept {w0 W : World} {g : Nat} {f0 : Value} {W1 : World} {S : Nat → Prop} (h : IsS64 w0 W g f0) (hk : Kept W W1 S) (hne : ¬ S g) : IsS64 w0 W1 g f0 := by
  obtain ⟨hb, hg⟩ := h
  exact ⟨blk_kept hb hk hne, hg⟩
theorem IsS64.below {w0 W : World} {g : Nat} {f0 : Value} {W1 : World} (h : IsS64 w0 W g f0) (hw : Below W.heap.size W W1) : IsS64 w0 W1 g f0 := h.grown (grown_of_below hw none) (by simp)
theorem IsS64.alloc {w0 W : World} {g : Nat} {f0 : Value} (h : IsS64 w0 W g f0) (o : Obj) : IsS64 w0 (W.alloc o) g f0 := h.below (below_alloc (Below.refl _ _) o)
theorem IsS64.drewN {w0 W : World} {g : Nat} {f0 : Value} (h : IsS64 w0 W g f0) (m : Nat) : IsS64 w0 (W.drewN m) g f0 := h
theorem IsS64.drew {w0 W : World} {g : Nat} {f0 : Value} (h : IsS64 w0 W g f0) : IsS64 w0 W.drew g f0 := h
theorem IsS64.at_ {w0 W : World} {g : Nat} {f0 : Value} {w' : World} {m : Nat} (hq : W.drewN m = w') (h : IsS64 w0 W g f0) : IsS64 w0 w' g f0 := by subst hq; exact IsS64.drewN h m
theorem IsS64.apart {w0 W : World} {g : Nat} {f0 : Value} {α : Type} {d : Kd α} {e : Nat} {base : Nat} {ok : Nat → Prop} {v : Value} {xs : List α} (h : IsS64 w0 W g f0) (ho : d.R e W base ok v xs) (ht : ∀ q, q ∈ e :: d.E → q ≠ 64) : d.R e W base (fun k => ok k ∧ k ≠ g) v xs := by
  obtain ⟨hb, hg⟩ := h
  exact Kd.R_types ho hb ht
theorem IsS64.own_ne {w0 W : World} {g : Nat} {f0 : Value} {α : Type} {d : Kd α} {e : Nat} {base : Nat} {ok : Nat → Prop} {v : Value} {xs : List α} (h : IsS64 w0 W g f0) (ho : d.R e W base ok v xs) (ht : e ≠ 64) : some g ≠ v.ownBlock := by
  obtain ⟨hb, hg⟩ := h
  exact Kd.R_ne ho hb ht
theorem IsS64.lt {w0 W : World} {g : Nat} {f0 : Value} (h : IsS64 w0 W g f0) : g < W.heap.size := by
  obtain ⟨hb, hg⟩ := h
  exact blk_lt hb
theorem IsS64.ge {w0 W : World} {g : Nat} {f0 : Value} (h : IsS64 w0 W g f0) : w0.heap.size ≤ g := by
  obtain ⟨hb, hg⟩ := h
  exact hg
theorem IsS64.far {w0 W : World} {g : Nat} {f0 : Value} {p : Addr} (h : IsS64 w0 W g f0) (hne : g ≠ p.block) (u : Value) : IsS64 w0 (W.setCell p u) g f0 := by
  obtain ⟨hb, hg⟩ := h
  exact ⟨blk_far hb hne u, hg⟩
theorem cellS64_0 {W : World} {g : Nat} {f0 : Value} (h : W.heap[g]? = some (.cells #[f0] 64 (0, 0))) : W.cell? ⟨g, 0, none⟩ = some (f0) := (blk_cell h 0).trans rfl
theorem IsS64.set_0 {w0 W : World} {g : Nat} {f0 : Value} (h : IsS64 w0 W g f0) (x : Value) : IsS64 w0 (W.setCell ⟨g, 0, none⟩ (x)) g x := by
  obtain ⟨hb, hg⟩ := h
  exact ⟨by simpa using blk_set hb 0 (x), hg⟩
def code_writer_next.f (l0_0 : List Int) (a1 : Int) : Option (List Int) := if l0_0.length < 140737488355328 then (some (l0_0 ++ [(a1) % 256])) else (none)
set_option maxHeartbeats 8000000 in
set_option maxRecDepth 100000 in
theorem code_writer_next.calls (g : Nat) (P0_0_ : Nat → Prop) (u9000_ : Value) (l0_0 : List Int) (a1 : Int) (r : List Int) (w0 w : World) (hI : IsS64 w0 w g u9000_) (hB : Below w0.heap.size w0 w) (ho0_0 : Kd.R (Kd.int .u8) 5 w w0.heap.size P0_0_ u9000_ l0_0) (h : code_writer_next.f l0_0 a1 = some r) :
    Calls Try.prog 31 #[.pointer (some ⟨g, 0, none⟩), .int .i64 a1] w fun e w' => ∃ v0_ : Value, e = .returned (.tuple #[]) ∧ Kd.R (Kd.int .u8) 5 w' w0.heap.size (fun k_ => (P0_0_ k_ ∨ w.heap.size ≤ k_)) v0_ r ∧ IsS64 w0 w' g v0_ ∧ Below w0.heap.size w0 w' ∧ Kept w w' (fun k_ => (P0_0_ k_) ∨ k_ = g) := by
  have HO0_0 := Aside0.mk (show Kd.R (Kd.int .u8) 5 w w0.heap.size (fun k_ => (P0_0_ k_ ∨ w.heap.size ≤ k_)) u9000_ l0_0 from Kd.R_mono ho0_0 (fun k_ hk => (.inl hk)))
  have HI0 := Aside0.mk hI
  have HL := Aside0.mk hB.size
  clear hI
  have HK := Aside0.mk (Kept.refl w (fun k_ => (P0_0_ k_) ∨ k_ = g))
  have HW0 := Aside0.mk hB.size
  have HB := Aside0.mk hB
  clear hB
  have H : (if l0_0.length < 140737488355328 then (some (l0_0 ++ [(a1) % 256])) else (none)) = some r := h
  clear h
  by_cases c3 : l0_0.length < 140737488355328
  · rw [if_pos c3] at H
    have LMc3 := Aside0.mk c3
    clear c3
    obtain ⟨y525, hy525⟩ : ∃ y_ : List Int, y_ = (l0_0 ++ [(a1) % 256]) := ⟨_, rfl⟩
    replace H : (some y525) = some r := by first | (rw [hy525]; with_reducible exact H) | (have H2_ := (Option.bind_some _ _).symm.trans H; rw [hy525]; with_reducible exact H2_) | (have H2_ := (Option.bind_some _ _).symm.trans H; with_reducible exact H2_) | with_reducible exact H | (rw [hy525]; exact H) | exact H
    have Ny525 := Aside0.mk hy525
    clear hy525
    obtain rfl := Option.some.inj H
    obtain ⟨HGz4, hgz4⟩ := HI0.out
    have hcz4_0 := cellS64_0 HGz4
    have hfz4_0 := blk_frozen HGz4 0
    clear HGz4 hgz4
    go_enter Try.func31, Try.ntmps31
    go_wp2_with (first | ((with_reducible refine gate_builtin (b := .append) (xs := #[.tmp 8, .tmp 11]) rfl ?_); at_builtin; refine Kd.R_append (Kd.int .u8) (w0 := w0) w0.heap.size rfl (.tmp 8) (.tmp 11) 24 5 (.int .u8 0) 1 rfl Try.underlying24 info5 rfl (by decide) (by omega) u9000_ l0_0 ((a1) % 256) [.int .u8 ((a1) % 256)] (fun k_ => (P0_0_ k_ ∨ w.heap.size ≤ k_)) (fun _ => False) rfl rfl ?aP (fun _ hk => hk.elim) ?aF ?aO ?aB ?aS ?aL ?_; (case aP => exact rfl); (case aB => exact (by repeat (first | (with_reducible first | exact HB.out | apply below_alloc | apply pw_below_drewN | apply below_drew1 | refine below_set ?_ (IsS64.ge HI0.out)) | exact HB.out))); (case aF => exact (fun k_ hk => (.inr (Nat.le_trans (by first | exact HK.out.1 | exact (show Kept w _ (fun k_ => (P0_0_ k_) ∨ k_ = g) from by repeat (first | (with_reducible first | exact HK.out | apply Kept.alloc | apply Kept.drewN | apply Kept.drew | refine Kept.setCell ?_ (.inl (.inr rfl)) _) | exact HK.out)).1) hk)))); (case aO => exact (by (with_reducible repeat (first | apply Kd.R_alloc | apply Kd.R_drewN | apply Kd.R_drew)); exact HO0_0.out)); (case aS => exact (below_size (by repeat (first | (with_reducible first | exact HB.out | apply below_alloc | apply pw_below_drewN | apply below_drew1 | refine below_set ?_ (IsS64.ge HI0.out)) | exact HB.out)))); (case aL => have := LMc3.out; omega); intro v526 w5 ho hb hg hat; rw [← Ny525.out] at ho; have n0_ := Aside0.mk (IsS64.grown (by repeat (first | (with_reducible first | exact HI0.out | apply IsS64.alloc | apply IsS64.drewN | apply IsS64.drew | apply IsS64.set_0) | exact HI0.out)) hg (IsS64.own_ne HI0.out HO0_0.out (by decide))); have n1_ := Aside0.mk (hb); have n2_ := Aside0.mk (Kept.of_grown (S := (fun k_ => (P0_0_ k_) ∨ k_ = g)) hg (by repeat (first | (with_reducible first | exact HK.out | apply Kept.alloc | apply Kept.drewN | apply Kept.drew | refine Kept.setCell ?_ (.inl (.inr rfl)) _) | exact HK.out)) (fun k_ e_ => Or.imp_left Or.inl ((HO0_0.out.1 k_ e_)))); have n3_ := Aside0.mk (ho); clear HI0; clear HB; clear HK; clear HO0_0; have HI0 := n0_; have HB := n1_; have HK := n2_; have HO527 := n3_; clear n0_ n1_ n2_ n3_; clear ho hb hg hat; obtain ⟨Ao6, co6, eo6⟩ := Kd.R_slice HO527.out; subst eo6; obtain ⟨HGz7, hgz7⟩ := HI0.out; have hcz7_0 := cellS64_0 HGz7; have hfz7_0 := blk_frozen HGz7 0; clear HGz7 hgz7))
    first | go_end0 | ((try simp only [Exit.inBlock, Exit.then]); refine bodyPost_ret (results_none rfl _ _ _) rfl ?_)
    (try simp only [exists_and_left]); exact ⟨by first | rfl | (simp [errW_none, errW_some] <;> rfl) | (simp [*, errW_none, errW_some] <;> rfl), _, by (with_reducible repeat (first | apply Kd.R_alloc | apply Kd.R_drewN | apply Kd.R_drew)); exact Kd.R_mono (Kd.R_far (p := ⟨g, 0, none⟩) (IsS64.apart HI0.out HO527.out (by decide)) (fun _ hk => hk.2) (.slice Ao6 y525.length co6)) (fun _ hk => hk.1), by repeat (first | (with_reducible first | exact HI0.out | apply IsS64.alloc | apply IsS64.drewN | apply IsS64.drew | apply IsS64.set_0) | exact HI0.out), by repeat (first | (with_reducible first | exact HB.out | apply below_alloc | apply pw_below_drewN | apply below_drew1 | refine below_set ?_ (IsS64.ge HI0.out)) | exact HB.out), by repeat (first | (with_reducible first | exact HK.out | apply Kept.alloc | apply Kept.drewN | apply Kept.drew | refine Kept.setCell ?_ (.inl (.inr rfl)) _) | exact HK.out)⟩
  · rw [if_neg c3] at H
    exact absurd H (by simp)

end Go.Proofs.Ytlahigmoljflkaa.PAll
