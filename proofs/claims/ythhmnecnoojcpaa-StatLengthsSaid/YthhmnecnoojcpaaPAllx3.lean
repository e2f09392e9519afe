/- Printed by a copy of the printer that was turned for this claim: functions as plain Lean functions, with proofs that their calls come to these; or words that such proofs use. -/
import Derived.Test.YthhmnecnoojcpaaPAllx0
import Derived.Test.YthhmnecnoojcpaaPAllx2
namespace Go.Proofs.Ythhmnecnoojcpaa.PAll
open Go.RowKit Go.Proofs.YthhmnecnoojcpaaW.PrintWords Go.Proofs.YthhmnecnoojcpaaW.PrintLast Go.Proofs.YthhmnecnoojcpaaW.PrintMore
attribute [local go_sem] max2_int min2_int max_two min_two max_three min_three max_four min_four   -- for this text's walks alone
set_option linter.unusedVariables false
set_option linter.unusedSimpArgs false

/-! ### gangwayref20_put: function 33 -/
def gangwayref20_put.l0 : Nat → List Int → Int → List Int → Int → Option (List Int)
  | 0, _, _, _, _ => none
  | k + 1, x0, x1, x2, x6 => if x6 < (x2.length : Int) then (if 0 ≤ x6 then (if 0 ≤ (wrap64 (x1 + x6)) then (if (wrap64 (x1 + x6)) < (x0.length : Int) then (gangwayref20_put.l0 k (x0.set ((wrap64 (x1 + x6)) : Int).toNat (rd x2 x6)) x1 x2 (wrap64 (x6 + 1))) else (none)) else (none)) else (none)) else (some x0)
def gangwayref20_put.f (k : Nat) (l0 : List Int) (a1 : Int) (l2 : List Int) : Option (List Int) := gangwayref20_put.l0 k l0 a1 l2 0
theorem gangwayref20_put.mono_l : ∀ k, (∀ y0 y1 y2 y3, LeO (gangwayref20_put.l0 k y0 y1 y2 y3) (gangwayref20_put.l0 (k + 1) y0 y1 y2 y3))
  | 0 => fun _ _ _ _ r h => by simp [gangwayref20_put.l0] at h
  | k + 1 => by
    have ih0 := gangwayref20_put.mono_l k
    · intro y0 y1 y2 y3
      unfold gangwayref20_put.l0
      repeat' first
      | (with_reducible exact ih0 _ _ _ _)
      | (with_reducible exact LeO.refl _)
      | (with_reducible exact LeO.none _)
      | (with_reducible refine LeO.ite ?_ ?_)
      | (with_reducible refine LeO.bind ?_ (fun _ => ?_))
      | exact ih0 _ _ _ _
      | exact LeO.none _
      | refine LeO.ite ?_ ?_
      | refine LeO.bind ?_ (fun _ => ?_)
theorem gangwayref20_put.mono : ∀ a0 a1 a2 k, LeO (gangwayref20_put.f k a0 a1 a2) (gangwayref20_put.f (k + 1) a0 a1 a2) := by
  intro a0 a1 a2 k
  have ih0 := gangwayref20_put.mono_l k
  unfold gangwayref20_put.f
  repeat' first
      | (with_reducible exact ih0 _ _ _ _)
      | (with_reducible exact LeO.refl _)
      | (with_reducible exact LeO.none _)
      | (with_reducible refine LeO.ite ?_ ?_)
      | (with_reducible refine LeO.bind ?_ (fun _ => ?_))
      | exact ih0 _ _ _ _
      | exact LeO.none _
      | refine LeO.ite ?_ ?_
      | refine LeO.bind ?_ (fun _ => ?_)
set_option maxHeartbeats 8000000 in
set_option maxRecDepth 100000 in
theorem gangwayref20_put.calls (k : Nat) (P0_ : Nat → Prop) (u9000_ : Value) (l0 : List Int) (a1 : Int) (A2 : Option Addr) (c2 : Nat) (l2 : List Int) (r : List Int) (w0 w : World) (hB : Below w0.heap.size w0 w) (ho0 : Kd.R (Kd.int .u8) 5 w w0.heap.size P0_ u9000_ l0) (hr2 : ∀ W_, Kept w W_ (fun k_ => P0_ k_) → Kd.C (Kd.int .u8) W_ A2 l2.length l2) (hc2 : l2.length ≤ c2) (h : gangwayref20_put.f k l0 a1 l2 = some r) :
    Calls Try.prog 33 #[u9000_, .int .i64 a1, .slice A2 l2.length c2] w fun e w' => e = .returned (.tuple #[]) ∧ Kd.R (Kd.int .u8) 5 w' w0.heap.size (fun k_ => (P0_ k_ ∨ w.heap.size ≤ k_)) u9000_ r ∧ Below w0.heap.size w0 w' ∧ Kept w w' (fun k_ => P0_ k_) := by
  have HO0 := Aside0.mk (show Kd.R (Kd.int .u8) 5 w w0.heap.size (fun k_ => (P0_ k_ ∨ w.heap.size ≤ k_)) u9000_ l0 from Kd.R_mono ho0 (fun k_ hk => (.inl hk)))
  have HR2 := Aside0.mk hr2
  have HC2 := Aside0.mk hc2
  clear hr2 hc2
  have HK := Aside0.mk (Kept.refl w (fun k_ => P0_ k_))
  have HW0 := Aside0.mk hB.size
  have HB := Aside0.mk hB
  clear hB
  have H : (gangwayref20_put.l0 k l0 a1 l2 0) = some r := h
  clear h
  have H' := Aside0.mk H
  clear H
  go_enter Try.func33, Try.ntmps33
  go_wp2
  go_loopg [6] k (fun kq v6 w' => ∃ (x0_1 : List Int) (x6_1 : Int), v6 = .int .i64 x6_1 ∧ Aside0 (gangwayref20_put.l0 kq x0_1 a1 l2 x6_1 = some r) ∧ Aside0 (kq ≤ k) ∧ Aside0 (Kd.R (Kd.int .u8) 5 w' w0.heap.size (fun k_ => (P0_ k_ ∨ w.heap.size ≤ k_)) u9000_ x0_1) ∧ Aside0 (Kept w w' (fun k_ => P0_ k_)) ∧ Aside0 (Below w0.heap.size w0 w'))
  case atStart => exact ⟨(l0), (0), (by first | rfl | (simp; done) | (simp [*]; done)), H', ⟨Nat.le_refl _⟩, ⟨by (with_reducible repeat (first | apply Kd.R_alloc | apply Kd.R_drewN | apply Kd.R_drew)); exact HO0.out⟩, ⟨by repeat (first | (with_reducible first | exact HK.out | apply Kept.alloc | apply Kept.drewN | apply Kept.drew) | exact HK.out)⟩, ⟨by repeat (first | (with_reducible first | exact HB.out | apply below_alloc | apply pw_below_drewN | apply below_drew1) | exact HB.out)⟩⟩
  case round =>
    clear H'
    try clear c2
    try clear p2
    try clear c3
    obtain ⟨x0_1, x6_1, rfl, HA, HK1, HO_0, HK, HB⟩ := hrel
    cases gk with
    | zero => exact absurd HA.out (by simp [gangwayref20_put.l0])
    | succ k1 =>
      have H := HA.out
      clear HA
      simp only [gangwayref20_put.l0] at H
      by_cases c4 : x6_1 < (l2.length : Int)
      · rw [if_pos c4] at H
        have c4b0 : decide (x6_1 < (l2.length : Int)) = true := decide_eq_true c4
        clear c4
        by_cases c5 : 0 ≤ x6_1
        · rw [if_pos c5] at H
          have c5b0 : decide (0 ≤ x6_1) = true := decide_eq_true c5
          clear c5
          obtain ⟨ji6, hji6⟩ : ∃ j_ : Int, (wrap64 (a1 + x6_1)) = j_ := ⟨_, rfl⟩
          replace H : (if 0 ≤ (ji6) then (if (ji6) < (x0_1.length : Int) then (gangwayref20_put.l0 k1 (x0_1.set ((ji6) : Int).toNat (rd l2 x6_1)) a1 l2 (wrap64 (x6_1 + 1))) else (none)) else (none)) = some r := by first | (rw [hji6] at H; exact H) | (simp only [hji6] at H ⊢; exact H)
          have hji6w : (IntKind.i64.wrap (a1 + x6_1)) = ji6 := (i64_w _).trans hji6
          by_cases c7 : 0 ≤ (ji6)
          · rw [if_pos c7] at H
            have c7b0 : decide (0 ≤ (ji6)) = true := decide_eq_true c7
            clear c7
            by_cases c8 : (ji6) < (x0_1.length : Int)
            · rw [if_pos c8] at H
              have c8b0 : decide ((ji6) < (x0_1.length : Int)) = true := decide_eq_true c8
              clear c8
              obtain ⟨y123, hy123⟩ : ∃ y_ : List Int, y_ = (x0_1.set ((ji6) : Int).toNat (rd l2 x6_1)) := ⟨_, rfl⟩
              replace H : (gangwayref20_put.l0 k1 y123 a1 l2 (wrap64 (x6_1 + 1))) = some r := by first | (rw [hy123]; with_reducible exact H) | (have H2_ := (Option.bind_some _ _).symm.trans H; rw [hy123]; with_reducible exact H2_) | (have H2_ := (Option.bind_some _ _).symm.trans H; with_reducible exact H2_) | with_reducible exact H | (rw [hy123]; exact H) | exact H
              have Ny123 := Aside0.mk hy123
              clear hy123
              have H' := Aside0.mk H
              clear H
              have p122 : 0 ≤ (x6_1 : Int) := of_decide_eq_true (by first | (with_reducible assumption) | assumption)
              have q122 : x6_1 < (l2.length : Int) := of_decide_eq_true (by first | (with_reducible assumption) | assumption)
              obtain ⟨ad122, e122, hx122_0⟩ := Kd.at_int (Kd.C_kept_now HR2.out HK.out) x6_1 p122 q122
              cases e122
              replace p122 := eq_true p122
              replace q122 := eq_true q122
              have p9 : 0 ≤ ((ji6) : Int) := of_decide_eq_true (by first | (with_reducible assumption) | assumption)
              have q9 : ((ji6) : Int) < ((x0_1.length : Int) : Int) := of_decide_eq_true (by first | (with_reducible assumption) | assumption)
              obtain ⟨go9, co9, eo9, gb9, gl9, cl9, HG9⟩ := Kd.R_form HO_0.out (by omega)
              (first | cases eo9 | (injection eo9 with ea_ en_ ec_; (first | subst ea_ | (injection ea_ with ea_; subst ea_)); subst ec_; clear en_))
              have GB9 := Aside0.mk gb9
              have GG9 := Aside0.mk HG9
              clear gb9 gl9 HG9
              have HMgo9 := Aside0.mk (show (P0_ go9 ∨ w.heap.size ≤ go9) from (HO_0.out.1 _ rfl))
              obtain ⟨hx9_0, hf9_0⟩ := Kd.R_celln 0 HO_0.out ((ji6) : Int) p9 q9
              replace p9 := eq_true p9
              replace q9 := eq_true q9
              have HP10 := Kd.R_putg HO_0.out ((ji6) : Int) (rd l2 x6_1)
              go_wp2_with (first | ((with_reducible refine gate_store (t := 5) (p := 21) rfl ?_); refine store_event (t := 5) (p := 21) (v := ?vo_w11) (w1 := (wr.setCell ⟨go9, ((ji6) : Int).toNat, none⟩ (.int .u8 (rd l2 x6_1)))) ?hg ?ho ?hn ?hr ?_; (case ho => rfl); (case hg => rfl); (case hn => rfl); (case hr => first | (go_simp; done) | (go_simp; rfl)); intro w11 hw; have hg : wr.grownBy w11 (some go9) := (by rw [hw]; exact HP10.2); have hp_ : Kd.R (Kd.int .u8) 5 w11 w0.heap.size (fun k_ => (P0_ k_ ∨ w.heap.size ≤ k_)) (.slice (some ⟨go9, 0, none⟩) x0_1.length co9) y123 := (by rw [hw, Ny123.out]; exact HP10.1); clear HP10; have n0_ := Aside0.mk (hp_); have n1_ := Aside0.mk ((by rw [hw]; exact below_set (HB.out) GB9.out : Below w0.heap.size w0 w11)); have n2_ := Aside0.mk (Kept.of_grown (S := (fun k_ => P0_ k_)) hg (by repeat (first | (with_reducible first | exact HK.out | apply Kept.alloc | apply Kept.drewN | apply Kept.drew) | exact HK.out)) (fun k_ e_ => (HO_0.out.1 k_ e_))); clear HO_0; clear HB; clear HK; have HO_0 := n0_; have HB := n1_; have HK := n2_; clear n0_ n1_ n2_; clear hg hw hp_))
              go_roundg k1
              case measure => have := HK1.out; omega
              case rel => exact ⟨(y123), (wrap64 (x6_1 + 1)), (by first | rfl | (simp; done) | (simp [*]; done)), H', ⟨by have := HK1.out; omega⟩, ⟨by (with_reducible repeat (first | apply Kd.R_alloc | apply Kd.R_drewN | apply Kd.R_drew)); exact HO_0.out⟩, ⟨by repeat (first | (with_reducible first | exact HK.out | apply Kept.alloc | apply Kept.drewN | apply Kept.drew) | exact HK.out)⟩, ⟨by repeat (first | (with_reducible first | exact HB.out | apply below_alloc | apply pw_below_drewN | apply below_drew1) | exact HB.out)⟩⟩
            · rw [if_neg c8] at H
              exact absurd H (by simp)
          · rw [if_neg c7] at H
            exact absurd H (by simp)
        · rw [if_neg c5] at H
          exact absurd H (by simp)
      · rw [if_neg c4] at H
        have c4b0 : decide (x6_1 < (l2.length : Int)) = false := decide_eq_false c4
        clear c4
        obtain rfl := Option.some.inj H
        go_wp2
        first | go_end0 | ((try simp only [Exit.inBlock, Exit.then]); refine bodyPost_ret (results_none rfl _ _ _) rfl ?_)
        exact ⟨by first | rfl | (simp [errW_none, errW_some] <;> rfl) | (simp [*, errW_none, errW_some] <;> rfl), by (with_reducible repeat (first | apply Kd.R_alloc | apply Kd.R_drewN | apply Kd.R_drew)); exact HO_0.out, by repeat (first | (with_reducible first | exact HB.out | apply below_alloc | apply pw_below_drewN | apply below_drew1) | exact HB.out), by repeat (first | (with_reducible first | exact HK.out | apply Kept.alloc | apply Kept.drewN | apply Kept.drew) | exact HK.out)⟩

/-! ### gangwayref20_Little: function 34 -/
def gangwayref20_Little.l0 : Nat → Int → Int → List Int → Int → Option (List Int)
  | 0, _, _, _, _ => none
  | k + 1, x0, x1, x5, x6 => if x6 < x1 then (if 0 ≤ (wrap64 (8 * x6)) then (if x5.length < 140737488355328 then (gangwayref20_Little.l0 k x0 x1 (x5 ++ [(shr .u64 x0 (wrap64 (8 * x6))) % 256]) (wrap64 (x6 + 1))) else (none)) else (none)) else (some x5)
def gangwayref20_Little.f (k : Nat) (a0 : Int) (a1 : Int) : Option (List Int) := gangwayref20_Little.l0 k a0 a1 ([] : List Int) 0
theorem gangwayref20_Little.mono_l : ∀ k, (∀ y0 y1 y2 y3, LeO (gangwayref20_Little.l0 k y0 y1 y2 y3) (gangwayref20_Little.l0 (k + 1) y0 y1 y2 y3))
  | 0 => fun _ _ _ _ r h => by simp [gangwayref20_Little.l0] at h
  | k + 1 => by
    have ih0 := gangwayref20_Little.mono_l k
    · intro y0 y1 y2 y3
      unfold gangwayref20_Little.l0
      repeat' first
      | (with_reducible exact ih0 _ _ _ _)
      | (with_reducible exact LeO.refl _)
      | (with_reducible exact LeO.none _)
      | (with_reducible refine LeO.ite ?_ ?_)
      | (with_reducible refine LeO.bind ?_ (fun _ => ?_))
      | exact ih0 _ _ _ _
      | exact LeO.none _
      | refine LeO.ite ?_ ?_
      | refine LeO.bind ?_ (fun _ => ?_)
theorem gangwayref20_Little.mono : ∀ a0 a1 k, LeO (gangwayref20_Little.f k a0 a1) (gangwayref20_Little.f (k + 1) a0 a1) := by
  intro a0 a1 k
  have ih0 := gangwayref20_Little.mono_l k
  unfold gangwayref20_Little.f
  repeat' first
      | (with_reducible exact ih0 _ _ _ _)
      | (with_reducible exact LeO.refl _)
      | (with_reducible exact LeO.none _)
      | (with_reducible refine LeO.ite ?_ ?_)
      | (with_reducible refine LeO.bind ?_ (fun _ => ?_))
      | exact ih0 _ _ _ _
      | exact LeO.none _
      | refine LeO.ite ?_ ?_
      | refine LeO.bind ?_ (fun _ => ?_)
set_option maxHeartbeats 8000000 in
set_option maxRecDepth 100000 in
theorem gangwayref20_Little.calls (k : Nat) (a0 : Int) (a1 : Int) (r : List Int) (w : World) (h : gangwayref20_Little.f k a0 a1 = some r) :
    Calls Try.prog 34 #[.int .u64 a0, .int .i64 a1] w fun e w' => ∃ v0_ : Value, e = .returned (v0_) ∧ Kd.R (Kd.int .u8) 5 w' w.heap.size (fun _ => True) v0_ r ∧ Below w.heap.size w w' := by
  have HB := Aside0.mk (Below.refl w.heap.size w)
  have H : (gangwayref20_Little.l0 k a0 a1 ([] : List Int) 0) = some r := h
  clear h
  have H' := Aside0.mk H
  clear H
  go_enter Try.func34, Try.ntmps34
  go_wp2
  go_loopg [5, 6] k (fun kq v5 v6 w' => ∃ (x5_1 : List Int) (x6_1 : Int), v6 = .int .i64 x6_1 ∧ Aside0 (gangwayref20_Little.l0 kq a0 a1 x5_1 x6_1 = some r) ∧ Aside0 (kq ≤ k) ∧ Aside0 (Kd.R (Kd.int .u8) 5 w' w.heap.size (fun _ => True) v5 x5_1) ∧ Aside0 (Below w.heap.size w w'))
  case atStart => exact ⟨(([] : List Int)), (0), (by first | rfl | (simp; done) | (simp [*]; done)), H', ⟨Nat.le_refl _⟩, ⟨by first | exact Kd.R_nil _ _ _ _ _ | exact Kd.N_nil _ _ _ _ _ | exact Kd.V_nil _ _ _ _ _ | exact Kd.Q_nil _ _ _ _ _ | exact Kd.S_nil _ _ _ _ _⟩, ⟨by repeat (first | (with_reducible first | exact HB.out | apply below_alloc | apply pw_below_drewN | apply below_drew1) | exact HB.out)⟩⟩
  case round =>
    clear H'
    try clear p2
    obtain ⟨x5_1, x6_1, rfl, HA, HK1, HO_5, HB⟩ := hrel
    cases gk with
    | zero => exact absurd HA.out (by simp [gangwayref20_Little.l0])
    | succ k1 =>
      have H := HA.out
      clear HA
      simp only [gangwayref20_Little.l0] at H
      by_cases c3 : x6_1 < a1
      · rw [if_pos c3] at H
        have c3b0 : decide (x6_1 < a1) = true := decide_eq_true c3
        clear c3
        obtain ⟨ji4, hji4⟩ : ∃ j_ : Int, (wrap64 (8 * x6_1)) = j_ := ⟨_, rfl⟩
        replace H : (if 0 ≤ (ji4) then (if x5_1.length < 140737488355328 then (gangwayref20_Little.l0 k1 a0 a1 (x5_1 ++ [(shr .u64 a0 (ji4)) % 256]) (wrap64 (x6_1 + 1))) else (none)) else (none)) = some r := by first | (rw [hji4] at H; exact H) | (simp only [hji4] at H ⊢; exact H)
        have hji4w : (IntKind.i64.wrap (8 * x6_1)) = ji4 := (i64_w _).trans hji4
        by_cases c5 : 0 ≤ (ji4)
        · rw [if_pos c5] at H
          have c5b0 := eq_true c5
          have c5b1 : decide (0 ≤ (ji4)) = true := decide_eq_true c5
          clear c5
          obtain ⟨ji6, hji6⟩ : ∃ j_ : Int, (shr .u64 a0 (ji4)) = j_ := ⟨_, rfl⟩
          replace H : (if x5_1.length < 140737488355328 then (gangwayref20_Little.l0 k1 a0 a1 (x5_1 ++ [(ji6) % 256]) (wrap64 (x6_1 + 1))) else (none)) = some r := by first | (rw [hji6] at H; exact H) | (simp only [hji6] at H ⊢; exact H)
          have hji6_ : (a0 / 2 ^ min (ji4).toNat 64) = ji6 := hji6
          have hji6z : (ji4) ≤ 64 → (a0 / 2 ^ (ji4).toNat) = ji6 := shr_small hji6
          by_cases c7 : x5_1.length < 140737488355328
          · rw [if_pos c7] at H
            have LMc7 := Aside0.mk c7
            clear c7
            obtain ⟨y124, hy124⟩ : ∃ y_ : List Int, y_ = (x5_1 ++ [(ji6) % 256]) := ⟨_, rfl⟩
            replace H : (gangwayref20_Little.l0 k1 a0 a1 y124 (wrap64 (x6_1 + 1))) = some r := by first | (rw [hy124]; with_reducible exact H) | (have H2_ := (Option.bind_some _ _).symm.trans H; rw [hy124]; with_reducible exact H2_) | (have H2_ := (Option.bind_some _ _).symm.trans H; with_reducible exact H2_) | with_reducible exact H | (rw [hy124]; exact H) | exact H
            have Ny124 := Aside0.mk hy124
            clear hy124
            have H' := Aside0.mk H
            clear H
            go_wp2_with (first | ((with_reducible refine gate_builtin (b := .append) (xs := #[.tmp 12, .tmp 18]) rfl ?_); at_builtin; refine Kd.R_append (Kd.int .u8) (w0 := w) w.heap.size rfl (.tmp 12) (.tmp 18) 23 5 (.int .u8 0) 1 rfl Try.underlying23 info5 rfl (by decide) (by omega) u5 x5_1 ((ji6) % 256) [.int .u8 ((ji6) % 256)] (fun _ => True) (fun _ => False) rfl rfl ?aP (fun _ hk => hk.elim) ?aF ?aO ?aB ?aS ?aL ?_; (case aP => exact rfl); (case aB => exact (by repeat (first | (with_reducible first | exact HB.out | apply below_alloc | apply pw_below_drewN | apply below_drew1) | exact HB.out))); (case aF => exact (fun _ _ => trivial)); (case aO => exact (by (with_reducible repeat (first | apply Kd.R_alloc | apply Kd.R_drewN | apply Kd.R_drew)); exact HO_5.out)); (case aS => exact (below_size (by repeat (first | (with_reducible first | exact HB.out | apply below_alloc | apply pw_below_drewN | apply below_drew1) | exact HB.out)))); (case aL => have := LMc7.out; omega); intro v125 w8 ho hb hg hat; rw [← Ny124.out] at ho; have n0_ := Aside0.mk (hb); have n1_ := Aside0.mk (ho); clear HB; clear HO_5; have HB := n0_; have HO126 := n1_; clear n0_ n1_; clear ho hb hg hat))
            go_roundg k1
            case measure => have := HK1.out; omega
            case rel => exact ⟨(y124), (wrap64 (x6_1 + 1)), (by first | rfl | (simp; done) | (simp [*]; done)), H', ⟨by have := HK1.out; omega⟩, ⟨by (with_reducible repeat (first | apply Kd.R_alloc | apply Kd.R_drewN | apply Kd.R_drew)); exact HO126.out⟩, ⟨by repeat (first | (with_reducible first | exact HB.out | apply below_alloc | apply pw_below_drewN | apply below_drew1) | exact HB.out)⟩⟩
          · rw [if_neg c7] at H
            exact absurd H (by simp)
        · rw [if_neg c5] at H
          exact absurd H (by simp)
      · rw [if_neg c3] at H
        have c3b0 : decide (x6_1 < a1) = false := decide_eq_false c3
        clear c3
        obtain rfl := Option.some.inj H
        go_wp2
        go_ret
        exact ⟨_, by first | rfl | (simp [errW_none, errW_some] <;> rfl) | (simp [*, errW_none, errW_some] <;> rfl), by (with_reducible repeat (first | apply Kd.R_alloc | apply Kd.R_drewN | apply Kd.R_drew)); exact HO_5.out, by repeat (first | (with_reducible first | exact HB.out | apply below_alloc | apply pw_below_drewN | apply below_drew1) | exact HB.out)⟩

/-! ### gangwayref20_Event: function 13 -/
abbrev gangwayref20_Event.t : Bool := true
abbrev gangwayref20_Event.f_ : Bool := false
theorem gangwayref20_Event.bc {w : World} {g : Nat} {cs : Array Value} {t : TypeId} (h : Aside0 (w.heap[g]? = some (.cells cs t (0, 0)))) (i : Nat) {v : Value} (e : cs[i]? = some v := by rfl) : w.cell? ⟨g, i, none⟩ = some v := (blk_cell h.out i).trans e
theorem gangwayref20_Event.bkept {W0 W W2 : World} {g : Nat} {o : Obj} {S : Nat → Prop} (_b : Aside0 (W0.heap[g]? = some o)) (h : W.heap[g]? = some o) (hk : Kept W W2 S) (hn : ¬ S g) : W2.heap[g]? = some o := blk_kept h hk hn
theorem gangwayref20_Event.bbelow {W0 w w1 : World} {g : Nat} {o : Obj} (_b : Aside0 (W0.heap[g]? = some o)) (h : w.heap[g]? = some o) (hb : Below w.heap.size w w1) : w1.heap[g]? = some o := blk_below h hb
theorem gangwayref20_Event.e1 {α : Type _} (xs : List α) (i : Nat) (a : α) : xs.toArray.setIfInBounds i a = (xs.set i a).toArray := by simp
theorem gangwayref20_Event.e2 {α : Type _} (x a : α) (xs : List α) : (x :: xs).set 0 a = a :: xs := rfl
theorem gangwayref20_Event.e3 {α : Type _} (x a : α) (xs : List α) (n : Nat) : (x :: xs).set (n + 1) a = x :: xs.set n a := rfl
def gangwayref20_Event.f (k : Nat) (a0_0 : Int) (a0_1 : Int) (a0_2 : Int) (a0_3 : Int) : Option (List Int) := (some (List.replicate 32 0 : List Int)).bind fun y128 => ((gangwayref20_Little.f k (IntKind.u64.wrap (a0_0)) 8).bind fun t131 => ((gangwayref20_put.f k y128 0 t131).bind fun t134 => ((gangwayref20_Little.f k (IntKind.u64.wrap (a0_1)) 2).bind fun t135 => ((gangwayref20_put.f k t134 8 t135).bind fun t138 => (if 10 < (y128.length : Int) then ((gangwayref20_Little.f k (IntKind.u64.wrap (a0_3)) 8).bind fun t140 => ((gangwayref20_put.f k (t138.set (10 : Int).toNat ((a0_2) % 256)) 16 t140).bind fun t143 => (some t143))) else (none))))))
theorem gangwayref20_Event.mono : ∀ a0 a1 a2 a3 k, LeO (gangwayref20_Event.f k a0 a1 a2 a3) (gangwayref20_Event.f (k + 1) a0 a1 a2 a3) := by
 intro a0 a1 a2 a3 k
 unfold gangwayref20_Event.f
 repeat' first
   | (with_reducible exact gangwayref20_Little.mono _ _ _)
   | (with_reducible exact gangwayref20_put.mono _ _ _ _)
   | (with_reducible exact LeO.refl _)
   | (with_reducible exact LeO.none _)
   | (with_reducible refine LeO.ite ?_ ?_)
   | (with_reducible refine LeO.bind ?_ (fun _ => ?_))
   | exact gangwayref20_Little.mono _ _ _
   | exact gangwayref20_put.mono _ _ _ _
   | exact LeO.none _
   | refine LeO.ite ?_ ?_
   | refine LeO.bind ?_ (fun _ => ?_)
theorem gangwayref20_Event.aa_0 {p : Prop} (h : p := by repeat (first | (with_reducible first | exact HB.out | apply below_alloc | apply pw_below_drewN | apply below_drew1 | refine below_set ?_ GE127.out) | exact HB.out)) : p := h
theorem gangwayref20_Event.aa_1 {p : Prop} (h : p := by (with_reducible repeat (first | refine blk_drewN ?_ _ | refine blk_drew ?_ | refine blk_alloc ?_ _)); exact BK127.out) : p := h
theorem gangwayref20_Event.aa_2 {p : Prop} (h : p := by (try simp only [List.map_toArray, List.map_cons, List.map_nil]); first | done | rfl | (simp only [List.length_drop, List.length_take]; rfl)) : p := h
theorem gangwayref20_Event.aa_3 {p : Prop} (h : p := by (with_reducible repeat (first | apply Kd.R_alloc | apply Kd.R_drewN | apply Kd.R_drew)); exact HO130.out) : p := h
theorem gangwayref20_Event.am_ {p : Prop} (h : p) : Aside0 p := Aside0.mk h
theorem gangwayref20_Event.bm_ {α β : Type _} {o : Option α} {f : α → Option β} {b : β} (h : o.bind f = some b) : ∃ a, o = some a ∧ f a = some b := Option.bind_eq_some_iff.mp h
set_option maxHeartbeats 8000000 in
set_option maxRecDepth 100000 in
theorem gangwayref20_Event.calls (k : Nat) (a0_0 : Int) (a0_1 : Int) (a0_2 : Int) (a0_3 : Int) (r : List Int) (w : World) (h : gangwayref20_Event.f k a0_0 a0_1 a0_2 a0_3 = some r) :
  Calls Try.prog 13 #[.agg #[.int .i64 a0_0, .int .i64 a0_1, .int .i64 a0_2, .int .i64 a0_3]] w fun e w' => ∃ v0_ : Value, e = .returned (v0_) ∧ Kd.R (Kd.int .u8) 5 w' w.heap.size (fun _ => True) v0_ r ∧ Below w.heap.size w w' := by
 have hu33 := Try.underlying33
 have HB := am_ (Below.refl w.heap.size w)
 have H : ((some (List.replicate 32 0 : List Int)).bind fun y128 => ((gangwayref20_Little.f k (IntKind.u64.wrap (a0_0)) 8).bind fun t131 => ((gangwayref20_put.f k y128 0 t131).bind fun t134 => ((gangwayref20_Little.f k (IntKind.u64.wrap (a0_1)) 2).bind fun t135 => ((gangwayref20_put.f k t134 8 t135).bind fun t138 => (if 10 < (y128.length : Int) then ((gangwayref20_Little.f k (IntKind.u64.wrap (a0_3)) 8).bind fun t140 => ((gangwayref20_put.f k (t138.set (10 : Int).toNat ((a0_2) % 256)) 16 t140).bind fun t143 => (some t143))) else (none))))))) = some r := h
 clear h
 obtain ⟨y128, hy128⟩ : ∃ y_ : List Int, y_ = (List.replicate 32 0) := ⟨_, rfl⟩
 replace H : ((gangwayref20_Little.f k (IntKind.u64.wrap (a0_0)) 8).bind fun t131 => ((gangwayref20_put.f k y128 0 t131).bind fun t134 => ((gangwayref20_Little.f k (IntKind.u64.wrap (a0_1)) 2).bind fun t135 => ((gangwayref20_put.f k t134 8 t135).bind fun t138 => (if 10 < (y128.length : Int) then ((gangwayref20_Little.f k (IntKind.u64.wrap (a0_3)) 8).bind fun t140 => ((gangwayref20_put.f k (t138.set (10 : Int).toNat ((a0_2) % 256)) 16 t140).bind fun t143 => (some t143))) else (none)))))) = some r := by first | (rw [hy128]; with_reducible exact H) | (have H2_ := (Option.bind_some _ _).symm.trans H; rw [hy128]; with_reducible exact H2_) | (have H2_ := (Option.bind_some _ _).symm.trans H; with_reducible exact H2_) | with_reducible exact H | (rw [hy128]; exact H) | exact H
 have Ny128 := am_ hy128
 clear hy128
 replace H := bm_ H
 obtain ⟨t131, A20, H⟩ := H
 replace H : ((gangwayref20_put.f k y128 0 t131).bind fun t134 => ((gangwayref20_Little.f k (IntKind.u64.wrap (a0_1)) 2).bind fun t135 => ((gangwayref20_put.f k t134 8 t135).bind fun t138 => (if 10 < (y128.length : Int) then ((gangwayref20_Little.f k (IntKind.u64.wrap (a0_3)) 8).bind fun t140 => ((gangwayref20_put.f k (t138.set (10 : Int).toNat ((a0_2) % 256)) 16 t140).bind fun t143 => (some t143))) else (none))))) = some r := H
 have A2 := am_ A20
 clear A20
 replace H := bm_ H
 obtain ⟨t134, A30, H⟩ := H
 replace H : ((gangwayref20_Little.f k (IntKind.u64.wrap (a0_1)) 2).bind fun t135 => ((gangwayref20_put.f k t134 8 t135).bind fun t138 => (if 10 < (y128.length : Int) then ((gangwayref20_Little.f k (IntKind.u64.wrap (a0_3)) 8).bind fun t140 => ((gangwayref20_put.f k (t138.set (10 : Int).toNat ((a0_2) % 256)) 16 t140).bind fun t143 => (some t143))) else (none)))) = some r := H
 have A3 := am_ A30
 clear A30
 replace H := bm_ H
 obtain ⟨t135, A40, H⟩ := H
 replace H : ((gangwayref20_put.f k t134 8 t135).bind fun t138 => (if 10 < (y128.length : Int) then ((gangwayref20_Little.f k (IntKind.u64.wrap (a0_3)) 8).bind fun t140 => ((gangwayref20_put.f k (t138.set (10 : Int).toNat ((a0_2) % 256)) 16 t140).bind fun t143 => (some t143))) else (none))) = some r := H
 have A4 := am_ A40
 clear A40
 replace H := bm_ H
 obtain ⟨t138, A50, H⟩ := H
 replace H : (if 10 < (y128.length : Int) then ((gangwayref20_Little.f k (IntKind.u64.wrap (a0_3)) 8).bind fun t140 => ((gangwayref20_put.f k (t138.set (10 : Int).toNat ((a0_2) % 256)) 16 t140).bind fun t143 => (some t143))) else (none)) = some r := H
 have A5 := am_ A50
 clear A50
 by_cases c6 : 10 < (y128.length : Int)
 rotate_left
 ·rw [if_neg c6] at H
  exact absurd H (by simp)
 rw [if_pos c6] at H
 have c6b0 : decide (10 < (y128.length : Int)) = true := decide_eq_true c6
 have c6b1 : decide (10 < y128.length) = true := decide_eq_true (by omega)
 clear c6
 obtain ⟨y139, hy139⟩ : ∃ y_ : List Int, y_ = (t138.set (10 : Int).toNat ((a0_2) % 256)) := ⟨_, rfl⟩
 replace H : ((gangwayref20_Little.f k (IntKind.u64.wrap (a0_3)) 8).bind fun t140 => ((gangwayref20_put.f k y139 16 t140).bind fun t143 => (some t143))) = some r := by first | (rw [hy139]; with_reducible exact H) | (have H2_ := (Option.bind_some _ _).symm.trans H; rw [hy139]; with_reducible exact H2_) | (have H2_ := (Option.bind_some _ _).symm.trans H; with_reducible exact H2_) | with_reducible exact H | (rw [hy139]; exact H) | exact H
 have Ny139 := am_ hy139
 clear hy139
 replace H := bm_ H
 obtain ⟨t140, A80, H⟩ := H
 replace H : ((gangwayref20_put.f k y139 16 t140).bind fun t143 => (some t143)) = some r := H
 have A8 := am_ A80
 clear A80
 replace H := bm_ H
 obtain ⟨t143, A90, H⟩ := H
 replace H : (some t143) = some r := H
 have A9 := am_ A90
 clear A90
 obtain rfl := Option.some.inj H
 go_enter Try.func13, Try.ntmps13
 go_wp2_with (first | ((with_reducible refine gate_dst (N := 1) rfl ?_); refine box_event ?hg (N := 1) ?hd (cs := #[.int .i64 a0_0, .int .i64 a0_1, .int .i64 a0_2, .int .i64 a0_3]) (t := 33) ?hr ?_; (case hd => rfl); (case hg => rfl); (case hr => first | (go_simp; done) | (go_simp; rfl)); intro gb127 hg w10 hbox hb; have n0_ := am_ (below_step (by repeat (first | (with_reducible first | exact HB.out | apply below_alloc | apply pw_below_drewN | apply below_drew1) | exact HB.out)) hb); have n1_ := am_ (hbox); have n2_ := am_ ((by rw [hg]; exact (below_size (by repeat (first | (with_reducible first | exact HB.out | apply below_alloc | apply pw_below_drewN | apply below_drew1) | exact HB.out))) : w.heap.size ≤ gb127)); have n3_ := am_ ((by rw [hg]; exact (below_size (by repeat (first | (with_reducible first | exact HB.out | apply below_alloc | apply pw_below_drewN | apply below_drew1) | exact HB.out))) : w.heap.size ≤ gb127)); clear HB; have HB := n0_; have BK127 := n1_; have GW127 := n2_; have GE127 := n3_; clear n0_ n1_ n2_ n3_; clear hb hbox hg) | ((with_reducible refine gate_dst (N := 4) rfl ?_); refine Kd.R_make (Kd.int .u8) _ 5 rfl (N := 4) rfl 23 _ _ rfl 32 rfl rfl Try.underlying23 (.int .u8 0) 1 info5 rfl (by decide) (by omega) 0 (ok := fun _ => True) (okp := fun _ => True) rfl (fun _ hk => hk) trivial (by omega) (by omega) (Below.refl _ _) (Nat.le_refl _) ?_; intro v129 w11 ho12 hb hg_ hnew_; clear hg_ hnew_; (first | rw [← Ny128.out] at ho12 | (simp only [Int.reduceToNat] at ho12; rw [← Ny128.out] at ho12)); have n0_ := am_ (Kd.R_lower ho12 (below_size aa_0)); have n1_ := am_ (bbelow BK127 aa_1 hb); have n2_ := am_ (below_step aa_0 hb); clear BK127; clear HB; have HO130 := n0_; have BK127 := n1_; have HB := n2_; clear n0_ n1_ n2_; clear hb ho12; have hcz13_0 : w11.cell? ⟨gb127, 0, none⟩ = some (.int .i64 a0_0) := (bc BK127 0); have hcz13_1 : w11.cell? ⟨gb127, 1, none⟩ = some (.int .i64 a0_1) := (bc BK127 1); have hcz13_2 : w11.cell? ⟨gb127, 2, none⟩ = some (.int .i64 a0_2) := (bc BK127 2); have hcz13_3 : w11.cell? ⟨gb127, 3, none⟩ = some (.int .i64 a0_3) := (bc BK127 3); have hfz13_0 := blk_frozen BK127.out 0; have hfz13_1 := blk_frozen BK127.out 1; have hfz13_2 := blk_frozen BK127.out 2; have hfz13_3 := blk_frozen BK127.out 3) | ((with_reducible refine gate_callee (f := 34) rfl ?_); refine goesL_ (some 9) rfl rfl Try.func34 (by kernel_rfl) rfl #[.int .u64 (IntKind.u64.wrap (a0_0)), .int .i64 8] rfl aa_2 ?_; (with_reducible refine (gangwayref20_Little.calls k (IntKind.u64.wrap (a0_0)) 8 t131 _ A2.out).mono ?_); rintro e w14 ⟨v132, rfl, ho0, hb⟩; refine ⟨_, rfl, ?_⟩; have n0_ := am_ (Kd.R_elder' aa_3 (Kd.R_base ho0) hb); have n1_ := am_ (Kd.R_lower (Kd.R_new' ho0 (Kd.R_lt aa_3)) (below_size aa_0)); have n2_ := am_ (bbelow BK127 aa_1 hb); have n3_ := am_ (below_step aa_0 hb); clear HO130; clear BK127; clear HB; have HO130 := n0_; have HO133 := n1_; have BK127 := n2_; have HB := n3_; clear n0_ n1_ n2_ n3_; (try clear hb); (try clear hb2); (try clear hk); (try clear hi); (try clear ho0); obtain ⟨Ao15, co15, eo15⟩ := Kd.R_slice HO130.out; subst eo15; obtain ⟨Ao16, co16, eo16⟩ := Kd.R_slice HO133.out; subst eo16) | ((with_reducible refine gate_callee (f := 33) rfl ?_); refine goesL_ (some 10) rfl rfl Try.func33 (by kernel_rfl) rfl #[.slice Ao15 y128.length co15, .int .i64 0, .slice Ao16 t131.length co16] rfl aa_2 ?_; (with_reducible refine (gangwayref20_put.calls k (fun k_ => some k_ = (.slice Ao15 y128.length co15 : Value).ownBlock) (.slice Ao15 y128.length co15) y128 0 _ _ t131 t134 w _ ?side1 ?side2 ?side3 ?side4 A3.out).mono ?_); (case side1 => exact aa_0); (case side2 => exact Kd.R_tight rfl HO130.out); (case side3 => exact Kd.C_kept_own (HO133.out) (fun k_ hk_ hs_ => (hk_.2) hs_)); (case side4 => exact (Kd.R_reads' HO133.out).2.1); rintro e w17 ⟨rfl, hy0, hb, hkp⟩; refine ⟨_, rfl, ?_⟩; (try obtain ⟨hlew17_0, hgew17_0⟩ := Go.Proofs.YthhmnecnoojcpaaO.R_lens hy0); have n0_ := am_ (bkept BK127 aa_1 hkp (fun hs_ => (fun e_ => (Kd.R_ne HO130.out BK127.out (by decide)) e_) hs_)); have n1_ := am_ (Kd.R_reok rfl hy0 (fun k_ e_ => HO130.out.1 k_ e_)); have n2_ := am_ (Kd.R_mono (ok' := fun k_ => some k_ ≠ (.slice Ao15 y128.length co15 : Value).ownBlock) (Kd.R_keptB (HO133.out) hkp (fun k_ hk_ hs_ => (hk_.2) hs_)) (fun k_ hk_ => hk_.1.2)); have n3_ := am_ (hb); clear BK127; clear HO130; clear HO133; clear HB; have BK127 := n0_; have HO130 := n1_; have HO133 := n2_; have HB := n3_; clear n0_ n1_ n2_ n3_; (try clear hb); (try clear hkp); (try clear hy0); have hcz18_0 : w17.cell? ⟨gb127, 0, none⟩ = some (.int .i64 a0_0) := (bc BK127 0); have hcz18_1 : w17.cell? ⟨gb127, 1, none⟩ = some (.int .i64 a0_1) := (bc BK127 1); have hcz18_2 : w17.cell? ⟨gb127, 2, none⟩ = some (.int .i64 a0_2) := (bc BK127 2); have hcz18_3 : w17.cell? ⟨gb127, 3, none⟩ = some (.int .i64 a0_3) := (bc BK127 3); have hfz18_0 := blk_frozen BK127.out 0; have hfz18_1 := blk_frozen BK127.out 1; have hfz18_2 := blk_frozen BK127.out 2; have hfz18_3 := blk_frozen BK127.out 3) | ((with_reducible refine gate_callee (f := 34) rfl ?_); refine goesL_ (some 15) rfl rfl Try.func34 (by kernel_rfl) rfl #[.int .u64 (IntKind.u64.wrap (a0_1)), .int .i64 2] rfl aa_2 ?_; (with_reducible refine (gangwayref20_Little.calls k (IntKind.u64.wrap (a0_1)) 2 t135 _ A4.out).mono ?_); rintro e w19 ⟨v136, rfl, ho0, hb⟩; refine ⟨_, rfl, ?_⟩; have n0_ := am_ (Kd.R_elder' aa_3 (Kd.R_base ho0) hb); have n1_ := am_ (Kd.R_elder' (by (with_reducible repeat (first | apply Kd.R_alloc | apply Kd.R_drewN | apply Kd.R_drew)); exact HO133.out) (Kd.R_base ho0) hb); have n2_ := am_ (Kd.R_lower (Kd.R_new' (Kd.R_new' ho0 (Kd.R_lt aa_3)) (Kd.R_lt (by (with_reducible repeat (first | apply Kd.R_alloc | apply Kd.R_drewN | apply Kd.R_drew)); exact HO133.out))) (below_size aa_0)); have n3_ := am_ (bbelow BK127 aa_1 hb); have n4_ := am_ (below_step aa_0 hb); clear HO130; clear HO133; clear BK127; clear HB; have HO130 := n0_; have HO133 := n1_; have HO137 := n2_; have BK127 := n3_; have HB := n4_; clear n0_ n1_ n2_ n3_ n4_; (try clear hb); (try clear hb2); (try clear hk); (try clear hi); (try clear ho0); obtain ⟨Ao20, co20, eo20⟩ := Kd.R_slice HO137.out; subst eo20) | ((with_reducible refine gate_callee (f := 33) rfl ?_); refine goesL_ (some 16) rfl rfl Try.func33 (by kernel_rfl) rfl #[.slice Ao15 y128.length co15, .int .i64 8, .slice Ao20 t135.length co20] rfl aa_2 ?_; (with_reducible refine (gangwayref20_put.calls k (fun k_ => some k_ = (.slice Ao15 y128.length co15 : Value).ownBlock) (.slice Ao15 y128.length co15) t134 8 _ _ t135 t138 w _ ?side1 ?side2 ?side3 ?side4 A5.out).mono ?_); (case side1 => exact aa_0); (case side2 => exact Kd.R_tight rfl HO130.out); (case side3 => exact Kd.C_kept_own (HO137.out) (fun k_ hk_ hs_ => (hk_.1.2) hs_)); (case side4 => exact (Kd.R_reads' HO137.out).2.1); rintro e w21 ⟨rfl, hy0, hb, hkp⟩; refine ⟨_, rfl, ?_⟩; (try obtain ⟨hlew21_0, hgew21_0⟩ := Go.Proofs.YthhmnecnoojcpaaO.R_lens hy0); have n0_ := am_ (bkept BK127 aa_1 hkp (fun hs_ => (fun e_ => (Kd.R_ne HO130.out BK127.out (by decide)) e_) hs_)); have n1_ := am_ (Kd.R_reok rfl hy0 (fun k_ e_ => HO130.out.1 k_ e_)); have n2_ := am_ (Kd.R_mono (ok' := fun k_ => some k_ ≠ (.slice Ao15 y128.length co15 : Value).ownBlock ∧ some k_ ≠ (.slice Ao20 t135.length co20 : Value).ownBlock) (Kd.R_keptB (HO133.out) hkp (fun k_ hk_ hs_ => (hk_.1) hs_)) (fun k_ hk_ => ⟨hk_.1.1, hk_.1.2⟩)); have n3_ := am_ (Kd.R_mono (ok' := fun k_ => some k_ ≠ (.slice Ao15 y128.length co15 : Value).ownBlock ∧ some k_ ≠ (.slice Ao16 t131.length co16 : Value).ownBlock) (Kd.R_keptB (HO137.out) hkp (fun k_ hk_ hs_ => (hk_.1.2) hs_)) (fun k_ hk_ => ⟨hk_.1.1.2, hk_.1.2⟩)); have n4_ := am_ (hb); clear BK127; clear HO130; clear HO133; clear HO137; clear HB; have BK127 := n0_; have HO130 := n1_; have HO133 := n2_; have HO137 := n3_; have HB := n4_; clear n0_ n1_ n2_ n3_ n4_; (try clear hb); (try clear hkp); (try clear hy0); have hcz22_0 : w21.cell? ⟨gb127, 0, none⟩ = some (.int .i64 a0_0) := (bc BK127 0); have hcz22_1 : w21.cell? ⟨gb127, 1, none⟩ = some (.int .i64 a0_1) := (bc BK127 1); have hcz22_2 : w21.cell? ⟨gb127, 2, none⟩ = some (.int .i64 a0_2) := (bc BK127 2); have hcz22_3 : w21.cell? ⟨gb127, 3, none⟩ = some (.int .i64 a0_3) := (bc BK127 3); have hfz22_0 := blk_frozen BK127.out 0; have hfz22_1 := blk_frozen BK127.out 1; have hfz22_2 := blk_frozen BK127.out 2; have hfz22_3 := blk_frozen BK127.out 3; have p7 : 0 ≤ (10 : Int) := (by omega); have q7 : (10 : Int) < ((y128.length : Int) : Int) := of_decide_eq_true (by first | (with_reducible assumption) | assumption); have qi7 : (10 < y128.length) = True := eq_true (by omega); obtain ⟨go7, co7, eo7, gb7, gl7, cl7, HG7⟩ := Kd.R_form HO130.out (by omega); (first | cases eo7 | (injection eo7 with ea_ en_ ec_; (first | subst ea_ | (injection ea_ with ea_; subst ea_)); subst ec_; clear en_)); have GB7 := am_ gb7; have GG7 := am_ HG7; clear gb7 gl7 HG7; obtain ⟨hx7_0, hf7_0⟩ := Kd.R_celln 0 HO130.out (10 : Int) p7 q7; (try rw [show ((10 : Int)).toNat = 10 from rfl] at hx7_0); (try simp only [Nat.reduceMul, Nat.zero_mul, Nat.zero_add, Nat.reduceAdd] at hx7_0); (try rw [show ((10 : Int)).toNat = 10 from rfl] at hf7_0); (try simp only [Nat.reduceMul, Nat.zero_mul, Nat.zero_add, Nat.reduceAdd] at hf7_0); replace p7 := eq_true p7; replace q7 := eq_true q7; have n_ := am_ (show Kd.R _ _ _ _ ((fun k_ => some k_ ≠ (.slice Ao16 t131.length co16 : Value).ownBlock ∧ some k_ ≠ (.slice Ao20 t135.length co20 : Value).ownBlock)) _ _ from by first | exact (Kd.R_mono HO130.out (fun k_ hk => ⟨hk.1.2, hk.2⟩)) | exact HO130.out); clear HO130; have HO130 := n_; clear n_; obtain ⟨hy23_, hz23_⟩ := Kd.R_celln 0 HO130.out (10 : Int) (by omega) (of_decide_eq_true (by first | (with_reducible assumption) | assumption)); (try simp only [Int.reduceToNat, Int.toNat_zero, Int.toNat_ofNat, Nat.reduceMul, Nat.zero_mul, Nat.zero_add] at hy23_ hz23_); (try rw [show ((10 : Int)).toNat = 10 from rfl] at hy23_); (try rw [show ((10 : Int)).toNat = 10 from rfl] at hz23_); have HP23 := Kd.R_putg HO130.out (10 : Int) ((a0_2) % 256)) | ((with_reducible refine gate_store (t := 5) (p := 21) rfl ?_); refine store_event (t := 5) (p := 21) (v := ?vo_w24) (w1 := (w21.setCell ⟨go7, (10 : Int).toNat, none⟩ (.int .u8 ((a0_2) % 256)))) ?hg ?ho ?hn ?hr ?_; (case ho => rfl); (case hg => rfl); (case hn => rfl); (case hr => first | (go_simp; done) | (go_simp; rfl)); intro w24 hw; have hg : w21.grownBy w24 (some go7) := (by rw [hw]; exact HP23.2); have hp_ : Kd.R (Kd.int .u8) 5 w24 w.heap.size (fun k_ => some k_ ≠ (.slice Ao16 t131.length co16 : Value).ownBlock ∧ some k_ ≠ (.slice Ao20 t135.length co20 : Value).ownBlock) (.slice (some ⟨go7, 0, none⟩) y128.length co15) y139 := (by rw [hw, Ny139.out]; exact HP23.1); clear HP23; have n0_ := am_ (blk_grown (g := gb127) (o := .cells #[.int .i64 a0_0, .int .i64 a0_1, .int .i64 a0_2, .int .i64 a0_3] 33 (0, 0)) aa_1 hg (Kd.R_ne HO130.out BK127.out (by decide))); have n1_ := am_ (hp_); have n2_ := am_ (Kd.R_after (v := (.slice (some ⟨go7, 0, none⟩) y128.length co15)) (v1 := (.slice (some ⟨go7, 0, none⟩) y128.length co15)) (ok := (fun k_ => some k_ ≠ (.slice Ao20 t135.length co20 : Value).ownBlock)) (by (with_reducible repeat (first | apply Kd.R_alloc | apply Kd.R_drewN | apply Kd.R_drew)); exact Kd.R_mono HO133.out (fun _ hk => ⟨hk.2, hk.1⟩)) hg (.inl rfl)); have n3_ := am_ (Kd.R_after (v := (.slice (some ⟨go7, 0, none⟩) y128.length co15)) (v1 := (.slice (some ⟨go7, 0, none⟩) y128.length co15)) (ok := (fun k_ => some k_ ≠ (.slice Ao16 t131.length co16 : Value).ownBlock)) (by (with_reducible repeat (first | apply Kd.R_alloc | apply Kd.R_drewN | apply Kd.R_drew)); exact Kd.R_mono HO137.out (fun _ hk => ⟨hk.2, hk.1⟩)) hg (.inl rfl)); have n4_ := am_ ((by rw [hw]; exact below_set (HB.out) GB7.out : Below w.heap.size w w24)); clear BK127; clear HO130; clear HO133; clear HO137; clear HB; have BK127 := n0_; have HO130 := n1_; have HO133 := n2_; have HO137 := n3_; have HB := n4_; clear n0_ n1_ n2_ n3_ n4_; clear hg hw hp_; have hcz25_0 : w24.cell? ⟨gb127, 0, none⟩ = some (.int .i64 a0_0) := (bc BK127 0); have hcz25_1 : w24.cell? ⟨gb127, 1, none⟩ = some (.int .i64 a0_1) := (bc BK127 1); have hcz25_2 : w24.cell? ⟨gb127, 2, none⟩ = some (.int .i64 a0_2) := (bc BK127 2); have hcz25_3 : w24.cell? ⟨gb127, 3, none⟩ = some (.int .i64 a0_3) := (bc BK127 3); have hfz25_0 := blk_frozen BK127.out 0; have hfz25_1 := blk_frozen BK127.out 1; have hfz25_2 := blk_frozen BK127.out 2; have hfz25_3 := blk_frozen BK127.out 3) | ((with_reducible refine gate_callee (f := 34) rfl ?_); refine goesL_ (some 26) rfl rfl Try.func34 (by kernel_rfl) rfl #[.int .u64 (IntKind.u64.wrap (a0_3)), .int .i64 8] rfl aa_2 ?_; (with_reducible refine (gangwayref20_Little.calls k (IntKind.u64.wrap (a0_3)) 8 t140 _ A8.out).mono ?_); rintro e w26 ⟨v141, rfl, ho0, hb⟩; refine ⟨_, rfl, ?_⟩; have n0_ := am_ (Kd.R_elder' aa_3 (Kd.R_base ho0) hb); have n1_ := am_ (Kd.R_elder' (by (with_reducible repeat (first | apply Kd.R_alloc | apply Kd.R_drewN | apply Kd.R_drew)); exact HO133.out) (Kd.R_base ho0) hb); have n2_ := am_ (Kd.R_elder' (by (with_reducible repeat (first | apply Kd.R_alloc | apply Kd.R_drewN | apply Kd.R_drew)); exact HO137.out) (Kd.R_base ho0) hb); have n3_ := am_ (Kd.R_lower (Kd.R_new' (Kd.R_new' (Kd.R_new' ho0 (Kd.R_lt aa_3)) (Kd.R_lt (by (with_reducible repeat (first | apply Kd.R_alloc | apply Kd.R_drewN | apply Kd.R_drew)); exact HO133.out))) (Kd.R_lt (by (with_reducible repeat (first | apply Kd.R_alloc | apply Kd.R_drewN | apply Kd.R_drew)); exact HO137.out))) (below_size aa_0)); have n4_ := am_ (bbelow BK127 aa_1 hb); have n5_ := am_ (below_step aa_0 hb); clear HO130; clear HO133; clear HO137; clear BK127; clear HB; have HO130 := n0_; have HO133 := n1_; have HO137 := n2_; have HO142 := n3_; have BK127 := n4_; have HB := n5_; clear n0_ n1_ n2_ n3_ n4_ n5_; (try clear hb); (try clear hb2); (try clear hk); (try clear hi); (try clear ho0); obtain ⟨Ao27, co27, eo27⟩ := Kd.R_slice HO142.out; subst eo27) | ((with_reducible refine gate_callee (f := 33) rfl ?_); refine goesL_ (some 27) rfl rfl Try.func33 (by kernel_rfl) rfl #[.slice (some ⟨go7, 0, none⟩) y128.length co15, .int .i64 16, .slice Ao27 t140.length co27] rfl aa_2 ?_; (with_reducible refine (gangwayref20_put.calls k (fun k_ => some k_ = (.slice (some ⟨go7, 0, none⟩) y128.length co15 : Value).ownBlock) (.slice (some ⟨go7, 0, none⟩) y128.length co15) y139 16 _ _ t140 t143 w _ ?side1 ?side2 ?side3 ?side4 A9.out).mono ?_); (case side1 => exact aa_0); (case side2 => exact Kd.R_tight rfl HO130.out); (case side3 => exact Kd.C_kept_own (HO142.out) (fun k_ hk_ hs_ => (hk_.1.1.2) hs_)); (case side4 => exact (Kd.R_reads' HO142.out).2.1); rintro e w28 ⟨rfl, hy0, hb, hkp⟩; refine ⟨_, rfl, ?_⟩; (try obtain ⟨hlew28_0, hgew28_0⟩ := Go.Proofs.YthhmnecnoojcpaaO.R_lens hy0); have n0_ := am_ (bkept BK127 aa_1 hkp (fun hs_ => (fun e_ => (Kd.R_ne HO130.out BK127.out (by decide)) e_) hs_)); have n1_ := am_ (Kd.R_reok rfl hy0 (fun k_ e_ => HO130.out.1 k_ e_)); have n2_ := am_ (Kd.R_mono (ok' := fun k_ => some k_ ≠ (.slice (some ⟨go7, 0, none⟩) y128.length co15 : Value).ownBlock ∧ some k_ ≠ (.slice Ao20 t135.length co20 : Value).ownBlock ∧ some k_ ≠ (.slice Ao27 t140.length co27 : Value).ownBlock) (Kd.R_keptB (HO133.out) hkp (fun k_ hk_ hs_ => (hk_.1.2) hs_)) (fun k_ hk_ => ⟨hk_.1.1.2, hk_.1.1.1, hk_.1.2⟩)); have n3_ := am_ (Kd.R_mono (ok' := fun k_ => some k_ ≠ (.slice (some ⟨go7, 0, none⟩) y128.length co15 : Value).ownBlock ∧ some k_ ≠ (.slice Ao16 t131.length co16 : Value).ownBlock ∧ some k_ ≠ (.slice Ao27 t140.length co27 : Value).ownBlock) (Kd.R_keptB (HO137.out) hkp (fun k_ hk_ hs_ => (hk_.1.2) hs_)) (fun k_ hk_ => ⟨hk_.1.1.2, hk_.1.1.1, hk_.1.2⟩)); have n4_ := am_ (Kd.R_mono (ok' := fun k_ => some k_ ≠ (.slice (some ⟨go7, 0, none⟩) y128.length co15 : Value).ownBlock ∧ some k_ ≠ (.slice Ao16 t131.length co16 : Value).ownBlock ∧ some k_ ≠ (.slice Ao20 t135.length co20 : Value).ownBlock) (Kd.R_keptB (HO142.out) hkp (fun k_ hk_ hs_ => (hk_.1.1.2) hs_)) (fun k_ hk_ => ⟨hk_.1.1.1.2, hk_.1.1.2, hk_.1.2⟩)); have n5_ := am_ (hb); clear BK127; clear HO130; clear HO133; clear HO137; clear HO142; clear HB; have BK127 := n0_; have HO130 := n1_; have HO133 := n2_; have HO137 := n3_; have HO142 := n4_; have HB := n5_; clear n0_ n1_ n2_ n3_ n4_ n5_; (try clear hb); (try clear hkp); (try clear hy0)))
 go_ret
 exact ⟨_, by first | rfl | (simp [errW_none, errW_some] <;> rfl) | (simp [*, errW_none, errW_some] <;> rfl), by (with_reducible repeat (first | apply Kd.R_alloc | apply Kd.R_drewN | apply Kd.R_drew)); exact Kd.R_mono HO130.out (fun _ hk => trivial), by repeat (first | (with_reducible first | exact HB.out | apply below_alloc | apply pw_below_drewN | apply below_drew1 | refine below_set ?_ GE127.out) | exact HB.out)⟩
/-! ### stat_Prestat: function 27 -/
abbrev stat_Prestat.t : Bool := true
abbrev stat_Prestat.f_ : Bool := false
theorem stat_Prestat.bc {w : World} {g : Nat} {cs : Array Value} {t : TypeId} (h : Aside0 (w.heap[g]? = some (.cells cs t (0, 0)))) (i : Nat) {v : Value} (e : cs[i]? = some v := by rfl) : w.cell? ⟨g, i, none⟩ = some v := (blk_cell h.out i).trans e
theorem stat_Prestat.bkept {W0 W W2 : World} {g : Nat} {o : Obj} {S : Nat → Prop} (_b : Aside0 (W0.heap[g]? = some o)) (h : W.heap[g]? = some o) (hk : Kept W W2 S) (hn : ¬ S g) : W2.heap[g]? = some o := blk_kept h hk hn
theorem stat_Prestat.bbelow {W0 w w1 : World} {g : Nat} {o : Obj} (_b : Aside0 (W0.heap[g]? = some o)) (h : w.heap[g]? = some o) (hb : Below w.heap.size w w1) : w1.heap[g]? = some o := blk_below h hb
theorem stat_Prestat.e1 {α : Type _} (xs : List α) (i : Nat) (a : α) : xs.toArray.setIfInBounds i a = (xs.set i a).toArray := by simp
theorem stat_Prestat.e2 {α : Type _} (x a : α) (xs : List α) : (x :: xs).set 0 a = a :: xs := rfl
theorem stat_Prestat.e3 {α : Type _} (x a : α) (xs : List α) (n : Nat) : (x :: xs).set (n + 1) a = x :: xs.set n a := rfl
def stat_Prestat.f (k : Nat) (a0 : ByteArray) : Option (List Int) := (stat_fresh.f 8).bind fun t144 => ((stat_field_set.f k t144 4 4 (a0.size : Int)).bind fun t148 => (some t148))
theorem stat_Prestat.mono : ∀ a0 k, LeO (stat_Prestat.f k a0) (stat_Prestat.f (k + 1) a0) := by
 intro a0 k
 unfold stat_Prestat.f
 repeat' first
   | (with_reducible exact stat_field_set.mono _ _ _ _ _)
   | (with_reducible exact LeO.refl _)
   | (with_reducible exact LeO.none _)
   | (with_reducible refine LeO.ite ?_ ?_)
   | (with_reducible refine LeO.bind ?_ (fun _ => ?_))
   | exact stat_field_set.mono _ _ _ _ _
   | exact LeO.none _
   | refine LeO.ite ?_ ?_
   | refine LeO.bind ?_ (fun _ => ?_)
theorem stat_Prestat.aa_0 {p : Prop} (h : p := by repeat (first | (with_reducible first | exact HB.out | apply below_alloc | apply pw_below_drewN | apply below_drew1) | exact HB.out)) : p := h
theorem stat_Prestat.am_ {p : Prop} (h : p) : Aside0 p := Aside0.mk h
theorem stat_Prestat.bm_ {α β : Type _} {o : Option α} {f : α → Option β} {b : β} (h : o.bind f = some b) : ∃ a, o = some a ∧ f a = some b := Option.bind_eq_some_iff.mp h
set_option maxHeartbeats 8000000 in
set_option maxRecDepth 100000 in
theorem stat_Prestat.calls (k : Nat) (a0 : ByteArray) (r : List Int) (w : World) (h : stat_Prestat.f k a0 = some r) :
  Calls Try.prog 27 #[.string a0] w fun e w' => ∃ v0_ : Value, e = .returned (v0_) ∧ Kd.R (Kd.int .u8) 5 w' w.heap.size (fun _ => True) v0_ r ∧ Below w.heap.size w w' := by
 have hu61 := Try.underlying61
 have HB := am_ (Below.refl w.heap.size w)
 have H : ((stat_fresh.f 8).bind fun t144 => ((stat_field_set.f k t144 4 4 (a0.size : Int)).bind fun t148 => (some t148))) = some r := h
 clear h
 replace H := bm_ H
 obtain ⟨t144, A20, H⟩ := H
 replace H : ((stat_field_set.f k t144 4 4 (a0.size : Int)).bind fun t148 => (some t148)) = some r := H
 have A2 := am_ A20
 clear A20
 replace H := bm_ H
 obtain ⟨t148, A30, H⟩ := H
 replace H : (some t148) = some r := H
 have A3 := am_ A30
 clear A30
 obtain rfl := Option.some.inj H
 go_enter Try.func27, Try.ntmps27
 go_wp2_with (first | ((with_reducible refine gate_callee (f := 31) rfl ?_); refine goesL_ (some 4) rfl rfl Try.func31 (by kernel_rfl) rfl #[.int .i64 8] rfl (by (try simp only [List.map_toArray, List.map_cons, List.map_nil]); first | done | rfl | (simp only [List.length_drop, List.length_take]; rfl)) ?_; (with_reducible refine (stat_fresh.calls 8 t144 _ A2.out).mono ?_); rintro e w4 ⟨v145, rfl, ho0, hb⟩; refine ⟨_, rfl, ?_⟩; have n0_ := am_ (Kd.R_lower ho0 (below_size aa_0)); have n1_ := am_ (below_step aa_0 hb); clear HB; have HO146 := n0_; have HB := n1_; clear n0_ n1_; (try clear hb); (try clear hb2); (try clear hk); (try clear hi); (try clear ho0)) | ((with_reducible refine gate_dst (N := 3) rfl ?_); refine box_event ?hg (N := 3) ?hd (cs := #[.slice none 0 0]) (t := 61) ?hr ?_; (case hd => rfl); (case hg => rfl); (case hr => first | (go_simp; done) | (go_simp; rfl)); intro gb147 hg w5 hbox hb; have n0_ := am_ (Kd.R_below (by (with_reducible repeat (first | apply Kd.R_alloc | apply Kd.R_drewN | apply Kd.R_drew)); exact HO146.out) hb); have n1_ := am_ (below_step aa_0 hb); have n2_ := am_ (hbox); have n3_ := am_ ((by rw [hg]; exact (below_size aa_0) : w.heap.size ≤ gb147)); have n4_ := am_ ((by rw [hg]; exact (below_size aa_0) : w.heap.size ≤ gb147)); clear HO146; clear HB; have HO146 := n0_; have HB := n1_; have BK147 := n2_; have GW147 := n3_; have GE147 := n4_; clear n0_ n1_ n2_ n3_ n4_; clear hb hbox hg; obtain ⟨Ao6, co6, eo6⟩ := Kd.R_slice HO146.out; subst eo6; have hcz7_0 : w5.cell? ⟨gb147, 0, none⟩ = some (.slice none 0 0) := (bc BK147 0); have hfz7_0 := blk_frozen BK147.out 0) | ((with_reducible refine gate_store (t := 61) (p := 3) rfl ?_); refine store_event (t := 61) (p := 3) (v := ?vo_w8) (w1 := (w5.setCell ⟨gb147, 0, none⟩ (.slice Ao6 t144.length co6))) ?hg ?ho ?hn ?hr ?_; (case ho => rfl); (case hg => rfl); (case hn => rfl); (case hr => first | (go_simp; done) | (go_simp; rfl)); intro w8 hw; have n0_ : Aside0 (Kd.R (Kd.int .u8) 5 w8 w.heap.size (fun _ => True) (.slice Ao6 t144.length co6) t144) := ⟨(by rw [hw]; exact (by (with_reducible repeat (first | apply Kd.R_alloc | apply Kd.R_drewN | apply Kd.R_drew)); exact Kd.R_mono (Kd.R_far (p := ⟨gb147, 0, none⟩) (Kd.R_types HO146.out BK147.out (by decide)) (fun _ hk => hk.2) (.slice Ao6 t144.length co6)) (fun _ hk => trivial)))⟩; have n1_ : Aside0 (w8.heap[gb147]? = some (.cells #[.slice Ao6 t144.length co6] 61 (0, 0))) := ⟨(by rw [hw]; exact (by (with_reducible repeat (first | refine blk_drewN ?_ _ | refine blk_drew ?_ | refine blk_alloc ?_ _)); refine blk_put (cs := #[.slice none 0 0]) ?_ 0 _ rfl; (with_reducible repeat (first | refine blk_drewN ?_ _ | refine blk_drew ?_ | refine blk_alloc ?_ _)); exact BK147.out))⟩; have n2_ : Aside0 (Below w.heap.size w w8) := ⟨(by rw [hw]; exact (by repeat (first | (with_reducible first | exact HB.out | apply below_alloc | apply pw_below_drewN | apply below_drew1 | refine below_set ?_ GE147.out) | exact HB.out)))⟩; clear hw; clear HO146; clear BK147; clear HB; have HO146 := n0_; have BK147 := n1_; have HB := n2_; clear n0_ n1_ n2_; have hcz9_0 : w8.cell? ⟨gb147, 0, none⟩ = some (.slice Ao6 t144.length co6) := (bc BK147 0); have hfz9_0 := blk_frozen BK147.out 0) | ((with_reducible refine gate_callee (f := 32) rfl ?_); refine goesL_ (some 8) rfl rfl Try.func32 (by kernel_rfl) rfl #[.agg #[.slice Ao6 t144.length co6], .int .i64 4, .int .i64 4, .int .i64 (a0.size : Int)] rfl (by (try simp only [List.map_toArray, List.map_cons, List.map_nil]); first | done | rfl | (simp only [List.length_drop, List.length_take]; rfl)) ?_; (with_reducible refine (stat_field_set.calls k (fun k_ => some k_ = (.slice Ao6 t144.length co6 : Value).ownBlock) (.slice Ao6 t144.length co6) t144 4 4 (a0.size : Int) t148 w _ ?side1 ?side2 A3.out).mono ?_); (case side1 => repeat (first | (with_reducible first | exact HB.out | apply below_alloc | apply pw_below_drewN | apply below_drew1 | refine below_set ?_ GE147.out) | exact HB.out)); (case side2 => exact Kd.R_tight rfl HO146.out); rintro e w10 ⟨rfl, hy0, hb, hkp⟩; refine ⟨_, rfl, ?_⟩; (try obtain ⟨hlew10_0, hgew10_0⟩ := Go.Proofs.YthhmnecnoojcpaaO.R_lens hy0); have n0_ := am_ (Kd.R_reok rfl hy0 (fun k_ e_ => HO146.out.1 k_ e_)); have n1_ := am_ (bkept BK147 (by (with_reducible repeat (first | refine blk_drewN ?_ _ | refine blk_drew ?_ | refine blk_alloc ?_ _)); exact BK147.out) hkp (fun hs_ => (fun e_ => (Kd.R_ne HO146.out BK147.out (by decide)) e_) hs_)); have n2_ := am_ (hb); clear HO146; clear BK147; clear HB; have HO146 := n0_; have BK147 := n1_; have HB := n2_; clear n0_ n1_ n2_; (try clear hb); (try clear hkp); (try clear hy0); have hcz11_0 : w10.cell? ⟨gb147, 0, none⟩ = some (.slice Ao6 t144.length co6) := (bc BK147 0); have hfz11_0 := blk_frozen BK147.out 0))
 go_ret
 exact ⟨_, by first | rfl | (simp [errW_none, errW_some] <;> rfl) | (simp [*, errW_none, errW_some] <;> rfl), by (with_reducible repeat (first | apply Kd.R_alloc | apply Kd.R_drewN | apply Kd.R_drew)); exact HO146.out, by repeat (first | (with_reducible first | exact HB.out | apply below_alloc | apply pw_below_drewN | apply below_drew1 | refine below_set ?_ GE147.out) | exact HB.out)⟩
/-! ### gangwaylaw20_wakes: function 14 -/
def gangwaylaw20_wakes.f (k : Nat)  : Option (Bool) := (stat_Prestat.f k (⟨#[97, 98]⟩ : ByteArray)).bind fun t149 => ((gangwayref0_EqBytes.f k t149 (([0, 0, 0, 0, 2, 0, 0, 0] : List Int))).bind fun t155 => (some t155))
theorem gangwaylaw20_wakes.mono : ∀ k, LeO (gangwaylaw20_wakes.f k ) (gangwaylaw20_wakes.f (k + 1) ) := by
  intro  k
  unfold gangwaylaw20_wakes.f
  repeat' first
      | (with_reducible exact gangwayref0_EqBytes.mono _ _ _)
      | (with_reducible exact stat_Prestat.mono _ _)
      | (with_reducible exact LeO.refl _)
      | (with_reducible exact LeO.none _)
      | (with_reducible refine LeO.ite ?_ ?_)
      | (with_reducible refine LeO.bind ?_ (fun _ => ?_))
      | exact gangwayref0_EqBytes.mono _ _ _
      | exact stat_Prestat.mono _ _
      | exact LeO.none _
      | refine LeO.ite ?_ ?_
      | refine LeO.bind ?_ (fun _ => ?_)
set_option maxHeartbeats 8000000 in
set_option maxRecDepth 100000 in
theorem gangwaylaw20_wakes.calls (k : Nat)  (r : Bool) (w : World) (h : gangwaylaw20_wakes.f k  = some r) :
    Calls Try.prog 14 #[] w fun e w' => e = .returned (.bool r) ∧ Below w.heap.size w w' := by
  have HB := Aside0.mk (Below.refl w.heap.size w)
  have H : ((stat_Prestat.f k (⟨#[97, 98]⟩ : ByteArray)).bind fun t149 => ((gangwayref0_EqBytes.f k t149 (([0, 0, 0, 0, 2, 0, 0, 0] : List Int))).bind fun t155 => (some t155))) = some r := h
  clear h
  replace H := Option.bind_eq_some_iff.mp H
  obtain ⟨t149, A10, H⟩ := H
  replace H : ((gangwayref0_EqBytes.f k t149 (([0, 0, 0, 0, 2, 0, 0, 0] : List Int))).bind fun t155 => (some t155)) = some r := H
  have A1 := Aside0.mk A10
  clear A10
  obtain ⟨y152, hy152⟩ : ∃ y_ : List Int, y_ = (([0, 0, 0, 0, 2, 0, 0, 0] : List Int)) := ⟨_, rfl⟩
  replace H : ((gangwayref0_EqBytes.f k t149 y152).bind fun t155 => (some t155)) = some r := by first | (rw [hy152]; with_reducible exact H) | (have H2_ := (Option.bind_some _ _).symm.trans H; rw [hy152]; with_reducible exact H2_) | (have H2_ := (Option.bind_some _ _).symm.trans H; with_reducible exact H2_) | with_reducible exact H | (rw [hy152]; exact H) | exact H
  have Ny152 := Aside0.mk hy152
  clear hy152
  replace H := Option.bind_eq_some_iff.mp H
  obtain ⟨t155, A20, H⟩ := H
  replace H : (some t155) = some r := H
  have A2 := Aside0.mk A20
  clear A20
  obtain rfl := Option.some.inj H
  go_enter Try.func14, Try.ntmps14
  go_wp2_with (first | ((with_reducible refine gate_callee (f := 27) rfl ?_); refine goesL_ (some 1) rfl rfl Try.func27 (by kernel_rfl) rfl #[.string (⟨#[97, 98]⟩ : ByteArray)] rfl (by (try simp only [List.map_toArray, List.map_cons, List.map_nil]); first | done | rfl | (simp only [List.length_drop, List.length_take]; rfl)) ?_; (with_reducible refine (stat_Prestat.calls k (⟨#[97, 98]⟩ : ByteArray) t149 _ A1.out).mono ?_); rintro e w3 ⟨v150, rfl, ho0, hb⟩; refine ⟨_, rfl, ?_⟩; have n0_ := Aside0.mk (Kd.R_lower ho0 (below_size (by repeat (first | (with_reducible first | exact HB.out | apply below_alloc | apply pw_below_drewN | apply below_drew1) | exact HB.out)))); have n1_ := Aside0.mk (below_step (by repeat (first | (with_reducible first | exact HB.out | apply below_alloc | apply pw_below_drewN | apply below_drew1) | exact HB.out)) hb); clear HB; have HO151 := n0_; have HB := n1_; clear n0_ n1_; (try clear hb); (try clear hb2); (try clear hk); (try clear hi); (try clear ho0)) | ((with_reducible refine gate_dst (N := 2) rfl ?_); refine Kd.R_lit (Kd.int .u8) _ 5 ?hg (N := 2) ?hd (xs := ([0, 0, 0, 0, 2, 0, 0, 0] : List Int)) (inner := [.int .u8 0, .int .u8 0, .int .u8 0, .int .u8 0, .int .u8 2, .int .u8 0, .int .u8 0, .int .u8 0]) (ok := fun _ => True) (okp := fun _ => True) ?hr ?hp (fun _ hk => hk) trivial (Below.refl _ _) (Nat.le_refl _) (by simp) ?_; (case hd => rfl); (case hg => rfl); (case hr => first | (go_simp; done) | (go_simp; rfl)); (case hp => exact (Reps.one (show Kd.M (Kd.int .u8) _ _ _ 0 [.int .u8 0] from rfl) (Reps.one (show Kd.M (Kd.int .u8) _ _ _ 0 [.int .u8 0] from rfl) (Reps.one (show Kd.M (Kd.int .u8) _ _ _ 0 [.int .u8 0] from rfl) (Reps.one (show Kd.M (Kd.int .u8) _ _ _ 0 [.int .u8 0] from rfl) (Reps.one (show Kd.M (Kd.int .u8) _ _ _ 2 [.int .u8 2] from rfl) (Reps.one (show Kd.M (Kd.int .u8) _ _ _ 0 [.int .u8 0] from rfl) (Reps.one (show Kd.M (Kd.int .u8) _ _ _ 0 [.int .u8 0] from rfl) (Reps.one (show Kd.M (Kd.int .u8) _ _ _ 0 [.int .u8 0] from rfl) (Reps.none _ _)))))))))); intro v153 w4 ho5 hb hg_ hnew_; clear hg_ hnew_; (first | rw [← Ny152.out] at ho5 | (simp only [Int.reduceToNat] at ho5; rw [← Ny152.out] at ho5)); have n0_ := Aside0.mk (Kd.R_elder' (by (with_reducible repeat (first | apply Kd.R_alloc | apply Kd.R_drewN | apply Kd.R_drew)); exact HO151.out) (Kd.R_base ho5) hb); have n1_ := Aside0.mk (Kd.R_lower (Kd.R_new' ho5 (Kd.R_lt (by (with_reducible repeat (first | apply Kd.R_alloc | apply Kd.R_drewN | apply Kd.R_drew)); exact HO151.out))) (below_size (by repeat (first | (with_reducible first | exact HB.out | apply below_alloc | apply pw_below_drewN | apply below_drew1) | exact HB.out)))); have n2_ := Aside0.mk (below_step (by repeat (first | (with_reducible first | exact HB.out | apply below_alloc | apply pw_below_drewN | apply below_drew1) | exact HB.out)) hb); clear HO151; clear HB; have HO151 := n0_; have HO154 := n1_; have HB := n2_; clear n0_ n1_ n2_; clear hb ho5; obtain ⟨Ao6, co6, eo6⟩ := Kd.R_slice HO151.out; subst eo6; obtain ⟨Ao7, co7, eo7⟩ := Kd.R_slice HO154.out; subst eo7) | ((with_reducible refine gate_callee (f := 26) rfl ?_); refine goesL_ (some 3) rfl rfl Try.func26 (by kernel_rfl) rfl #[.slice Ao6 t149.length co6, .slice Ao7 y152.length co7] rfl (by (try simp only [List.map_toArray, List.map_cons, List.map_nil]); first | done | rfl | (simp only [List.length_drop, List.length_take]; rfl)) ?_; (with_reducible refine (gangwayref0_EqBytes.calls k _ _ t149 _ _ y152 t155 _ ?side1 ?side2 ?side3 ?side4 A2.out).mono ?_); (case side1 => repeat (first | exact (Kd.R_reads' HO151.out).2.2 | (with_reducible refine Kd.C_alloc ?_ _) | (with_reducible refine Kd.C_drewN ?_ _) | (with_reducible refine Kd.C_drew ?_))); (case side2 => exact (Kd.R_reads' HO151.out).2.1); (case side3 => repeat (first | exact (Kd.R_reads' HO154.out).2.2 | (with_reducible refine Kd.C_alloc ?_ _) | (with_reducible refine Kd.C_drewN ?_ _) | (with_reducible refine Kd.C_drew ?_))); (case side4 => exact (Kd.R_reads' HO154.out).2.1); rintro e w' ⟨rfl, ⟨nd, rfl⟩⟩; refine ⟨_, rfl, ?_⟩))
  go_ret
  exact ⟨by first | rfl | (simp [errW_none, errW_some] <;> rfl) | (simp [*, errW_none, errW_some] <;> rfl), by repeat (first | (with_reducible first | exact HB.out | apply below_alloc | apply pw_below_drewN | apply below_drew1) | exact HB.out)⟩

end Go.Proofs.Ythhmnecnoojcpaa.PAll
