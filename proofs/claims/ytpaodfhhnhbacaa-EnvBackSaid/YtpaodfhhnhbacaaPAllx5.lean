/- Printed by a copy of the printer that was turned for this claim: functions as plain Lean functions, with proofs that their calls come to these; or words that such proofs use. -/
import Derived.Test.YtpaodfhhnhbacaaPAllx0
import Derived.Test.YtpaodfhhnhbacaaPAllx3
namespace Go.Proofs.Ytpaodfhhnhbacaa.PAll
open Go.RowKit Go.Proofs.YtpaodfhhnhbacaaW.PrintWords Go.Proofs.YtpaodfhhnhbacaaW.PrintLast Go.Proofs.YtpaodfhhnhbacaaW.PrintMore
attribute [local go_sem] max2_int min2_int max_two min_two max_three min_three max_four min_four   -- for this text's walks alone
set_option linter.unusedVariables false
set_option linter.unusedSimpArgs false

/-! ### gangwayref20_Little: function 29 -/
def gangwayref20_Little.l0 : Nat → Int → Int → List Int → Int → Option (List Int)
  | 0, _, _, _, _ => none
  | k + 1, x0, x1, x5, x6 => if x6 < x1 then (if 0 ≤ (wrap64 (8 * x6)) then (if x5.length < 140737488355328 then (gangwayref20_Little.l0 k x0 x1 (x5 ++ [(shr .u64 x0 (wrap64 (8 * x6))) % 256]) (wrap64 (x6 + 1))) else (none)) else (none)) else (some x5)
def gangwayref20_Little.f (k : Nat) (a0 : Int) (a1 : Int) : Option (List Int) := gangwayref20_Little.l0 k a0 a1 ([] : List Int) 0
theorem gangwayref20_Little.mono_l : ∀ k, (∀ y0 y1 y2 y3, LeO (gangwayref20_Little.l0 k y0 y1 y2 y3) (gangwayref20_Little.l0 (k + 1) y0 y1 y2 y3))
  | 0 => fun _ _ _ _ r h => by simp [gangwayref20_Little.l0] at h
  | k + 1 => by
    have ih0 := gangwayref20_Little.mono_l k
    · intro y0 y1 y2 y3
      unfold gangwayref20_Little.l0
      repeat' first
      | (with_reducible exact ih0 _ _ _ _)
      | (with_reducible exact LeO.refl _)
      | (with_reducible exact LeO.none _)
      | (with_reducible refine LeO.ite ?_ ?_)
      | (with_reducible refine LeO.bind ?_ (fun _ => ?_))
      | exact ih0 _ _ _ _
      | exact LeO.none _
      | refine LeO.ite ?_ ?_
      | refine LeO.bind ?_ (fun _ => ?_)
theorem gangwayref20_Little.mono : ∀ a0 a1 k, LeO (gangwayref20_Little.f k a0 a1) (gangwayref20_Little.f (k + 1) a0 a1) := by
  intro a0 a1 k
  have ih0 := gangwayref20_Little.mono_l k
  unfold gangwayref20_Little.f
  repeat' first
      | (with_reducible exact ih0 _ _ _ _)
      | (with_reducible exact LeO.refl _)
      | (with_reducible exact LeO.none _)
      | (with_reducible refine LeO.ite ?_ ?_)
      | (with_reducible refine LeO.bind ?_ (fun _ => ?_))
      | exact ih0 _ _ _ _
      | exact LeO.none _
      | refine LeO.ite ?_ ?_
      | refine LeO.bind ?_ (fun _ => ?_)
set_option maxHeartbeats 8000000 in
set_option maxRecDepth 100000 in
theorem gangwayref20_Little.calls (k : Nat) (a0 : Int) (a1 : Int) (r : List Int) (w : World) (h : gangwayref20_Little.f k a0 a1 = some r) :
    Calls Try.prog 29 #[.int .u64 a0, .int .i64 a1] w fun e w' => ∃ v0_ : Value, e = .returned (v0_) ∧ Kd.R (Kd.int .u8) 5 w' w.heap.size (fun _ => True) v0_ r ∧ Below w.heap.size w w' := by
  have HB := Aside0.mk (Below.refl w.heap.size w)
  have H : (gangwayref20_Little.l0 k a0 a1 ([] : List Int) 0) = some r := h
  clear h
  have H' := Aside0.mk H
  clear H
  go_enter Try.func29, Try.ntmps29
  go_wp2
  go_loopg [5, 6] k (fun kq v5 v6 w' => ∃ (x5_1 : List Int) (x6_1 : Int), v6 = .int .i64 x6_1 ∧ Aside0 (gangwayref20_Little.l0 kq a0 a1 x5_1 x6_1 = some r) ∧ Aside0 (kq ≤ k) ∧ Aside0 (Kd.R (Kd.int .u8) 5 w' w.heap.size (fun _ => True) v5 x5_1) ∧ Aside0 (Below w.heap.size w w'))
  case atStart => exact ⟨(([] : List Int)), (0), (by first | rfl | (simp; done) | (simp [*]; done)), H', ⟨Nat.le_refl _⟩, ⟨by first | exact Kd.R_nil _ _ _ _ _ | exact Kd.N_nil _ _ _ _ _ | exact Kd.V_nil _ _ _ _ _ | exact Kd.Q_nil _ _ _ _ _ | exact Kd.S_nil _ _ _ _ _⟩, ⟨by repeat (first | (with_reducible first | exact HB.out | apply below_alloc | apply pw_below_drewN | apply below_drew1) | exact HB.out)⟩⟩
  case round =>
    clear H'
    try clear c2
    try clear p2
    obtain ⟨x5_1, x6_1, rfl, HA, HK1, HO_5, HB⟩ := hrel
    cases gk with
    | zero => exact absurd HA.out (by simp [gangwayref20_Little.l0])
    | succ k1 =>
      have H := HA.out
      clear HA
      simp only [gangwayref20_Little.l0] at H
      by_cases c3 : x6_1 < a1
      · rw [if_pos c3] at H
        have c3b0 : decide (x6_1 < a1) = true := decide_eq_true c3
        clear c3
        obtain ⟨ji4, hji4⟩ : ∃ j_ : Int, (wrap64 (8 * x6_1)) = j_ := ⟨_, rfl⟩
        replace H : (if 0 ≤ (ji4) then (if x5_1.length < 140737488355328 then (gangwayref20_Little.l0 k1 a0 a1 (x5_1 ++ [(shr .u64 a0 (ji4)) % 256]) (wrap64 (x6_1 + 1))) else (none)) else (none)) = some r := by first | (rw [hji4] at H; exact H) | (simp only [hji4] at H ⊢; exact H)
        have hji4w : (IntKind.i64.wrap (8 * x6_1)) = ji4 := (i64_w _).trans hji4
        by_cases c5 : 0 ≤ (ji4)
        · rw [if_pos c5] at H
          have c5b0 := eq_true c5
          have c5b1 : decide (0 ≤ (ji4)) = true := decide_eq_true c5
          clear c5
          obtain ⟨ji6, hji6⟩ : ∃ j_ : Int, (shr .u64 a0 (ji4)) = j_ := ⟨_, rfl⟩
          replace H : (if x5_1.length < 140737488355328 then (gangwayref20_Little.l0 k1 a0 a1 (x5_1 ++ [(ji6) % 256]) (wrap64 (x6_1 + 1))) else (none)) = some r := by first | (rw [hji6] at H; exact H) | (simp only [hji6] at H ⊢; exact H)
          have hji6_ : (a0 / 2 ^ min (ji4).toNat 64) = ji6 := hji6
          have hji6z : (ji4) ≤ 64 → (a0 / 2 ^ (ji4).toNat) = ji6 := shr_small hji6
          by_cases c7 : x5_1.length < 140737488355328
          · rw [if_pos c7] at H
            have LMc7 := Aside0.mk c7
            clear c7
            obtain ⟨y224, hy224⟩ : ∃ y_ : List Int, y_ = (x5_1 ++ [(ji6) % 256]) := ⟨_, rfl⟩
            replace H : (gangwayref20_Little.l0 k1 a0 a1 y224 (wrap64 (x6_1 + 1))) = some r := by first | (rw [hy224]; with_reducible exact H) | (have H2_ := (Option.bind_some _ _).symm.trans H; rw [hy224]; with_reducible exact H2_) | (have H2_ := (Option.bind_some _ _).symm.trans H; with_reducible exact H2_) | with_reducible exact H | (rw [hy224]; exact H) | exact H
            have Ny224 := Aside0.mk hy224
            clear hy224
            have H' := Aside0.mk H
            clear H
            go_wp2_with (first | ((with_reducible refine gate_builtin (b := .append) (xs := #[.tmp 12, .tmp 18]) rfl ?_); at_builtin; refine Kd.R_append (Kd.int .u8) (w0 := w) w.heap.size rfl (.tmp 12) (.tmp 18) 32 5 (.int .u8 0) 1 rfl Try.underlying32 info5 rfl (by decide) (by omega) u5 x5_1 ((ji6) % 256) [.int .u8 ((ji6) % 256)] (fun _ => True) (fun _ => False) rfl rfl ?aP (fun _ hk => hk.elim) ?aF ?aO ?aB ?aS ?aL ?_; (case aP => exact rfl); (case aB => exact (by repeat (first | (with_reducible first | exact HB.out | apply below_alloc | apply pw_below_drewN | apply below_drew1) | exact HB.out))); (case aF => exact (fun _ _ => trivial)); (case aO => exact (by (with_reducible repeat (first | apply Kd.R_alloc | apply Kd.R_drewN | apply Kd.R_drew)); exact HO_5.out)); (case aS => exact (below_size (by repeat (first | (with_reducible first | exact HB.out | apply below_alloc | apply pw_below_drewN | apply below_drew1) | exact HB.out)))); (case aL => have := LMc7.out; omega); intro v225 w8 ho hb hg hat; rw [← Ny224.out] at ho; have n0_ := Aside0.mk (hb); have n1_ := Aside0.mk (ho); clear HB; clear HO_5; have HB := n0_; have HO226 := n1_; clear n0_ n1_; clear ho hb hg hat))
            go_roundg k1
            case measure => have := HK1.out; omega
            case rel => exact ⟨(y224), (wrap64 (x6_1 + 1)), (by first | rfl | (simp; done) | (simp [*]; done)), H', ⟨by have := HK1.out; omega⟩, ⟨by (with_reducible repeat (first | apply Kd.R_alloc | apply Kd.R_drewN | apply Kd.R_drew)); exact HO226.out⟩, ⟨by repeat (first | (with_reducible first | exact HB.out | apply below_alloc | apply pw_below_drewN | apply below_drew1) | exact HB.out)⟩⟩
          · rw [if_neg c7] at H
            exact absurd H (by simp)
        · rw [if_neg c5] at H
          exact absurd H (by simp)
      · rw [if_neg c3] at H
        have c3b0 : decide (x6_1 < a1) = false := decide_eq_false c3
        clear c3
        obtain rfl := Option.some.inj H
        go_wp2
        go_ret
        exact ⟨_, by first | rfl | (simp [errW_none, errW_some] <;> rfl) | (simp [*, errW_none, errW_some] <;> rfl), by (with_reducible repeat (first | apply Kd.R_alloc | apply Kd.R_drewN | apply Kd.R_drew)); exact HO_5.out, by repeat (first | (with_reducible first | exact HB.out | apply below_alloc | apply pw_below_drewN | apply below_drew1) | exact HB.out)⟩

-- NOT PRINTED: function 16 (gangwayref20_Lay)

/-! ### mem_Memory_Has: function 30 -/
def mem_Memory_Has.f (l0_0 : List Int) (s0_1 : Int) (a1 : Int) (a2 : Int) : Option (Bool × List Int × Int) := (mem_Memory_there.f l0_0 s0_1 a1 a2).bind fun bt247 => (some (bt247.1, bt247.2.1, bt247.2.2))
set_option maxHeartbeats 8000000 in
set_option maxRecDepth 100000 in
theorem mem_Memory_Has.calls (g : Nat) (P0_0_ : Nat → Prop) (u9000_ : Value) (l0_0 : List Int) (s0_1 : Int) (a1 : Int) (a2 : Int) (r1 : Bool) (r2 : List Int) (r3 : Int) (w0 w : World) (hI : IsS72 w0 w g u9000_ s0_1) (hB : Below w0.heap.size w0 w) (ho0_0 : Kd.R (Kd.int .u8) 5 w w0.heap.size P0_0_ u9000_ l0_0) (h : mem_Memory_Has.f l0_0 s0_1 a1 a2 = some (r1, r2, r3)) :
    Calls Try.prog 30 #[.pointer (some ⟨g, 0, none⟩), .int .i64 a1, .int .i64 a2] w fun e w' => ∃ v1_ : Value, e = .returned (.bool r1) ∧ Kd.R (Kd.int .u8) 5 w' w0.heap.size (fun k_ => (P0_0_ k_ ∨ w.heap.size ≤ k_)) v1_ r2 ∧ IsS72 w0 w' g v1_ r3 ∧ Below w0.heap.size w0 w' ∧ Kept w w' (fun k_ => (P0_0_ k_) ∨ k_ = g) := by
  have HO0_0 := Aside0.mk (show Kd.R (Kd.int .u8) 5 w w0.heap.size (fun k_ => (P0_0_ k_ ∨ w.heap.size ≤ k_)) u9000_ l0_0 from Kd.R_mono ho0_0 (fun k_ hk => (.inl hk)))
  have HI0 := Aside0.mk hI
  have HL := Aside0.mk hB.size
  clear hI
  have HK := Aside0.mk (Kept.refl w (fun k_ => (P0_0_ k_) ∨ k_ = g))
  have HW0 := Aside0.mk hB.size
  have HB := Aside0.mk hB
  clear hB
  have H : ((mem_Memory_there.f l0_0 s0_1 a1 a2).bind fun bt247 => (some (bt247.1, bt247.2.1, bt247.2.2))) = some (r1, r2, r3) := h
  clear h
  replace H := Option.bind_eq_some_iff.mp H
  obtain ⟨⟨t247, t248, t251⟩, A40, H⟩ := H
  replace H : (some (t247, t248, t251)) = some (r1, r2, r3) := H
  have A4 := Aside0.mk A40
  clear A40
  simp only [Option.some.injEq, Prod.mk.injEq] at H
  obtain ⟨rfl, rfl, rfl⟩ := H
  go_enter Try.func30, Try.ntmps30
  go_wp2_with (first | ((with_reducible refine gate_callee (f := 35) rfl ?_); refine goesL_ (some 10) rfl rfl Try.func35 (by kernel_rfl) rfl #[.pointer (some ⟨g, 0, none⟩), .int .i64 a1, .int .i64 a2] rfl (by (try simp only [List.map_toArray, List.map_cons, List.map_nil]); first | done | rfl | (simp only [List.length_drop, List.length_take]; rfl)) ?_; (with_reducible refine (mem_Memory_there.calls g (fun k_ => some k_ = (u9000_ : Value).ownBlock) u9000_ l0_0 s0_1 a1 a2 t247 t248 t251 w0 _ ?side1 ?side2 ?side3 A4.out).mono ?_); (case side1 => repeat (first | (with_reducible first | exact HI0.out | apply IsS72.alloc | apply IsS72.drewN | apply IsS72.drew | apply IsS72.set_0 | apply IsS72.set_1) | exact HI0.out)); (case side2 => repeat (first | (with_reducible first | exact HB.out | apply below_alloc | apply pw_below_drewN | apply below_drew1 | refine below_set ?_ (IsS72.ge HI0.out)) | exact HB.out)); (case side3 => exact Kd.R_tight rfl HO0_0.out); rintro e w5 ⟨v249, rfl, ho0, hi, hb, hkp⟩; refine ⟨_, rfl, ?_⟩; have n0_ := Aside0.mk (hi); have n1_ := Aside0.mk (Kd.R_mono (ok' := fun k_ => (P0_0_ k_ ∨ w.heap.size ≤ k_)) ho0 (fun k_ hk_ => Or.elim hk_ (fun hs_ => (HO0_0.out.1 k_ (hs_).symm)) (fun hn_ => (.inr (Nat.le_trans (by first | exact HK.out.1 | exact (show Kept w _ (fun k_ => (P0_0_ k_) ∨ k_ = g) from by repeat (first | (with_reducible first | exact HK.out | apply Kept.alloc | apply Kept.drewN | apply Kept.drew | refine Kept.setCell ?_ (.inl (.inr rfl)) _) | exact HK.out)).1) hn_))))); have n2_ := Aside0.mk (Kept.then_ (S := (fun k_ => (P0_0_ k_) ∨ k_ = g)) (by repeat (first | (with_reducible first | exact HK.out | apply Kept.alloc | apply Kept.drewN | apply Kept.drew | refine Kept.setCell ?_ (.inl (.inr rfl)) _) | exact HK.out)) hkp (fun k_ hs_ => Or.elim hs_ (fun hs_ => (fun e_ => Or.imp_left Or.inl ((HO0_0.out.1 k_ e_.symm))) hs_) (fun e_ => .inl (.inr e_)))); have n3_ := Aside0.mk (hb); clear HI0; clear HK; clear HB; clear HO0_0; have HI0 := n0_; have HO250 := n1_; have HK := n2_; have HB := n3_; clear n0_ n1_ n2_ n3_; (try clear hb); (try clear hkp); (try clear ho0)))
  go_ret
  exact ⟨_, by first | rfl | (simp [errW_none, errW_some] <;> rfl) | (simp [*, errW_none, errW_some] <;> rfl), by (with_reducible repeat (first | apply Kd.R_alloc | apply Kd.R_drewN | apply Kd.R_drew)); exact HO250.out, by repeat (first | (with_reducible first | exact HI0.out | apply IsS72.alloc | apply IsS72.drewN | apply IsS72.drew | apply IsS72.set_0 | apply IsS72.set_1) | exact HI0.out), by repeat (first | (with_reducible first | exact HB.out | apply below_alloc | apply pw_below_drewN | apply below_drew1 | refine below_set ?_ (IsS72.ge HI0.out)) | exact HB.out), by repeat (first | (with_reducible first | exact HK.out | apply Kept.alloc | apply Kept.drewN | apply Kept.drew | refine Kept.setCell ?_ (.inl (.inr rfl)) _) | exact HK.out)⟩

/-! ### mem_address: function 39 -/
def mem_address.f (a0 : Int) : Option (Bool) := if a0 ≥ 0 then (some (decide (a0 < 4294967296))) else (some false)
set_option maxHeartbeats 8000000 in
set_option maxRecDepth 100000 in
theorem mem_address.calls (a0 : Int) (r : Bool) (w : World) (h : mem_address.f a0 = some r) :
    Calls Try.prog 39 #[.int .i64 a0] w fun e w' => e = .returned (.bool r) ∧ Drawn0 w w' := by
  have H : (if a0 ≥ 0 then (some (decide (a0 < 4294967296))) else (some false)) = some r := h
  clear h
  by_cases c2 : a0 ≥ 0
  · rw [if_pos c2] at H
    have c2b0 : decide (0 ≤ a0) = true := decide_eq_true c2
    clear c2
    obtain rfl := Option.some.inj H
    go_enter Try.func39, Try.ntmps39
    go_wp2
    go_ret
    exact ⟨by first | rfl | (simp; done) | (simp [*]; done), by repeat (first | exact Drawn0.refl _ | apply Drawn0.step)⟩
  · rw [if_neg c2] at H
    have c2b0 : decide (0 ≤ a0) = false := decide_eq_false c2
    clear c2
    obtain rfl := Option.some.inj H
    go_enter Try.func39, Try.ntmps39
    go_wp2
    go_ret
    exact ⟨by first | rfl | (simp; done) | (simp [*]; done), by repeat (first | exact Drawn0.refl _ | apply Drawn0.step)⟩

-- NOT PRINTED: function 33 (mem_Memory_word)

-- NOT PRINTED: function 38 (mem_word_set)

/-! ### mem_word_get: function 34 -/
def mem_word_get.l0 : Nat → Int → List Int → Int → Int → Option (Int)
  | 0, _, _, _, _ => none
  | k + 1, x2, x5, x6, x7 => if x7 < x6 then (if 0 ≤ x7 then (if x7 < (x5.length : Int) then (if 0 ≤ (wrap64 (8 * x7)) then (mem_word_get.l0 k (Go.bits .or .u64 x2 (shl .u64 (IntKind.u64.wrap (rd x5 x7)) (wrap64 (8 * x7)))) x5 x6 (wrap64 (x7 + 1))) else (none)) else (none)) else (none)) else (some x2)
def mem_word_get.f (k : Nat) (l0 : List Int) : Option (Int) := mem_word_get.l0 k 0 l0 (l0.length : Int) 0
theorem mem_word_get.mono_l : ∀ k, (∀ y0 y1 y2 y3, LeO (mem_word_get.l0 k y0 y1 y2 y3) (mem_word_get.l0 (k + 1) y0 y1 y2 y3))
  | 0 => fun _ _ _ _ r h => by simp [mem_word_get.l0] at h
  | k + 1 => by
    have ih0 := mem_word_get.mono_l k
    · intro y0 y1 y2 y3
      unfold mem_word_get.l0
      repeat' first
      | (with_reducible exact ih0 _ _ _ _)
      | (with_reducible exact LeO.refl _)
      | (with_reducible exact LeO.none _)
      | (with_reducible refine LeO.ite ?_ ?_)
      | (with_reducible refine LeO.bind ?_ (fun _ => ?_))
      | exact ih0 _ _ _ _
      | exact LeO.none _
      | refine LeO.ite ?_ ?_
      | refine LeO.bind ?_ (fun _ => ?_)
theorem mem_word_get.mono : ∀ a0 k, LeO (mem_word_get.f k a0) (mem_word_get.f (k + 1) a0) := by
  intro a0 k
  have ih0 := mem_word_get.mono_l k
  unfold mem_word_get.f
  repeat' first
      | (with_reducible exact ih0 _ _ _ _)
      | (with_reducible exact LeO.refl _)
      | (with_reducible exact LeO.none _)
      | (with_reducible refine LeO.ite ?_ ?_)
      | (with_reducible refine LeO.bind ?_ (fun _ => ?_))
      | exact ih0 _ _ _ _
      | exact LeO.none _
      | refine LeO.ite ?_ ?_
      | refine LeO.bind ?_ (fun _ => ?_)
set_option maxHeartbeats 8000000 in
set_option maxRecDepth 100000 in
theorem mem_word_get.calls (k : Nat) (A0 : Option Addr) (c0 : Nat) (l0 : List Int) (r : Int) (w : World) (hr0 : Kd.C (Kd.int .u8) w A0 l0.length l0) (hc0 : l0.length ≤ c0) (h : mem_word_get.f k l0 = some r) :
    Calls Try.prog 34 #[.slice A0 l0.length c0] w fun e w' => e = .returned (.int .u64 r) ∧ Drawn0 w w' := by
  have HR0 := Aside0.mk hr0
  have HC0 := Aside0.mk hc0
  clear hr0 hc0
  have H : (mem_word_get.l0 k 0 l0 (l0.length : Int) 0) = some r := h
  clear h
  have H' := Aside0.mk H
  clear H
  go_enter Try.func34, Try.ntmps34
  go_wp2
  go_loopg [2, 7] k (fun kq v2 v7 w' => ∃ (x2_1 : Int) (x7_1 : Int), v2 = .int .u64 x2_1 ∧ v7 = .int .i64 x7_1 ∧ Aside0 (mem_word_get.l0 kq x2_1 l0 (l0.length : Int) x7_1 = some r) ∧ Aside0 (kq ≤ k) ∧ Drawn0 w w')
  case atStart => exact ⟨(0), (0), (by first | rfl | (simp; done) | (simp [*]; done)), (by first | rfl | (simp; done) | (simp [*]; done)), H', ⟨Nat.le_refl _⟩, by repeat (first | exact Drawn0.refl _ | apply Drawn0.step)⟩
  case round =>
    clear H'
    obtain ⟨x2_1, x7_1, rfl, rfl, HA, HK1, ⟨m1, rfl⟩⟩ := hrel
    cases gk with
    | zero => exact absurd HA.out (by simp [mem_word_get.l0])
    | succ k1 =>
      have H := HA.out
      clear HA
      simp only [mem_word_get.l0] at H
      by_cases c2 : x7_1 < (l0.length : Int)
      · rw [if_pos c2] at H
        have c2b0 : decide (x7_1 < (l0.length : Int)) = true := decide_eq_true c2
        clear c2
        by_cases c3 : 0 ≤ x7_1
        · rw [if_pos c3] at H
          have c3b0 : decide (0 ≤ x7_1) = true := decide_eq_true c3
          clear c3
          by_cases c4 : x7_1 < (l0.length : Int)
          · rw [if_pos c4] at H
            have c4b0 : decide (x7_1 < (l0.length : Int)) = true := decide_eq_true c4
            clear c4
            obtain ⟨ji5, hji5⟩ : ∃ j_ : Int, (wrap64 (8 * x7_1)) = j_ := ⟨_, rfl⟩
            replace H : (if 0 ≤ (ji5) then (mem_word_get.l0 k1 (Go.bits .or .u64 x2_1 (shl .u64 (IntKind.u64.wrap (rd l0 x7_1)) (ji5))) l0 (l0.length : Int) (wrap64 (x7_1 + 1))) else (none)) = some r := by first | (rw [hji5] at H; exact H) | (simp only [hji5] at H ⊢; exact H)
            have hji5w : (IntKind.i64.wrap (8 * x7_1)) = ji5 := (i64_w _).trans hji5
            by_cases c6 : 0 ≤ (ji5)
            · rw [if_pos c6] at H
              have c6b0 := eq_true c6
              have c6b1 : decide (0 ≤ (ji5)) = true := decide_eq_true c6
              clear c6
              obtain ⟨ji7, hji7⟩ : ∃ j_ : Int, (shl .u64 (IntKind.u64.wrap (rd l0 x7_1)) (ji5)) = j_ := ⟨_, rfl⟩
              replace H : (mem_word_get.l0 k1 (Go.bits .or .u64 x2_1 (ji7)) l0 (l0.length : Int) (wrap64 (x7_1 + 1))) = some r := by first | (rw [hji7] at H; exact H) | (simp only [hji7] at H ⊢; exact H)
              have hji7_ : (IntKind.u64.wrap ((IntKind.u64.wrap (rd l0 x7_1)) * 2 ^ min (ji5).toNat 64)) = ji7 := hji7
              have hji7z : (ji5) ≤ 64 → (IntKind.u64.wrap ((IntKind.u64.wrap (rd l0 x7_1)) * 2 ^ (ji5).toNat)) = ji7 := shl_small hji7
              have H' := Aside0.mk H
              clear H
              have p252 : 0 ≤ (x7_1 : Int) := of_decide_eq_true (by first | (with_reducible assumption) | assumption)
              have q252 : x7_1 < (l0.length : Int) := of_decide_eq_true (by first | (with_reducible assumption) | assumption)
              obtain ⟨ad252, e252, hx252_0⟩ := Kd.at_int HR0.out x7_1 p252 q252
              cases e252
              replace p252 := eq_true p252
              replace q252 := eq_true q252
              go_wp2
              go_roundg k1
              case measure => have := HK1.out; omega
              case rel => exact ⟨(Go.bits .or .u64 x2_1 (ji7)), (wrap64 (x7_1 + 1)), (by first | rfl | (simp; done) | (simp only [← hji7] <;> (first | rfl | simp)) | (simp [*]; done)), (by first | rfl | (simp; done) | (simp [*]; done)), H', ⟨by have := HK1.out; omega⟩, by repeat (first | exact Drawn0.refl _ | apply Drawn0.step)⟩
            · rw [if_neg c6] at H
              exact absurd H (by simp)
          · rw [if_neg c4] at H
            exact absurd H (by simp)
        · rw [if_neg c3] at H
          exact absurd H (by simp)
      · rw [if_neg c2] at H
        have c2b0 : decide (x7_1 < (l0.length : Int)) = false := decide_eq_false c2
        clear c2
        obtain rfl := Option.some.inj H
        go_wp2
        go_ret
        exact ⟨by first | rfl | (simp; done) | (simp [*]; done), by repeat (first | exact Drawn0.refl _ | apply Drawn0.step)⟩


/-! ### mem_Memory_Load: function 20 (by hand) -/
/-- Is it a place and a width that may be? -/
def mem_Memory_Load.form (a1 a2 a3 : Int) : Prop := (a3 = 1 ∨ a3 = 2 ∨ a3 = 4 ∨ a3 = 8) ∧ (0 ≤ a1 ∧ a1 < 4294967296) ∧ (0 ≤ a2 ∧ a2 < 4294967296)
instance (a1 a2 a3 : Int) : Decidable (mem_Memory_Load.form a1 a2 a3) := by unfold mem_Memory_Load.form; infer_instance
def mem_Memory_Load.sub (l : List Int) (a1 a2 a3 : Int) : List Int := (l.take (a1 + a2 + a3).toNat).drop (a1 + a2).toNat
def mem_Memory_Load.f (k : Nat) (l0_0 : List Int) (s0_1 : Int) (a1 a2 a3 : Int) : Option (Int × Int × List Int × Int) :=
  if mem_Memory_Load.form a1 a2 a3 then
    if a1 + a2 + a3 ≤ (l0_0.length : Int) then (mem_word_get.f k (mem_Memory_Load.sub l0_0 a1 a2 a3)).bind fun v => some (v, 0, l0_0, s0_1)
    else (mem_word_get.f k []).bind fun v => some (v, 21, l0_0, s0_1)
  else (mem_word_get.f k []).bind fun v => some (v, 100, l0_0, s0_1)
theorem mem_Memory_Load.mono : ∀ a0 a1 a2 a3 a4 k, LeO (mem_Memory_Load.f k a0 a1 a2 a3 a4) (mem_Memory_Load.f (k + 1) a0 a1 a2 a3 a4) := by
  intro a0 a1 a2 a3 a4 k
  unfold mem_Memory_Load.f
  exact LeO.ite (LeO.ite (LeO.bind (mem_word_get.mono _ _) (fun _ => LeO.refl _)) (LeO.bind (mem_word_get.mono _ _) (fun _ => LeO.refl _))) (LeO.bind (mem_word_get.mono _ _) (fun _ => LeO.refl _))
theorem mem_Memory_Load.there_ (l : List Int) (s a n : Int) (hl : l.length ≤ 9223372036854775807) (ha : 0 ≤ a) (hn : 0 ≤ n) :
    mem_Memory_there.f l s a n = some (decide (a + n ≤ (l.length : Int)), l, s) := by
  unfold mem_Memory_there.f
  rw [if_pos ha, if_pos hn]
  by_cases h2 : a ≤ (l.length : Int)
  · rw [if_pos h2]
    have : wrap64 ((l.length : Int) - a) = (l.length : Int) - a := by unfold wrap64; omega
    rw [this]
    congr 2
    simp only [decide_eq_decide]
    omega
  · rw [if_neg h2]
    congr 2
    simp
    omega
theorem mem_Memory_Load.addr_ (a : Int) : mem_address.f a = some (decide (0 ≤ a ∧ a < 4294967296)) := by
  unfold mem_address.f
  by_cases h : a ≥ 0
  · rw [if_pos h]; congr 1; simp only [decide_eq_decide]; omega
  · rw [if_neg h]; congr 1; simp; omega
theorem mem_Memory_Load.wrap_ {a b : Int} (ha : 0 ≤ a ∧ a < 4294967296) (hb : 0 ≤ b ∧ b < 4294967296) : wrap64 (a + b) = a + b := by unfold wrap64; omega
theorem mem_Memory_Load.sub_len (l : List Int) (a1 a2 a3 : Int) (h : 0 ≤ a1 ∧ 0 ≤ a2) (h3 : 0 < a3 ∧ a3 ≤ 8) (hin : a1 + a2 + a3 ≤ (l.length : Int)) : (mem_Memory_Load.sub l a1 a2 a3).length = (a1 + a2 + a3).toNat - (a1 + a2).toNat := by
  unfold mem_Memory_Load.sub
  rw [List.length_drop, List.length_take]
  omega
set_option maxHeartbeats 8000000 in
set_option maxRecDepth 100000 in
/-- 'word', where it is told 'may not be'. -/
theorem mem_Memory_Load.word_form (a1 a2 a3 : Int) (v0 : Value) (w : World) (hf : ¬ mem_Memory_Load.form a1 a2 a3) :
    Calls Try.prog 33 #[v0, .int .i64 a1, .int .i64 a2, .int .i64 a3] w fun e w' => e = .returned (.tuple #[.slice none 0 0, .int .i64 100]) ∧ Drawn0 w w' := by
  have hA1 := mem_Memory_Load.addr_ a1
  have hA2 := mem_Memory_Load.addr_ a2
  by_cases h3 : a3 = 1 ∨ a3 = 2 ∨ a3 = 4 ∨ a3 = 8
  · by_cases h1 : 0 ≤ a1 ∧ a1 < 4294967296
    · have h2 : ¬ (0 ≤ a2 ∧ a2 < 4294967296) := fun h2 => hf ⟨h3, h1, h2⟩
      rw [decide_eq_true h1] at hA1
      rw [decide_eq_false h2] at hA2
      have HA1 := Aside0.mk hA1
      have HA2 := Aside0.mk hA2
      clear hf h1 h2 hA1 hA2
      rcases h3 with rfl | rfl | rfl | rfl
      all_goals
        go_enter Try.func33, Try.ntmps33
        go_wp2_with (first
          | (go_at_call 39; (with_reducible refine (mem_address.calls a1 true _ HA1.out).mono ?_); rintro e w7 ⟨rfl, ⟨n7, rfl⟩⟩)
          | (go_at_call 39; (with_reducible refine (mem_address.calls a2 false _ HA2.out).mono ?_); rintro e w7 ⟨rfl, ⟨n7, rfl⟩⟩))
        go_ret2
        exact ⟨rfl, by repeat (first | exact Drawn0.refl _ | apply Drawn0.step)⟩
    · rw [decide_eq_false h1] at hA1
      have HA1 := Aside0.mk hA1
      clear hf h1 hA1 hA2
      rcases h3 with rfl | rfl | rfl | rfl
      all_goals
        go_enter Try.func33, Try.ntmps33
        go_wp2_with (first
          | (go_at_call 39; (with_reducible refine (mem_address.calls a1 false _ HA1.out).mono ?_); rintro e w7 ⟨rfl, ⟨n7, rfl⟩⟩))
        go_ret2
        exact ⟨rfl, by repeat (first | exact Drawn0.refl _ | apply Drawn0.step)⟩
  · have e1 : (a3 != 1) = true := by simp; omega
    have e2 : (a3 != 2) = true := by simp; omega
    have e4 : (a3 != 4) = true := by simp; omega
    have e8 : (a3 != 8) = true := by simp; omega
    clear hf h3 hA1 hA2
    go_enter Try.func33, Try.ntmps33
    go_wp2
    go_ret2
    exact ⟨rfl, by repeat (first | exact Drawn0.refl _ | apply Drawn0.step)⟩
set_option maxHeartbeats 8000000 in
set_option maxRecDepth 100000 in
/-- 'word', where bytes are there, or aren't. -/
theorem mem_Memory_Load.word_there (g : Nat) (P0_0_ : Nat → Prop) (u9000_ : Value) (l0_0 : List Int) (s0_1 : Int) (a1 a2 a3 : Int) (w0 w : World) (hI : IsS72 w0 w g u9000_ s0_1) (hB : Below w0.heap.size w0 w) (ho0_0 : Kd.R (Kd.int .u8) 5 w w0.heap.size P0_0_ u9000_ l0_0) (hf : mem_Memory_Load.form a1 a2 a3) (hin : a1 + a2 + a3 ≤ (l0_0.length : Int)) :
    Calls Try.prog 33 #[.pointer (some ⟨g, 0, none⟩), .int .i64 a1, .int .i64 a2, .int .i64 a3] w fun e w' => ∃ (b : Nat) (c : Nat) (c' : Nat), e = .returned (.tuple #[.slice (some ⟨b, (a1 + a2).toNat, none⟩) (mem_Memory_Load.sub l0_0 a1 a2 a3).length c', .int .i64 0]) ∧ (mem_Memory_Load.sub l0_0 a1 a2 a3).length ≤ c' ∧
      Kd.R (Kd.int .u8) 5 w' w0.heap.size (fun k_ => (P0_0_ k_ ∨ w.heap.size ≤ k_)) (.slice (some ⟨b, 0, none⟩) l0_0.length c) l0_0 ∧ IsS72 w0 w' g (.slice (some ⟨b, 0, none⟩) l0_0.length c) s0_1 ∧ Below w0.heap.size w0 w' ∧ Kept w w' (fun k_ => (P0_0_ k_) ∨ k_ = g) := by
  have hlen : l0_0.length ≤ 9223372036854775807 := by
    obtain ⟨A_, c_, rfl⟩ := Kd.R_slice ho0_0
    exact (Kd.R_reads' ho0_0).2.2.2.1
  obtain ⟨h3, h1, h2⟩ := hf
  have hA1 := mem_Memory_Load.addr_ a1
  have hA2 := mem_Memory_Load.addr_ a2
  rw [decide_eq_true h1] at hA1
  rw [decide_eq_true h2] at hA2
  have hW := mem_Memory_Load.wrap_ h1 h2
  have h30 : 0 < a3 ∧ a3 ≤ 8 := by omega
  have hW2 : wrap64 (a1 + a2 + a3) = a1 + a2 + a3 := by unfold wrap64; omega
  have hT0 := mem_Memory_Load.there_ l0_0 s0_1 (a1 + a2) a3 hlen (by omega) (by omega)
  rw [decide_eq_true hin] at hT0
  have HA1 := Aside0.mk hA1
  have HA2 := Aside0.mk hA2
  have HT := Aside0.mk hT0
  have HI := Aside0.mk hI
  have HB0 := Aside0.mk hB
  have HO := Aside0.mk ho0_0
  have HP := Aside0.mk (show (0 ≤ a1 ∧ 0 ≤ a2) ∧ (0 < a3 ∧ a3 ≤ 8) ∧ a1 + a2 + a3 ≤ (l0_0.length : Int) from ⟨⟨h1.1, h2.1⟩, h30, hin⟩)
  have HCf := Aside0.mk (show ∀ co : Nat, l0_0.length ≤ co → (mem_Memory_Load.sub l0_0 a1 a2 a3).length ≤ co - (a1 + a2).toNat from fun co hco => by
    rw [mem_Memory_Load.sub_len l0_0 a1 a2 _ HP.out.1 HP.out.2.1 HP.out.2.2]; have := HP.out; omega)
  clear hA1 hA2 hT0 hI hB ho0_0 h1 h2 h30 hlen hin
  rcases h3 with rfl | rfl | rfl | rfl
  all_goals
    go_enter Try.func33, Try.ntmps33
    go_wp2_with (first
      | (go_at_call 39; (with_reducible refine (mem_address.calls a1 true _ HA1.out).mono ?_); rintro e w7 ⟨rfl, ⟨n7, rfl⟩⟩)
      | (go_at_call 39; (with_reducible refine (mem_address.calls a2 true _ HA2.out).mono ?_); rintro e w7 ⟨rfl, ⟨n8, rfl⟩⟩)
      | (go_at_call 35
         (with_reducible refine (mem_Memory_there.calls g P0_0_ u9000_ l0_0 s0_1 (a1 + a2) _ true l0_0 s0_1 w0 _ ?sI ?sB ?sO HT.out).mono ?_)
         (case sI => repeat (first | exact HI.out | apply IsS72.drewN))
         (case sB => repeat (first | exact HB0.out | apply pw_below_drewN))
         (case sO => repeat (first | exact HO.out | apply Kd.R_drewN))
         rintro e w10 ⟨v155, rfl, ho0, hi, hb, hkp⟩
         have HK1 := Aside0.mk (show Kept w w10 (fun k_ => (P0_0_ k_) ∨ k_ = g) from hkp)
         have HB1 := Aside0.mk hb
         have HI1 := Aside0.mk hi
         have HO1 := Aside0.mk (show Kd.R (Kd.int .u8) 5 w10 w0.heap.size (fun k_ => (P0_0_ k_ ∨ w.heap.size ≤ k_)) v155 l0_0 from ho0)
         clear hkp hb hi ho0
         obtain ⟨Ao, co, eo, gb4, gl4, cl4, HG4⟩ := Kd.R_form HO1.out (by have := HP.out; omega)
         subst eo
         clear gb4 gl4 HG4
         obtain ⟨HGz, _⟩ := HI1.out
         have hcz0 := cellS72_0 HGz
         have hcz1 := cellS72_1 HGz
         have hfz0 := blk_frozen HGz 0
         have hfz1 := blk_frozen HGz 1
         clear HGz
         obtain ⟨i012, hi012, _, hsz12, _⟩ := info_parts info5
         have hcap := (Kd.R_reads' HO1.out).2.1
         have hcut := cut_mid (P := Try.prog) 32 5 .i64 .i64 Try.underlying32 hi012 1 hsz12 (some ⟨Ao, 0, none⟩) l0_0.length co (a1 + a2) _ (by have := HP.out; omega) (by have := HP.out; omega) HP.out.2.2 hcap
         have hne : ¬ co = (a1 + a2).toNat := by have := HP.out; omega
         rw [if_neg hne] at hcut
         rw [show (Option.map (fun x => x.add ((a1 + a2).toNat * 1)) (some (⟨Ao, 0, none⟩ : Addr))) = some ⟨Ao, (a1 + a2).toNat, none⟩ from by unfold Addr.add; by_cases hl : (a1 + a2).toNat = 0 <;> simp [hl]] at hcut
         have HCAP := Aside0.mk (HCf.out co hcap)
         clear hi012 hsz12 hne hcap))
    go_ret2
    exact ⟨Ao, co, _, by rw [mem_Memory_Load.sub_len l0_0 a1 a2 _ HP.out.1 HP.out.2.1 HP.out.2.2]; rfl, HCAP.out, HO1.out, HI1.out, HB1.out, HK1.out⟩
set_option maxHeartbeats 8000000 in
set_option maxRecDepth 100000 in
theorem mem_Memory_Load.word_fault (g : Nat) (P0_0_ : Nat → Prop) (u9000_ : Value) (l0_0 : List Int) (s0_1 : Int) (a1 a2 a3 : Int) (w0 w : World) (hI : IsS72 w0 w g u9000_ s0_1) (hB : Below w0.heap.size w0 w) (ho0_0 : Kd.R (Kd.int .u8) 5 w w0.heap.size P0_0_ u9000_ l0_0) (hf : mem_Memory_Load.form a1 a2 a3) (hin : ¬ a1 + a2 + a3 ≤ (l0_0.length : Int)) :
    Calls Try.prog 33 #[.pointer (some ⟨g, 0, none⟩), .int .i64 a1, .int .i64 a2, .int .i64 a3] w fun e w' => ∃ v1_ : Value, e = .returned (.tuple #[.slice none 0 0, .int .i64 21]) ∧
      Kd.R (Kd.int .u8) 5 w' w0.heap.size (fun k_ => (P0_0_ k_ ∨ w.heap.size ≤ k_)) v1_ l0_0 ∧ IsS72 w0 w' g v1_ s0_1 ∧ Below w0.heap.size w0 w' ∧ Kept w w' (fun k_ => (P0_0_ k_) ∨ k_ = g) := by
  have hlen : l0_0.length ≤ 9223372036854775807 := by
    obtain ⟨A_, c_, rfl⟩ := Kd.R_slice ho0_0
    exact (Kd.R_reads' ho0_0).2.2.2.1
  obtain ⟨h3, h1, h2⟩ := hf
  have hA1 := mem_Memory_Load.addr_ a1
  have hA2 := mem_Memory_Load.addr_ a2
  rw [decide_eq_true h1] at hA1
  rw [decide_eq_true h2] at hA2
  have hW := mem_Memory_Load.wrap_ h1 h2
  have h30 : 0 < a3 ∧ a3 ≤ 8 := by omega
  have hT0 := mem_Memory_Load.there_ l0_0 s0_1 (a1 + a2) a3 hlen (by omega) (by omega)
  rw [decide_eq_false hin] at hT0
  have HA1 := Aside0.mk hA1
  have HA2 := Aside0.mk hA2
  have HT := Aside0.mk hT0
  have HI := Aside0.mk hI
  have HB0 := Aside0.mk hB
  have HO := Aside0.mk ho0_0
  clear hA1 hA2 hT0 hI hB ho0_0 h1 h2 h30 hlen hin
  rcases h3 with rfl | rfl | rfl | rfl
  all_goals
    go_enter Try.func33, Try.ntmps33
    go_wp2_with (first
      | (go_at_call 39; (with_reducible refine (mem_address.calls a1 true _ HA1.out).mono ?_); rintro e w7 ⟨rfl, ⟨n7, rfl⟩⟩)
      | (go_at_call 39; (with_reducible refine (mem_address.calls a2 true _ HA2.out).mono ?_); rintro e w7 ⟨rfl, ⟨n8, rfl⟩⟩)
      | (go_at_call 35
         (with_reducible refine (mem_Memory_there.calls g P0_0_ u9000_ l0_0 s0_1 (a1 + a2) _ false l0_0 s0_1 w0 _ ?sI ?sB ?sO HT.out).mono ?_)
         (case sI => repeat (first | exact HI.out | apply IsS72.drewN))
         (case sB => repeat (first | exact HB0.out | apply pw_below_drewN))
         (case sO => repeat (first | exact HO.out | apply Kd.R_drewN))
         rintro e w10 ⟨v155, rfl, ho0, hi, hb, hkp⟩
         have HK1 := Aside0.mk (show Kept w w10 (fun k_ => (P0_0_ k_) ∨ k_ = g) from hkp)
         have HB1 := Aside0.mk hb
         have HI1 := Aside0.mk hi
         have HO1 := Aside0.mk (show Kd.R (Kd.int .u8) 5 w10 w0.heap.size (fun k_ => (P0_0_ k_ ∨ w.heap.size ≤ k_)) v155 l0_0 from ho0)
         clear hkp hb hi ho0))
    go_ret2
    exact ⟨_, rfl, HO1.out, HI1.out, HB1.out, HK1.out⟩
theorem mem_Memory_Load.get_nil (k : Nat) (v : Int) (w : World) (h : mem_word_get.f k [] = some v) :
    Calls Try.prog 34 #[.slice none 0 0] w fun e w' => e = .returned (.int .u64 v) ∧ Drawn0 w w' :=
  mem_word_get.calls k none 0 [] v w ⟨rfl, by simp, fun h => absurd h (by simp)⟩ (Nat.le_refl _) h
set_option maxHeartbeats 8000000 in
set_option maxRecDepth 100000 in
theorem mem_Memory_Load.calls (k : Nat) (g : Nat) (P0_0_ : Nat → Prop) (u9000_ : Value) (l0_0 : List Int) (s0_1 : Int) (a1 : Int) (a2 : Int) (a3 : Int) (r1 : Int) (r2 : Int) (r3 : List Int) (r4 : Int) (w0 w : World) (hI : IsS72 w0 w g u9000_ s0_1) (hB : Below w0.heap.size w0 w) (ho0_0 : Kd.R (Kd.int .u8) 5 w w0.heap.size P0_0_ u9000_ l0_0) (h : mem_Memory_Load.f k l0_0 s0_1 a1 a2 a3 = some (r1, r2, r3, r4)) :
    Calls Try.prog 20 #[.pointer (some ⟨g, 0, none⟩), .int .i64 a1, .int .i64 a2, .int .i64 a3] w fun e w' => ∃ v2_ : Value, e = .returned (.tuple #[.int .u64 r1, .int .i64 r2]) ∧ Kd.R (Kd.int .u8) 5 w' w0.heap.size (fun k_ => (P0_0_ k_ ∨ w.heap.size ≤ k_)) v2_ r3 ∧ IsS72 w0 w' g v2_ r4 ∧ Below w0.heap.size w0 w' ∧ Kept w w' (fun k_ => (P0_0_ k_) ∨ k_ = g) := by
  unfold mem_Memory_Load.f at h
  by_cases hf : mem_Memory_Load.form a1 a2 a3
  · rw [if_pos hf] at h
    by_cases hin : a1 + a2 + a3 ≤ (l0_0.length : Int)
    · rw [if_pos hin] at h
      obtain ⟨v, hv, h⟩ := Option.bind_eq_some_iff.mp h
      simp only [Option.some.injEq, Prod.mk.injEq] at h
      obtain ⟨rfl, rfl, rfl, rfl⟩ := h
      have HV := Aside0.mk hv
      have HI := Aside0.mk hI
      have HB0 := Aside0.mk hB
      have HO := Aside0.mk ho0_0
      have HF := Aside0.mk hf
      have HN := Aside0.mk hin
      have HP := Aside0.mk (show (0 ≤ a1 ∧ 0 ≤ a2) ∧ (0 < a3 ∧ a3 ≤ 8) ∧ a1 + a2 + a3 ≤ (l0_0.length : Int) from ⟨⟨hf.2.1.1, hf.2.2.1⟩, by have := hf.1; omega, hin⟩)
      clear hv hI hB ho0_0 hf hin
      go_enter Try.func20, Try.ntmps20
      go_wp2_with (first
        | ((with_reducible refine gate_callee (f := 33) rfl ?_); refine goesL_ (some 18) rfl rfl Try.func33 (by kernel_rfl) rfl #[.pointer (some ⟨g, 0, none⟩), .int .i64 a1, .int .i64 a2, .int .i64 a3] rfl (by (try simp only [List.map_toArray, List.map_cons, List.map_nil]); first | done | rfl) ?_
           (with_reducible refine (mem_Memory_Load.word_there g P0_0_ u9000_ l0_0 s0_1 a1 a2 a3 w0 _ HI.out HB0.out HO.out HF.out HN.out).mono ?_)
           rintro e w10 ⟨b, c, c', rfl, hc', ho0, hi, hb, hkp⟩
           refine ⟨_, rfl, ?_⟩
           have HK1 := Aside0.mk hkp
           have HB1 := Aside0.mk hb
           have HI1 := Aside0.mk hi
           have HO1 := Aside0.mk ho0
           have HC1 := Aside0.mk hc'
           have hCm := Kd.C_mid (lo := (a1 + a2).toNat) (hi := (a1 + a2 + a3).toNat) (Kd.R_reads' ho0).2.2 (by have := HP.out; omega) (by have := HP.out; omega) (Kd.R_reads' ho0).2.1
           rw [if_neg (by have := HP.out; have := (Kd.R_reads' ho0).2.1; omega : ¬ c = (a1 + a2).toNat)] at hCm
           rw [show (Option.map (fun x => x.add ((a1 + a2).toNat * (Kd.int .u8).sz)) (some (⟨b, 0, none⟩ : Addr))) = some ⟨b, (a1 + a2).toNat, none⟩ from by
             show (some ((⟨b, 0, none⟩ : Addr).add ((a1 + a2).toNat * 1))) = _
             unfold Addr.add; by_cases hl : (a1 + a2).toNat = 0 <;> simp [hl]] at hCm
           have HCM := Aside0.mk (show Kd.C (Kd.int .u8) w10 (some ⟨b, (a1 + a2).toNat, none⟩) (mem_Memory_Load.sub l0_0 a1 a2 a3).length (mem_Memory_Load.sub l0_0 a1 a2 a3) from hCm)
           clear hkp hb hi ho0 hc' hCm)
        | (go_at_call 34; (with_reducible refine (mem_word_get.calls k _ _ _ _ _ HCM.out HC1.out HV.out).mono ?_); rintro e w7 ⟨rfl, ⟨n7, rfl⟩⟩))
      go_ret2
      exact ⟨_, rfl, Kd.R_drewN HO1.out _, IsS72.drewN HI1.out _, pw_below_drewN HB1.out _, Kept.drewN HK1.out _⟩
    · rw [if_neg hin] at h
      obtain ⟨v, hv, h⟩ := Option.bind_eq_some_iff.mp h
      simp only [Option.some.injEq, Prod.mk.injEq] at h
      obtain ⟨rfl, rfl, rfl, rfl⟩ := h
      have HV := Aside0.mk hv
      have HI := Aside0.mk hI
      have HB0 := Aside0.mk hB
      have HO := Aside0.mk ho0_0
      have HF := Aside0.mk hf
      have HN := Aside0.mk hin
      clear hv hI hB ho0_0 hf hin
      go_enter Try.func20, Try.ntmps20
      go_wp2_with (first
        | ((with_reducible refine gate_callee (f := 33) rfl ?_); refine goesL_ (some 18) rfl rfl Try.func33 (by kernel_rfl) rfl #[.pointer (some ⟨g, 0, none⟩), .int .i64 a1, .int .i64 a2, .int .i64 a3] rfl (by (try simp only [List.map_toArray, List.map_cons, List.map_nil]); first | done | rfl) ?_
           (with_reducible refine (mem_Memory_Load.word_fault g P0_0_ u9000_ l0_0 s0_1 a1 a2 a3 w0 _ HI.out HB0.out HO.out HF.out HN.out).mono ?_)
           rintro e w10 ⟨v1_, rfl, ho0, hi, hb, hkp⟩
           refine ⟨_, rfl, ?_⟩
           have HK1 := Aside0.mk hkp
           have HB1 := Aside0.mk hb
           have HI1 := Aside0.mk hi
           have HO1 := Aside0.mk ho0
           clear hkp hb hi ho0)
        | (go_at_call 34; (with_reducible refine (mem_Memory_Load.get_nil k _ _ HV.out).mono ?_); rintro e w7 ⟨rfl, ⟨n7, rfl⟩⟩))
      go_ret2
      exact ⟨_, rfl, Kd.R_drewN HO1.out _, IsS72.drewN HI1.out _, pw_below_drewN HB1.out _, Kept.drewN HK1.out _⟩
  · rw [if_neg hf] at h
    obtain ⟨v, hv, h⟩ := Option.bind_eq_some_iff.mp h
    simp only [Option.some.injEq, Prod.mk.injEq] at h
    obtain ⟨rfl, rfl, rfl, rfl⟩ := h
    have HV := Aside0.mk hv
    have HI := Aside0.mk hI
    have HB0 := Aside0.mk hB
    have HO := Aside0.mk ho0_0
    have HF := Aside0.mk hf
    clear hv hI hB ho0_0 hf
    go_enter Try.func20, Try.ntmps20
    go_wp2_with (first
      | ((with_reducible refine gate_callee (f := 33) rfl ?_); refine goesL_ (some 18) rfl rfl Try.func33 (by kernel_rfl) rfl #[.pointer (some ⟨g, 0, none⟩), .int .i64 a1, .int .i64 a2, .int .i64 a3] rfl (by (try simp only [List.map_toArray, List.map_cons, List.map_nil]); first | done | rfl) ?_
         (with_reducible refine (mem_Memory_Load.word_form a1 a2 a3 _ _ HF.out).mono ?_)
         rintro e w10 ⟨rfl, ⟨n6, rfl⟩⟩
         refine ⟨_, rfl, ?_⟩)
      | (go_at_call 34; (with_reducible refine (mem_Memory_Load.get_nil k _ _ HV.out).mono ?_); rintro e w7 ⟨rfl, ⟨n7, rfl⟩⟩))
    go_ret2
    exact ⟨_, rfl, Kd.R_mono (Kd.R_drewN HO.out _) (fun _ hk => .inl hk), IsS72.drewN HI.out _, pw_below_drewN HB0.out _, Kept.drewN (Kept.refl _ _) _⟩



/-! ### mem_Memory_Store: function 31 (by hand) -/
def mem_Memory_Store.f (l0_0 : List Int) (s0_1 : Int) (a1 a2 a3 a4 : Int) : Option (Int × List Int × Int) :=
  some (if mem_Memory_Load.form a1 a2 a3 then
    if a1 + a2 + a3 ≤ (l0_0.length : Int) then (0, Go.Proofs.YtpaodfhhnhbacaaU.splice l0_0 (a1 + a2).toNat (Go.Proofs.YtpaodfhhnhbacaaU.le a4 a3.toNat), s0_1)
    else (21, l0_0, s0_1)
  else (100, l0_0, s0_1))
set_option maxHeartbeats 8000000 in
set_option maxRecDepth 100000 in
theorem mem_Memory_Store.set_nil (v : Int) (w : World) : Calls Try.prog 38 #[.slice none 0 0, .int .u64 v] w fun e w' => e = .returned (.tuple #[]) ∧ Drawn0 w w' := by
  go_enter Try.func38, Try.ntmps38
  go_wp2
  go_loopg [7] 1 (fun kq v7 w' => v7 = .int .i64 0 ∧ Aside0 (Drawn0 w w'))
  case atStart => exact ⟨rfl, ⟨Drawn0.refl _⟩⟩
  case round =>
    obtain ⟨rfl, HD⟩ := hrel
    go_wp2
    first | go_end0 | ((try simp only [Exit.inBlock, Exit.then]); refine bodyPost_ret (results_none rfl _ _ _) rfl ?_)
    exact ⟨rfl, HD.out⟩
set_option maxHeartbeats 8000000 in
set_option maxRecDepth 100000 in
theorem mem_Memory_Store.set_ (b c c' lo n : Nat) (P_ : Nat → Prop) (l : List Int) (v : Int) (w0 w : World) (hB : Below w0.heap.size w0 w) (ho : Kd.R (Kd.int .u8) 5 w w0.heap.size P_ (.slice (some ⟨b, 0, none⟩) l.length c) l) (hn : lo + n ≤ l.length) (h8 : n ≤ 8) :
    Calls Try.prog 38 #[.slice (some ⟨b, lo, none⟩) n c', .int .u64 v] w fun e w' => e = .returned (.tuple #[]) ∧ Kd.R (Kd.int .u8) 5 w' w0.heap.size P_ (.slice (some ⟨b, 0, none⟩) l.length c) (Go.Proofs.YtpaodfhhnhbacaaU.splice l lo (Go.Proofs.YtpaodfhhnhbacaaU.le v n)) ∧ Below w0.heap.size w0 w' ∧ w.grownBy w' (some b) := by
  have HB := Aside0.mk hB
  have HO := Aside0.mk ho
  have HN := Aside0.mk (show lo + n ≤ l.length ∧ n ≤ 8 from ⟨hn, h8⟩)
  clear hB ho hn h8
  go_enter Try.func38, Try.ntmps38
  go_wp2
  go_loopg [7] n (fun kq v7 w' => ∃ i : Nat, v7 = .int .i64 (i : Int) ∧ Aside0 (kq + i = n) ∧ Aside0 (Kd.R (Kd.int .u8) 5 w' w0.heap.size P_ (.slice (some ⟨b, 0, none⟩) l.length c) (Go.Proofs.YtpaodfhhnhbacaaU.splice l lo (Go.Proofs.YtpaodfhhnhbacaaU.le v i))) ∧ Aside0 (Below w0.heap.size w0 w') ∧ Aside0 (w.grownBy w' (some b)))
  case atStart => exact ⟨0, rfl, ⟨rfl⟩, ⟨by rw [Go.Proofs.YtpaodfhhnhbacaaU.le_zero, Go.Proofs.YtpaodfhhnhbacaaU.splice_nil]; exact HO.out⟩, HB, ⟨World.grownBy.refl w _⟩⟩
  case round =>
    obtain ⟨i, rfl, HK1, HO1, HB1, HG1⟩ := hrel
    by_cases hlt : i < n
    · obtain ⟨k1, rfl⟩ : ∃ k1, gk = k1 + 1 := ⟨gk - 1, by have := HK1.out; omega⟩
      have HLT := Aside0.mk hlt
      have hd : decide ((i : Int) < (n : Int)) = true := decide_eq_true (by omega)
      have hd2 : decide (i < n) = true := decide_eq_true hlt
      have hw8 : wrap64 (8 * (i : Int)) = 8 * (i : Int) := by have := HN.out; unfold wrap64; omega
      have hw1 : wrap64 ((i : Int) + 1) = ((i + 1 : Nat) : Int) := (Go.Proofs.YtpaodfhhnhbacaaU.w64 (by omega) (by have := HN.out; omega)).trans (by simp)
      obtain ⟨hx, hf⟩ := Kd.R_celln 0 HO1.out ((lo + i : Nat) : Int) (by omega) (by have := HN.out; omega)
      have hput := Kd.R_putg HO1.out ((lo + i : Nat) : Int) (v / 2 ^ (8 * i) % 256)
      simp only [Int.toNat_natCast] at hx hf hput
      have HP := Aside0.mk hput
      have hsp : (Go.Proofs.YtpaodfhhnhbacaaU.splice l lo (Go.Proofs.YtpaodfhhnhbacaaU.le v i)).set (lo + i) (v / 2 ^ (8 * i) % 256) = Go.Proofs.YtpaodfhhnhbacaaU.splice l lo (Go.Proofs.YtpaodfhhnhbacaaU.le v (i + 1)) := by
        have h1 := Go.Proofs.YtpaodfhhnhbacaaU.splice_set (b := l) (i := lo) (p := Go.Proofs.YtpaodfhhnhbacaaU.le v i) (v / 2 ^ (8 * i) % 256) (by rw [Go.Proofs.YtpaodfhhnhbacaaU.le_length]; have := HN.out; omega)
        rw [Go.Proofs.YtpaodfhhnhbacaaU.le_length] at h1
        rw [h1, Go.Proofs.YtpaodfhhnhbacaaU.le_succ]
      have HSP := Aside0.mk hsp
      clear hput hsp hlt
      have c0 := eq_true (show 0 ≤ 8 * (i : Int) by omega)
      have c1 : decide (0 ≤ 8 * (i : Int)) = true := decide_eq_true (by omega)
      have c2 : decide (0 ≤ (i : Int)) = true := decide_eq_true (by omega)
      obtain ⟨q, hq⟩ : ∃ q, v / 2 ^ (8 * i) = q := ⟨_, rfl⟩
      have hsh : v / 2 ^ min (8 * (i : Int)).toNat 64 = q := by rw [show min (8 * (i : Int)).toNat 64 = 8 * i from by have := HN.out; have := HLT.out; omega]; exact hq
      have hsz : 8 * (i : Int) ≤ 64 → v / 2 ^ (8 * (i : Int)).toNat = q := fun _ => by rw [show (8 * (i : Int)).toNat = 8 * i from by omega]; exact hq
      rw [hq] at HP HSP
      clear hq
      have hge := (Kd.R_base HO1.out b rfl)
      have HGE := Aside0.mk hge
      clear hge
      have c3 := eq_true HLT.out
      go_wp2
      go_roundg k1
      case measure => have := HK1.out; omega
      case rel => exact ⟨i + 1, by first | rfl | (congr 1), ⟨by have := HK1.out; omega⟩, ⟨by rw [← HSP.out]; exact HP.out.1⟩, ⟨below_set HB1.out HGE.out⟩, ⟨HG1.out.trans HP.out.2⟩⟩
    · have hd : decide ((i : Int) < (n : Int)) = false := decide_eq_false (by omega)
      have hd2 : decide (i < n) = false := decide_eq_false hlt
      have c3 := eq_false hlt
      have HE := Aside0.mk (show i = n by have := HK1.out; omega)
      clear hlt
      go_wp2
      first | go_end0 | ((try simp only [Exit.inBlock, Exit.then]); refine bodyPost_ret (results_none rfl _ _ _) rfl ?_)
      exact ⟨rfl, by rw [← HE.out]; exact HO1.out, HB1.out, HG1.out⟩
set_option maxHeartbeats 8000000 in
set_option maxRecDepth 100000 in
theorem mem_Memory_Store.calls (g : Nat) (P0_0_ : Nat → Prop) (u9000_ : Value) (l0_0 : List Int) (s0_1 : Int) (a1 : Int) (a2 : Int) (a3 : Int) (a4 : Int) (r1 : Int) (r2 : List Int) (r3 : Int) (w0 w : World) (hI : IsS72 w0 w g u9000_ s0_1) (hB : Below w0.heap.size w0 w) (ho0_0 : Kd.R (Kd.int .u8) 5 w w0.heap.size P0_0_ u9000_ l0_0) (h : mem_Memory_Store.f l0_0 s0_1 a1 a2 a3 a4 = some (r1, r2, r3)) :
    Calls Try.prog 31 #[.pointer (some ⟨g, 0, none⟩), .int .i64 a1, .int .i64 a2, .int .i64 a3, .int .u64 a4] w fun e w' => ∃ v1_ : Value, e = .returned (.int .i64 r1) ∧ Kd.R (Kd.int .u8) 5 w' w0.heap.size (fun k_ => (P0_0_ k_ ∨ w.heap.size ≤ k_)) v1_ r2 ∧ IsS72 w0 w' g v1_ r3 ∧ Below w0.heap.size w0 w' ∧ Kept w w' (fun k_ => (P0_0_ k_) ∨ k_ = g) := by
  by_cases hf : mem_Memory_Load.form a1 a2 a3
  · by_cases hin : a1 + a2 + a3 ≤ (l0_0.length : Int)
    · simp only [mem_Memory_Store.f, if_pos hf, if_pos hin, Option.some.injEq, Prod.mk.injEq] at h
      obtain ⟨rfl, rfl, rfl⟩ := h
      have HI := Aside0.mk hI
      have HB0 := Aside0.mk hB
      have HO := Aside0.mk ho0_0
      have HF := Aside0.mk hf
      have HN := Aside0.mk hin
      have HP := Aside0.mk (show (0 ≤ a1 ∧ 0 ≤ a2) ∧ (0 < a3 ∧ a3 ≤ 8) ∧ a1 + a2 + a3 ≤ (l0_0.length : Int) from ⟨⟨hf.2.1.1, hf.2.2.1⟩, by have := hf.1; omega, hin⟩)
      have HS := Aside0.mk (show (mem_Memory_Load.sub l0_0 a1 a2 a3).length = a3.toNat by
        rw [mem_Memory_Load.sub_len l0_0 a1 a2 a3 HP.out.1 HP.out.2.1 HP.out.2.2]; have := HP.out; omega)
      clear hI hB ho0_0 hf hin
      go_enter Try.func31, Try.ntmps31
      go_wp2_with (first
        | ((with_reducible refine gate_callee (f := 33) rfl ?_); refine goesL_ (some 19) rfl rfl Try.func33 (by kernel_rfl) rfl #[.pointer (some ⟨g, 0, none⟩), .int .i64 a1, .int .i64 a2, .int .i64 a3] rfl (by (try simp only [List.map_toArray, List.map_cons, List.map_nil]); first | done | rfl) ?_
           (with_reducible refine (mem_Memory_Load.word_there g P0_0_ u9000_ l0_0 s0_1 a1 a2 a3 w0 _ HI.out HB0.out HO.out HF.out HN.out).mono ?_)
           rintro e w10 ⟨b, c, c', rfl, hc', ho0, hi, hb, hkp⟩
           refine ⟨_, rfl, ?_⟩
           have HK1 := Aside0.mk hkp
           have HB1 := Aside0.mk hb
           have HI1 := Aside0.mk hi
           have HO1 := Aside0.mk ho0
           clear hkp hb hi ho0 hc')
        | (go_at_call 38
           (with_reducible refine (mem_Memory_Store.set_ b c c' (a1 + a2).toNat _ _ l0_0 a4 w0 _ HB1.out HO1.out (by rw [HS.out]; have := HP.out; omega) (by rw [HS.out]; have := HP.out; omega)).mono ?_)
           rintro e w12 ⟨rfl, ho, hb, hg⟩
           have HO2 := Aside0.mk ho
           have HB2 := Aside0.mk hb
           have HI2 := Aside0.mk (HI1.out.grown hg (IsS72.own_ne HI1.out HO1.out (by decide)))
           have HK2 := Aside0.mk (Kept.of_grown (S := (fun k_ => (P0_0_ k_) ∨ k_ = g)) hg HK1.out (fun k_ e_ => Or.imp_left Or.inl (HO1.out.1 k_ e_)))
           clear ho hb hg))
      go_ret
      refine ⟨.slice (some ⟨b, 0, none⟩) l0_0.length c, rfl, ?_, HI2.out, HB2.out, HK2.out⟩
      have := HO2.out
      rwa [HS.out] at this
    · simp only [mem_Memory_Store.f, if_pos hf, if_neg hin, Option.some.injEq, Prod.mk.injEq] at h
      obtain ⟨rfl, rfl, rfl⟩ := h
      have HI := Aside0.mk hI
      have HB0 := Aside0.mk hB
      have HO := Aside0.mk ho0_0
      have HF := Aside0.mk hf
      have HN := Aside0.mk hin
      clear hI hB ho0_0 hf hin
      go_enter Try.func31, Try.ntmps31
      go_wp2_with (first
        | ((with_reducible refine gate_callee (f := 33) rfl ?_); refine goesL_ (some 19) rfl rfl Try.func33 (by kernel_rfl) rfl #[.pointer (some ⟨g, 0, none⟩), .int .i64 a1, .int .i64 a2, .int .i64 a3] rfl (by (try simp only [List.map_toArray, List.map_cons, List.map_nil]); first | done | rfl) ?_
           (with_reducible refine (mem_Memory_Load.word_fault g P0_0_ u9000_ l0_0 s0_1 a1 a2 a3 w0 _ HI.out HB0.out HO.out HF.out HN.out).mono ?_)
           rintro e w10 ⟨v1_, rfl, ho0, hi, hb, hkp⟩
           refine ⟨_, rfl, ?_⟩
           have HK1 := Aside0.mk hkp
           have HB1 := Aside0.mk hb
           have HI1 := Aside0.mk hi
           have HO1 := Aside0.mk ho0
           clear hkp hb hi ho0)
        | (go_at_call 38; (with_reducible refine (mem_Memory_Store.set_nil a4 _).mono ?_); rintro e w7 ⟨rfl, ⟨n7, rfl⟩⟩))
      go_ret
      exact ⟨_, rfl, Kd.R_drewN HO1.out _, IsS72.drewN HI1.out _, pw_below_drewN HB1.out _, Kept.drewN HK1.out _⟩
  · simp only [mem_Memory_Store.f, if_neg hf, Option.some.injEq, Prod.mk.injEq] at h
    obtain ⟨rfl, rfl, rfl⟩ := h
    have HI := Aside0.mk hI
    have HB0 := Aside0.mk hB
    have HO := Aside0.mk ho0_0
    have HF := Aside0.mk hf
    clear hI hB ho0_0 hf
    go_enter Try.func31, Try.ntmps31
    go_wp2_with (first
      | ((with_reducible refine gate_callee (f := 33) rfl ?_); refine goesL_ (some 19) rfl rfl Try.func33 (by kernel_rfl) rfl #[.pointer (some ⟨g, 0, none⟩), .int .i64 a1, .int .i64 a2, .int .i64 a3] rfl (by (try simp only [List.map_toArray, List.map_cons, List.map_nil]); first | done | rfl) ?_
         (with_reducible refine (mem_Memory_Load.word_form a1 a2 a3 _ _ HF.out).mono ?_)
         rintro e w10 ⟨rfl, ⟨n6, rfl⟩⟩
         refine ⟨_, rfl, ?_⟩)
      | (go_at_call 38; (with_reducible refine (mem_Memory_Store.set_nil a4 _).mono ?_); rintro e w7 ⟨rfl, ⟨n7, rfl⟩⟩))
    go_ret
    exact ⟨_, rfl, Kd.R_mono (Kd.R_drewN HO.out _) (fun _ hk => .inl hk), IsS72.drewN HI.out _, pw_below_drewN HB0.out _, Kept.drewN (Kept.refl _ _) _⟩


end Go.Proofs.Ytpaodfhhnhbacaa.PAll
