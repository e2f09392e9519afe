/- Printed by a copy of the printer that was turned for this claim: functions as plain Lean functions, with proofs that their calls come to these; or words that such proofs use. -/
import Derived.Test.YtjmajhalgdeicaaPAllx0
import Derived.Test.YtjmajhalgdeicaaPAllx1
import Derived.Test.YtjmajhalgdeicaaPAllx2
namespace Go.Proofs.Ytjmajhalgdeicaa.PAll
open Go.RowKit Go.Proofs.YtjmajhalgdeicaaW.PrintWords Go.Proofs.YtjmajhalgdeicaaW.PrintLast Go.Proofs.YtjmajhalgdeicaaW.PrintMore
attribute [local go_sem] max2_int min2_int max_two min_two max_three min_three max_four min_four   -- for this text's walks alone
set_option linter.unusedVariables false
set_option linter.unusedSimpArgs false

/-! ### slices_Clone_byte_byte: function 32 -/
def slices_Clone_byte_byte.f (l0 : List Int) : Option (List Int) := (some (([] : List Int) : List Int)).bind fun y284 => (if y284.length + l0.length < 140737488355328 then (some (y284 ++ l0)) else (none))
set_option maxHeartbeats 8000000 in
set_option maxRecDepth 100000 in
theorem slices_Clone_byte_byte.calls (A0 : Option Addr) (c0 : Nat) (l0 : List Int) (r : List Int) (w : World) (hr0 : Kd.C (Kd.int .u8) w A0 l0.length l0) (hc0 : l0.length ≤ c0) (h : slices_Clone_byte_byte.f l0 = some r) :
    Calls Try.prog 32 #[.slice A0 l0.length c0] w fun e w' => ∃ v0_ : Value, e = .returned (v0_) ∧ Kd.R (Kd.int .u8) 5 w' w.heap.size (fun _ => True) v0_ r ∧ Below w.heap.size w w' := by
  rcases Go.Proofs.YtjmajhalgdeicaaO.nil_or (A := A0) with hAn_ | hAn_
  · obtain rfl := Option.isNone_iff_eq_none.1 hAn_
    obtain rfl := Go.Proofs.YtjmajhalgdeicaaO.C_none hr0
    have hr_ : r = [] := by unfold slices_Clone_byte_byte.f at h; simpa [eq_comm] using h
    subst hr_
    have hse_ := fun (W_ : World) (c_ : Nat) => Go.Lib.run_eql_slice_nil (P := Try.prog) W_ 40 5 none 0 c_ 0 0 Try.underlying40
    simp only [List.length_nil]
    go_enter Try.func32, Try.ntmps32
    go_wp2
    go_ret
    exact ⟨_, rfl, Kd.R_nil _ _ _ _ _, Below.refl _ _⟩
  have hse_ : ∀ W_ : World, (binOp .eql 40 (.slice A0 l0.length c0) (.slice none 0 0)).run Try.prog W_ = .ok (.bool false) W_ := fun W_ => by rw [Go.Lib.run_eql_slice_nil (P := Try.prog) W_ 40 5 A0 l0.length c0 0 0 Try.underlying40, hAn_]
  have HR0 := Aside0.mk hr0
  have HC0 := Aside0.mk hc0
  clear hr0 hc0
  have HB := Aside0.mk (Below.refl w.heap.size w)
  have H : ((some (([] : List Int) : List Int)).bind fun y284 => (if y284.length + l0.length < 140737488355328 then (some (y284 ++ l0)) else (none))) = some r := h
  clear h
  obtain ⟨y284, hy284⟩ : ∃ y_ : List Int, y_ = (([] : List Int)) := ⟨_, rfl⟩
  replace H : (if y284.length + l0.length < 140737488355328 then (some (y284 ++ l0)) else (none)) = some r := by first | (rw [hy284]; with_reducible exact H) | (have H2_ := (Option.bind_some _ _).symm.trans H; rw [hy284]; with_reducible exact H2_) | (have H2_ := (Option.bind_some _ _).symm.trans H; with_reducible exact H2_) | with_reducible exact H | (rw [hy284]; exact H) | exact H
  have Ny284 := Aside0.mk hy284
  clear hy284
  by_cases c2 : y284.length + l0.length < 140737488355328
  · rw [if_pos c2] at H
    have LMc2 := Aside0.mk c2
    clear c2
    obtain ⟨y287, hy287⟩ : ∃ y_ : List Int, y_ = (y284 ++ l0) := ⟨_, rfl⟩
    replace H : (some y287) = some r := by first | (rw [hy287]; with_reducible exact H) | (have H2_ := (Option.bind_some _ _).symm.trans H; rw [hy287]; with_reducible exact H2_) | (have H2_ := (Option.bind_some _ _).symm.trans H; with_reducible exact H2_) | with_reducible exact H | (rw [hy287]; exact H) | exact H
    have Ny287 := Aside0.mk hy287
    clear hy287
    obtain rfl := Option.some.inj H
    go_enter Try.func32, Try.ntmps32
    go_wp2_with (first | ((with_reducible refine gate_dst (N := 5) rfl ?_); refine Kd.R_lit (Kd.int .u8) _ 5 ?hg (N := 5) ?hd (xs := ([] : List Int)) (inner := []) (ok := fun _ => True) (okp := fun _ => True) ?hr ?hp (fun _ hk => hk) trivial (Below.refl _ _) (Nat.le_refl _) (by simp) ?_; (case hd => rfl); (case hg => rfl); (case hr => first | (go_simp; done) | (go_simp; rfl)); (case hp => exact (Reps.none _ _)); intro v285 w3 ho4 hb hg_ hnew_; clear hg_ hnew_; (first | rw [← Ny284.out] at ho4 | (simp only [Int.reduceToNat] at ho4; rw [← Ny284.out] at ho4)); have n0_ := Aside0.mk (Kd.R_lower ho4 (below_size (by repeat (first | (with_reducible first | exact HB.out | apply below_alloc | apply pw_below_drewN | apply below_drew1) | exact HB.out)))); have n1_ := Aside0.mk (below_step (by repeat (first | (with_reducible first | exact HB.out | apply below_alloc | apply pw_below_drewN | apply below_drew1) | exact HB.out)) hb); clear HB; have HO286 := n0_; have HB := n1_; clear n0_ n1_; clear hb ho4) | ((with_reducible refine gate_builtin (b := .append) (xs := #[.tmp 5, .tmp 6]) rfl ?_); at_builtin; refine Kd.R_append_rows (Kd.int .u8) (w0 := w) w.heap.size rfl (.tmp 5) (.tmp 6) 40 5 (.int .u8 0) 1 rfl Try.underlying40 info5 rfl (by decide) (by omega) v285 y284 l0 _ _ _ (fun _ => True) (fun _ => False) rfl rfl ?aO ?aR (fun _ _ h => h) (fun _ h => h.elim) ?aF ?aB ?aS ?aL ?_; (case aR => repeat (first | exact (Kd.C_below HR0.out HB.out) | (with_reducible refine Kd.C_alloc ?_ _) | (with_reducible refine Kd.C_drewN ?_ _) | (with_reducible refine Kd.C_drew ?_))); (case aB => exact (by repeat (first | (with_reducible first | exact HB.out | apply below_alloc | apply pw_below_drewN | apply below_drew1) | exact HB.out))); (case aF => exact (fun _ _ => trivial)); (case aO => exact (by (with_reducible repeat (first | apply Kd.R_alloc | apply Kd.R_drewN | apply Kd.R_drew)); exact HO286.out)); (case aS => exact (below_size (by repeat (first | (with_reducible first | exact HB.out | apply below_alloc | apply pw_below_drewN | apply below_drew1) | exact HB.out)))); (case aL => have := LMc2.out; omega); intro v288 w5 ho hb hg hat; rw [← Ny287.out] at ho; have n0_ := Aside0.mk (hb); have n1_ := Aside0.mk (ho); clear HB; clear HO286; have HB := n0_; have HO289 := n1_; clear n0_ n1_; clear ho hb hg hat))
    go_ret
    exact ⟨_, by first | rfl | (simp [errW_none, errW_some] <;> rfl) | (simp [*, errW_none, errW_some] <;> rfl), by (with_reducible repeat (first | apply Kd.R_alloc | apply Kd.R_drewN | apply Kd.R_drew)); exact HO289.out, by repeat (first | (with_reducible first | exact HB.out | apply below_alloc | apply pw_below_drewN | apply below_drew1) | exact HB.out)⟩
  · rw [if_neg c2] at H
    exact absurd H (by simp)

/-! ### mem_Memory_Read: function 14 -/
def mem_Memory_Read.f (l0_0 : List Int) (s0_1 : Int) (a1 : Int) (a2 : Int) : Option (List Int × Int × List Int × Int) := (mem_Memory_there.f l0_0 s0_1 a1 a2).bind fun bt290 => (if bt290.1 = true then (if 0 ≤ a1 then (if a1 ≤ (wrap64 (a1 + a2)) then (if (wrap64 (a1 + a2)) ≤ (bt290.2.1.length : Int) then ((slices_Clone_byte_byte.f ((bt290.2.1.take ((wrap64 (a1 + a2)) : Int).toNat).drop (a1 : Int).toNat)).bind fun t299 => (some (t299, 0, bt290.2.1, bt290.2.2))) else (none)) else (none)) else (none)) else (some (([] : List Int), 21, bt290.2.1, bt290.2.2)))
set_option maxHeartbeats 8000000 in
set_option maxRecDepth 100000 in
theorem mem_Memory_Read.calls (g : Nat) (P0_0_ : Nat → Prop) (u9000_ : Value) (l0_0 : List Int) (s0_1 : Int) (a1 : Int) (a2 : Int) (r1 : List Int) (r2 : Int) (r3 : List Int) (r4 : Int) (w0 w : World) (hI : IsS61 w0 w g u9000_ s0_1) (hB : Below w0.heap.size w0 w) (ho0_0 : Kd.R (Kd.int .u8) 5 w w0.heap.size P0_0_ u9000_ l0_0) (h : mem_Memory_Read.f l0_0 s0_1 a1 a2 = some (r1, r2, r3, r4)) :
    Calls Try.prog 14 #[.pointer (some ⟨g, 0, none⟩), .int .i64 a1, .int .i64 a2] w fun e w' => ∃ v0_ v2_ : Value, e = .returned (.tuple #[v0_, .int .i64 r2]) ∧ Kd.R (Kd.int .u8) 5 w' w0.heap.size (fun k_ => (P0_0_ k_ ∨ w.heap.size ≤ k_) ∧ some k_ ≠ (v2_ : Value).ownBlock) v0_ r1 ∧ Kd.R (Kd.int .u8) 5 w' w0.heap.size (fun k_ => (P0_0_ k_ ∨ w.heap.size ≤ k_) ∧ some k_ ≠ (v0_ : Value).ownBlock) v2_ r3 ∧ IsS61 w0 w' g v2_ r4 ∧ Below w0.heap.size w0 w' ∧ Kept w w' (fun k_ => (P0_0_ k_) ∨ k_ = g) := by
  have HO0_0 := Aside0.mk (show Kd.R (Kd.int .u8) 5 w w0.heap.size (fun k_ => (P0_0_ k_ ∨ w.heap.size ≤ k_)) u9000_ l0_0 from Kd.R_mono ho0_0 (fun k_ hk => (.inl hk)))
  have HI0 := Aside0.mk hI
  have HL := Aside0.mk hB.size
  clear hI
  have HK := Aside0.mk (Kept.refl w (fun k_ => (P0_0_ k_) ∨ k_ = g))
  have HW0 := Aside0.mk hB.size
  have HB := Aside0.mk hB
  clear hB
  have H : ((mem_Memory_there.f l0_0 s0_1 a1 a2).bind fun bt290 => (if bt290.1 = true then (if 0 ≤ a1 then (if a1 ≤ (wrap64 (a1 + a2)) then (if (wrap64 (a1 + a2)) ≤ (bt290.2.1.length : Int) then ((slices_Clone_byte_byte.f ((bt290.2.1.take ((wrap64 (a1 + a2)) : Int).toNat).drop (a1 : Int).toNat)).bind fun t299 => (some (t299, 0, bt290.2.1, bt290.2.2))) else (none)) else (none)) else (none)) else (some (([] : List Int), 21, bt290.2.1, bt290.2.2)))) = some (r1, r2, r3, r4) := h
  clear h
  replace H := Option.bind_eq_some_iff.mp H
  obtain ⟨⟨t290, t291, t294⟩, A40, H⟩ := H
  replace H : (if t290 = true then (if 0 ≤ a1 then (if a1 ≤ (wrap64 (a1 + a2)) then (if (wrap64 (a1 + a2)) ≤ (t291.length : Int) then ((slices_Clone_byte_byte.f ((t291.take ((wrap64 (a1 + a2)) : Int).toNat).drop (a1 : Int).toNat)).bind fun t299 => (some (t299, 0, t291, t294))) else (none)) else (none)) else (none)) else (some (([] : List Int), 21, t291, t294))) = some (r1, r2, r3, r4) := H
  have A4 := Aside0.mk A40
  clear A40
  by_cases c5 : t290 = true
  · subst c5
    have H1 : (if 0 ≤ a1 then (if a1 ≤ (wrap64 (a1 + a2)) then (if (wrap64 (a1 + a2)) ≤ (t291.length : Int) then ((slices_Clone_byte_byte.f ((t291.take ((wrap64 (a1 + a2)) : Int).toNat).drop (a1 : Int).toNat)).bind fun t299 => (some (t299, 0, t291, t294))) else (none)) else (none)) else (none)) = some (r1, r2, r3, r4) := by rw [if_pos rfl] at H; exact H
    clear H
    have H := H1
    clear H1
    by_cases c6 : 0 ≤ a1
    · rw [if_pos c6] at H
      have c6b0 := eq_true c6
      have c6b1 : decide (0 ≤ a1) = true := decide_eq_true c6
      clear c6
      by_cases c7 : a1 ≤ (wrap64 (a1 + a2))
      · rw [if_pos c7] at H
        have c7b0 := eq_true c7
        have c7b1 : decide (a1 ≤ (wrap64 (a1 + a2))) = true := decide_eq_true c7
        by_cases c8 : (wrap64 (a1 + a2)) ≤ (t291.length : Int)
        · rw [if_pos c8] at H
          have c8b0 := eq_true c8
          have c8b1 : decide ((wrap64 (a1 + a2)) ≤ (t291.length : Int)) = true := decide_eq_true c8
          obtain ⟨y295, hy295⟩ : ∃ y_ : List Int, y_ = ((t291.take ((wrap64 (a1 + a2)) : Int).toNat).drop (a1 : Int).toNat) := ⟨_, rfl⟩
          replace H : ((slices_Clone_byte_byte.f y295).bind fun t299 => (some (t299, 0, t291, t294))) = some (r1, r2, r3, r4) := by first | (rw [hy295]; with_reducible exact H) | (have H2_ := (Option.bind_some _ _).symm.trans H; rw [hy295]; with_reducible exact H2_) | (have H2_ := (Option.bind_some _ _).symm.trans H; with_reducible exact H2_) | with_reducible exact H | (rw [hy295]; exact H) | exact H
          have Ny295 := Aside0.mk hy295
          clear hy295
          replace H := Option.bind_eq_some_iff.mp H
          obtain ⟨t299, A90, H⟩ := H
          replace H : (some (t299, 0, t291, t294)) = some (r1, r2, r3, r4) := H
          have A9 := Aside0.mk A90
          clear A90
          simp only [Option.some.injEq, Prod.mk.injEq] at H
          obtain ⟨rfl, rfl, rfl, rfl⟩ := H
          go_enter Try.func14, Try.ntmps14
          go_wp2_with (first | ((with_reducible refine gate_callee (f := 31) rfl ?_); refine goesL_ (some 11) rfl rfl Try.func31 (by kernel_rfl) rfl #[.pointer (some ⟨g, 0, none⟩), .int .i64 a1, .int .i64 a2] rfl (by (try simp only [List.map_toArray, List.map_cons, List.map_nil]); first | done | rfl | (simp only [List.length_drop, List.length_take]; rfl)) ?_; (with_reducible refine (mem_Memory_there.calls g (fun k_ => some k_ = (u9000_ : Value).ownBlock) u9000_ l0_0 s0_1 a1 a2 true t291 t294 w0 _ ?side1 ?side2 ?side3 A4.out).mono ?_); (case side1 => repeat (first | (with_reducible first | exact HI0.out | apply IsS61.alloc | apply IsS61.drewN | apply IsS61.drew | apply IsS61.set_0 | apply IsS61.set_1) | exact HI0.out)); (case side2 => repeat (first | (with_reducible first | exact HB.out | apply below_alloc | apply pw_below_drewN | apply below_drew1 | refine below_set ?_ (IsS61.ge HI0.out)) | exact HB.out)); (case side3 => exact Kd.R_tight rfl HO0_0.out); rintro e w10 ⟨v292, rfl, ho0, hi, hb, hkp⟩; refine ⟨_, rfl, ?_⟩; have n0_ := Aside0.mk (hi); have n1_ := Aside0.mk (Kd.R_mono (ok' := fun k_ => (P0_0_ k_ ∨ w.heap.size ≤ k_)) ho0 (fun k_ hk_ => Or.elim hk_ (fun hs_ => (HO0_0.out.1 k_ (hs_).symm)) (fun hn_ => (.inr (Nat.le_trans (by first | exact HK.out.1 | exact (show Kept w _ (fun k_ => (P0_0_ k_) ∨ k_ = g) from by repeat (first | (with_reducible first | exact HK.out | apply Kept.alloc | apply Kept.drewN | apply Kept.drew | refine Kept.setCell ?_ (.inl (.inr rfl)) _) | exact HK.out)).1) hn_))))); have n2_ := Aside0.mk (Kept.then_ (S := (fun k_ => (P0_0_ k_) ∨ k_ = g)) (by repeat (first | (with_reducible first | exact HK.out | apply Kept.alloc | apply Kept.drewN | apply Kept.drew | refine Kept.setCell ?_ (.inl (.inr rfl)) _) | exact HK.out)) hkp (fun k_ hs_ => Or.elim hs_ (fun hs_ => (fun e_ => Or.imp_left Or.inl ((HO0_0.out.1 k_ e_.symm))) hs_) (fun e_ => .inl (.inr e_)))); have n3_ := Aside0.mk (hb); clear HI0; clear HK; clear HB; clear HO0_0; have HI0 := n0_; have HO293 := n1_; have HK := n2_; have HB := n3_; clear n0_ n1_ n2_ n3_; (try clear hb); (try clear hkp); (try clear ho0); obtain ⟨HGz11, hgz11⟩ := HI0.out; have hcz11_0 := cellS61_0 HGz11; have hcz11_1 := cellS61_1 HGz11; have hfz11_0 := blk_frozen HGz11 0; have hfz11_1 := blk_frozen HGz11 1; clear HGz11 hgz11; obtain ⟨Ao13, co13, eo13⟩ := Kd.R_slice HO293.out; subst eo13; have q12 : ((wrap64 (a1 + a2)) : Int) ≤ ((t291.length : Int) : Int) := of_decide_eq_true (by first | (with_reducible assumption) | assumption); obtain ⟨i012, hi012, _, hsz12, _⟩ := info_parts info5; have hroom12 : t291.length ≤ co13 := (Kd.R_reads' HO293.out).2.1; have hC12 : Kd.C (Kd.int .u8) _ Ao13 t291.length t291 := (Kd.R_reads' HO293.out).2.2; have ql12 : (a1 : Int) ≤ ((wrap64 (a1 + a2)) : Int) := of_decide_eq_true (by first | (with_reducible assumption) | assumption); have q012 : (0 : Int) ≤ (a1 : Int) := of_decide_eq_true (by first | (with_reducible assumption) | assumption); have hcut12 := cut_mid (P := Try.prog) 40 5 .i64 .i64 Try.underlying40 hi012 1 hsz12 Ao13 t291.length co13 a1 (wrap64 (a1 + a2)) q012 ql12 q12 hroom12; have hr12 := Kd.C_mid (lo := (a1 : Int).toNat) (hi := ((wrap64 (a1 + a2)) : Int).toNat) (c := co13) hC12 (by omega) (by omega) hroom12; obtain ⟨A12, hA12⟩ : ∃ A1, A1 = (if co13 = (a1 : Int).toNat then Ao13 else (Ao13 : Option Addr).map (·.add ((a1 : Int).toNat * 1))) := ⟨_, rfl⟩; obtain ⟨c12, hc12⟩ : ∃ c1, c1 = co13 - (a1 : Int).toNat := ⟨_, rfl⟩; have hy12 : y295.length = ((wrap64 (a1 + a2)) : Int).toNat - (a1 : Int).toNat := (by rw [Ny295.out, List.length_drop, List.length_take] <;> omega); rw [show ((t291).take ((wrap64 (a1 + a2)) : Int).toNat).drop (a1 : Int).toNat = y295 from Ny295.out.symm] at hr12; replace hr12 : Kd.C (Kd.int .u8) _ A12 y295.length y295 := (by rw [hA12]; exact hr12); rw [← hy12, ← hA12, ← hc12] at hcut12; have HR298 := Aside0.mk hr12; have HC298 := Aside0.mk (show y295.length ≤ c12 from by rw [hy12, hc12]; exact Nat.sub_le_sub_right (Nat.le_trans (by omega) hroom12) _); clear hr12 hC12 hroom12 hi012 hsz12 hc12; have KY12 := Aside0.mk hy12; have KA12 := Aside0.mk hA12; clear hy12 hA12; have KL12 := Aside0.mk (show ((wrap64 (a1 + a2)) : Int).toNat ≤ t291.length from by omega); have KM12 := Aside0.mk (show (a1 : Int).toNat ≤ ((wrap64 (a1 + a2)) : Int).toNat from by omega); replace q12 := eq_true q12) | ((with_reducible refine gate_callee (f := 32) rfl ?_); refine goesL_ (some 22) rfl rfl Try.func32 (by kernel_rfl) rfl #[.slice A12 y295.length c12] rfl (by (try simp only [List.map_toArray, List.map_cons, List.map_nil]); first | done | rfl | (simp only [List.length_drop, List.length_take]; rfl)) ?_; (with_reducible refine (slices_Clone_byte_byte.calls _ _ y295 t299 _ ?side1 ?side2 A9.out).mono ?_); (case side1 => repeat (first | exact (by repeat (first | (with_reducible exact HR298.out) | (with_reducible refine Kd.C_alloc ?_ _) | (with_reducible refine Kd.C_drewN ?_ _) | (with_reducible refine Kd.C_drew ?_) | exact HR298.out)) | (with_reducible refine Kd.C_alloc ?_ _) | (with_reducible refine Kd.C_drewN ?_ _) | (with_reducible refine Kd.C_drew ?_))); (case side2 => exact HC298.out); rintro e w14 ⟨v300, rfl, ho0, hb⟩; refine ⟨_, rfl, ?_⟩; have n0_ := Aside0.mk (Kd.R_elder' (by (with_reducible repeat (first | apply Kd.R_alloc | apply Kd.R_drewN | apply Kd.R_drew)); exact HO293.out) (Kd.R_base ho0) hb); have n1_ := Aside0.mk (Kd.R_lower (Kd.R_new' (Kd.R_newM (M := fun k_ => (P0_0_ k_ ∨ w.heap.size ≤ k_)) ho0 (by first | exact HK.out.1 | exact (show Kept w _ (fun k_ => (P0_0_ k_) ∨ k_ = g) from by repeat (first | (with_reducible first | exact HK.out | apply Kept.alloc | apply Kept.drewN | apply Kept.drew | refine Kept.setCell ?_ (.inl (.inr rfl)) _) | exact HK.out)).1) (fun k_ h_ => .inr h_)) (Kd.R_lt (by (with_reducible repeat (first | apply Kd.R_alloc | apply Kd.R_drewN | apply Kd.R_drew)); exact HO293.out))) (below_size (by repeat (first | (with_reducible first | exact HB.out | apply below_alloc | apply pw_below_drewN | apply below_drew1 | refine below_set ?_ (IsS61.ge HI0.out)) | exact HB.out)))); have n2_ := Aside0.mk (IsS61.below (by repeat (first | (with_reducible first | exact HI0.out | apply IsS61.alloc | apply IsS61.drewN | apply IsS61.drew | apply IsS61.set_0 | apply IsS61.set_1) | exact HI0.out)) hb); have n3_ := Aside0.mk (Kd.C_below (by repeat (first | (with_reducible exact HR298.out) | (with_reducible refine Kd.C_alloc ?_ _) | (with_reducible refine Kd.C_drewN ?_ _) | (with_reducible refine Kd.C_drew ?_) | exact HR298.out)) hb); have n4_ := Aside0.mk (Kept.below (S := (fun k_ => (P0_0_ k_) ∨ k_ = g)) (by repeat (first | (with_reducible first | exact HK.out | apply Kept.alloc | apply Kept.drewN | apply Kept.drew | refine Kept.setCell ?_ (.inl (.inr rfl)) _) | exact HK.out)) hb); have n5_ := Aside0.mk (below_step (by repeat (first | (with_reducible first | exact HB.out | apply below_alloc | apply pw_below_drewN | apply below_drew1 | refine below_set ?_ (IsS61.ge HI0.out)) | exact HB.out)) hb); clear HO293; clear HI0; clear HR298; clear HK; clear HB; have HO293 := n0_; have HO301 := n1_; have HI0 := n2_; have HR298 := n3_; have HK := n4_; have HB := n5_; clear n0_ n1_ n2_ n3_ n4_ n5_; (try clear hb); (try clear hb2); (try clear hk); (try clear hi); (try clear ho0)))
          go_ret2
          exact ⟨_, _, by first | rfl | (simp [errW_none, errW_some] <;> rfl) | (simp [*, errW_none, errW_some] <;> rfl), by (with_reducible repeat (first | apply Kd.R_alloc | apply Kd.R_drewN | apply Kd.R_drew)); exact Kd.R_mono HO301.out (fun _ hk => ⟨hk.1.1, hk.2⟩), by (with_reducible repeat (first | apply Kd.R_alloc | apply Kd.R_drewN | apply Kd.R_drew)); exact HO293.out, by repeat (first | (with_reducible first | exact HI0.out | apply IsS61.alloc | apply IsS61.drewN | apply IsS61.drew | apply IsS61.set_0 | apply IsS61.set_1) | exact HI0.out), by repeat (first | (with_reducible first | exact HB.out | apply below_alloc | apply pw_below_drewN | apply below_drew1 | refine below_set ?_ (IsS61.ge HI0.out)) | exact HB.out), by repeat (first | (with_reducible first | exact HK.out | apply Kept.alloc | apply Kept.drewN | apply Kept.drew | refine Kept.setCell ?_ (.inl (.inr rfl)) _) | exact HK.out)⟩
        · rw [if_neg c8] at H
          exact absurd H (by simp)
      · rw [if_neg c7] at H
        exact absurd H (by simp)
    · rw [if_neg c6] at H
      exact absurd H (by simp)
  · replace c5 := Bool.eq_false_iff.mpr c5
    subst c5
    have H1 : (some (([] : List Int), 21, t291, t294)) = some (r1, r2, r3, r4) := by rw [if_neg (show ¬ (false = true) by decide)] at H; exact H
    clear H
    have H := H1
    clear H1
    simp only [Option.some.injEq, Prod.mk.injEq] at H
    obtain ⟨rfl, rfl, rfl, rfl⟩ := H
    go_enter Try.func14, Try.ntmps14
    go_wp2_with (first | ((with_reducible refine gate_callee (f := 31) rfl ?_); refine goesL_ (some 11) rfl rfl Try.func31 (by kernel_rfl) rfl #[.pointer (some ⟨g, 0, none⟩), .int .i64 a1, .int .i64 a2] rfl (by (try simp only [List.map_toArray, List.map_cons, List.map_nil]); first | done | rfl | (simp only [List.length_drop, List.length_take]; rfl)) ?_; (with_reducible refine (mem_Memory_there.calls g (fun k_ => some k_ = (u9000_ : Value).ownBlock) u9000_ l0_0 s0_1 a1 a2 false t291 t294 w0 _ ?side1 ?side2 ?side3 A4.out).mono ?_); (case side1 => repeat (first | (with_reducible first | exact HI0.out | apply IsS61.alloc | apply IsS61.drewN | apply IsS61.drew | apply IsS61.set_0 | apply IsS61.set_1) | exact HI0.out)); (case side2 => repeat (first | (with_reducible first | exact HB.out | apply below_alloc | apply pw_below_drewN | apply below_drew1 | refine below_set ?_ (IsS61.ge HI0.out)) | exact HB.out)); (case side3 => exact Kd.R_tight rfl HO0_0.out); rintro e w15 ⟨v292, rfl, ho0, hi, hb, hkp⟩; refine ⟨_, rfl, ?_⟩; have n0_ := Aside0.mk (hi); have n1_ := Aside0.mk (Kd.R_mono (ok' := fun k_ => (P0_0_ k_ ∨ w.heap.size ≤ k_)) ho0 (fun k_ hk_ => Or.elim hk_ (fun hs_ => (HO0_0.out.1 k_ (hs_).symm)) (fun hn_ => (.inr (Nat.le_trans (by first | exact HK.out.1 | exact (show Kept w _ (fun k_ => (P0_0_ k_) ∨ k_ = g) from by repeat (first | (with_reducible first | exact HK.out | apply Kept.alloc | apply Kept.drewN | apply Kept.drew | refine Kept.setCell ?_ (.inl (.inr rfl)) _) | exact HK.out)).1) hn_))))); have n2_ := Aside0.mk (Kept.then_ (S := (fun k_ => (P0_0_ k_) ∨ k_ = g)) (by repeat (first | (with_reducible first | exact HK.out | apply Kept.alloc | apply Kept.drewN | apply Kept.drew | refine Kept.setCell ?_ (.inl (.inr rfl)) _) | exact HK.out)) hkp (fun k_ hs_ => Or.elim hs_ (fun hs_ => (fun e_ => Or.imp_left Or.inl ((HO0_0.out.1 k_ e_.symm))) hs_) (fun e_ => .inl (.inr e_)))); have n3_ := Aside0.mk (hb); clear HI0; clear HK; clear HB; clear HO0_0; have HI0 := n0_; have HO293 := n1_; have HK := n2_; have HB := n3_; clear n0_ n1_ n2_ n3_; (try clear hb); (try clear hkp); (try clear ho0)))
    go_ret2
    exact ⟨_, _, by first | rfl | (simp [errW_none, errW_some] <;> rfl) | (simp [*, errW_none, errW_some] <;> rfl), by first | exact Kd.R_nil _ _ _ _ _ | exact Kd.N_nil _ _ _ _ _ | exact Kd.V_nil _ _ _ _ _ | exact Kd.Q_nil _ _ _ _ _ | exact Kd.S_nil _ _ _ _ _, by (with_reducible repeat (first | apply Kd.R_alloc | apply Kd.R_drewN | apply Kd.R_drew)); exact Kd.R_mono HO293.out (fun _ hk => ⟨hk, (by simp [Value.ownBlock])⟩), by repeat (first | (with_reducible first | exact HI0.out | apply IsS61.alloc | apply IsS61.drewN | apply IsS61.drew | apply IsS61.set_0 | apply IsS61.set_1) | exact HI0.out), by repeat (first | (with_reducible first | exact HB.out | apply below_alloc | apply pw_below_drewN | apply below_drew1 | refine below_set ?_ (IsS61.ge HI0.out)) | exact HB.out), by repeat (first | (with_reducible first | exact HK.out | apply Kept.alloc | apply Kept.drewN | apply Kept.drew | refine Kept.setCell ?_ (.inl (.inr rfl)) _) | exact HK.out)⟩


/-! ### mem_Memory_Write: function 15 (by hand) -/
def mem_Memory_Write.f (l0_0 : List Int) (s0_1 : Int) (a1 : Int) (l2 : List Int) : Option (Int × List Int × Int) :=
  some (if 0 ≤ a1 ∧ a1 + (l2.length : Int) ≤ (l0_0.length : Int) then (0, Go.Proofs.YtjmajhalgdeicaaU.splice l0_0 a1.toNat l2, s0_1) else (21, l0_0, s0_1))
theorem mem_Memory_Write.there_ (l : List Int) (s a n : Int) (hl : l.length ≤ 9223372036854775807) (hn : 0 ≤ n) :
    mem_Memory_there.f l s a n = some (decide (0 ≤ a ∧ a + n ≤ (l.length : Int)), l, s) := by
  unfold mem_Memory_there.f
  by_cases h1 : a ≥ 0
  · rw [if_pos h1, if_pos hn]
    by_cases h2 : a ≤ (l.length : Int)
    · rw [if_pos h2]
      have : wrap64 ((l.length : Int) - a) = (l.length : Int) - a := by unfold wrap64; omega
      rw [this]
      congr 2
      simp only [decide_eq_decide]
      omega
    · rw [if_neg h2]
      congr 2
      simp
      omega
  · rw [if_neg h1]
    congr 2
    simp
    omega
set_option maxHeartbeats 8000000 in
set_option maxRecDepth 100000 in
theorem mem_Memory_Write.calls (g : Nat) (P0_0_ : Nat → Prop) (u9000_ : Value) (l0_0 : List Int) (s0_1 : Int) (a1 : Int) (A2 : Option Addr) (c2 : Nat) (l2 : List Int) (r1 : Int) (r2 : List Int) (r3 : Int) (w0 w : World) (hI : IsS61 w0 w g u9000_ s0_1) (hB : Below w0.heap.size w0 w) (ho0_0 : Kd.R (Kd.int .u8) 5 w w0.heap.size P0_0_ u9000_ l0_0) (hr2 : ∀ W_, Kept w W_ (fun k_ => (P0_0_ k_) ∨ k_ = g) → Kd.C (Kd.int .u8) W_ A2 l2.length l2) (hc2 : l2.length ≤ c2) (h : mem_Memory_Write.f l0_0 s0_1 a1 l2 = some (r1, r2, r3)) :
    Calls Try.prog 15 #[.pointer (some ⟨g, 0, none⟩), .int .i64 a1, .slice A2 l2.length c2] w fun e w' => ∃ v1_ : Value, e = .returned (.int .i64 r1) ∧ Kd.R (Kd.int .u8) 5 w' w0.heap.size (fun k_ => (P0_0_ k_ ∨ w.heap.size ≤ k_)) v1_ r2 ∧ IsS61 w0 w' g v1_ r3 ∧ Below w0.heap.size w0 w' ∧ Kept w w' (fun k_ => (P0_0_ k_) ∨ k_ = g) := by
  have hlen : l0_0.length ≤ 9223372036854775807 := by
    obtain ⟨A_, c_, rfl⟩ := Kd.R_slice ho0_0
    exact (Kd.R_reads' ho0_0).2.2.2.1
  have hT0 := mem_Memory_Write.there_ l0_0 s0_1 a1 (l2.length : Int) hlen (by omega)
  by_cases hc : 0 ≤ a1 ∧ a1 + (l2.length : Int) ≤ (l0_0.length : Int)
  · simp only [mem_Memory_Write.f, if_pos hc, Option.some.injEq, Prod.mk.injEq] at h
    obtain ⟨rfl, rfl, rfl⟩ := h
    rw [decide_eq_true hc] at hT0
    obtain ⟨hc0, hc1⟩ := hc
    have HC := Aside0.mk (show 0 ≤ a1 ∧ a1 + (l2.length : Int) ≤ (l0_0.length : Int) from ⟨hc0, hc1⟩)
    have HT := Aside0.mk hT0
    have HR2 := Aside0.mk hr2
    have HI := Aside0.mk hI
    have HB0 := Aside0.mk hB
    have HO := Aside0.mk ho0_0
    have HLEN := Aside0.mk hlen
    have HC2 := Aside0.mk hc2
    clear hT0 hr2 hI hB ho0_0 hlen hc0 hc1 hc2
    go_enter Try.func15, Try.ntmps15
    go_wp2_with (first
      | ((with_reducible refine gate_callee (f := 31) rfl ?_); refine goesL_ (some 11) rfl rfl Try.func31 (by kernel_rfl) rfl #[.pointer (some ⟨g, 0, none⟩), .int .i64 a1, .int .i64 (l2.length : Int)] rfl (by (try simp only [List.map_toArray, List.map_cons, List.map_nil]); first | done | rfl | (simp only [List.length_drop, List.length_take]; rfl)) ?_
         (with_reducible refine (mem_Memory_there.calls g P0_0_ u9000_ l0_0 s0_1 a1 (l2.length : Int) true l0_0 s0_1 w0 _ HI.out HB0.out HO.out HT.out).mono ?_)
         rintro e w10 ⟨v155, rfl, ho0, hi, hb, hkp⟩
         refine ⟨_, rfl, ?_⟩
         have HK1 := Aside0.mk hkp
         have HB1 := Aside0.mk hb
         have HI1 := Aside0.mk hi
         have HO1 := Aside0.mk ho0
         clear hkp hb hi ho0
         obtain ⟨HGz, _⟩ := HI1.out
         have hcz0 := cellS61_0 HGz
         have hcz1 := cellS61_1 HGz
         have hfz0 := blk_frozen HGz 0
         have hfz1 := blk_frozen HGz 1
         clear HGz
         obtain ⟨Ao, co, eo⟩ := Kd.R_slice HO1.out
         subst eo
         obtain ⟨i012, hi012, _, hsz12, _⟩ := info_parts info5
         have hcut := cut_from (P := Try.prog) 40 5 .i64 Try.underlying40 hi012 1 hsz12 Ao l0_0.length co a1 HC.out.1 (by have := HC.out.2; omega)
         obtain ⟨A12, hA12⟩ : ∃ A1, A1 = (if co = a1.toNat then Ao else (Ao : Option Addr).map (·.add (a1.toNat * 1))) := ⟨_, rfl⟩
         rw [← hA12] at hcut
         have HA12 := Aside0.mk hA12
         clear hi012 hsz12 hA12)
      | ((with_reducible refine gate_builtin (b := .copy) (xs := #[.tmp 18, .tmp 19]) rfl ?_)
         refine Go.Proofs.YtjmajhalgdeicaaO.R_copy_cut (0 : Int) (w0 := w0) w0.heap.size rfl (.tmp 18) (.tmp 19) 40 40 5 rfl Try.underlying40 (by kernel_rfl) Ao l0_0.length co a1.toNat l0_0 l2 A2 l2.length c2 (fun k_ => (P0_0_ k_ ∨ w.heap.size ≤ k_)) (by rw [← HA12.out]; rfl) rfl HO1.out (HR2.out _ HK1.out) (by have := HC.out; omega) HB1.out (below_size HB1.out) ?_
         intro w12 ho hb hg
         have HO2 := Aside0.mk ho
         have HB2 := Aside0.mk hb
         have HI2 := Aside0.mk (HI1.out.grown hg (IsS61.own_ne HI1.out HO1.out (by decide)))
         have HK2 := Aside0.mk (Kept.of_grown (S := (fun k_ => (P0_0_ k_) ∨ k_ = g)) hg HK1.out (fun k_ e_ => Or.imp_left Or.inl (HO1.out.1 k_ e_)))
         clear ho hb hg))
    go_ret
    exact ⟨_, rfl, by have := HO2.out; rw [Go.Proofs.YtjmajhalgdeicaaU.splice]; exact this, HI2.out, HB2.out, HK2.out⟩
  · simp only [mem_Memory_Write.f, if_neg hc, Option.some.injEq, Prod.mk.injEq] at h
    obtain ⟨rfl, rfl, rfl⟩ := h
    rw [decide_eq_false hc] at hT0
    have HT := Aside0.mk hT0
    have HI := Aside0.mk hI
    have HB0 := Aside0.mk hB
    have HO := Aside0.mk ho0_0
    clear hT0 hr2 hI hB ho0_0 hlen hc hc2
    go_enter Try.func15, Try.ntmps15
    go_wp2_with (first
      | ((with_reducible refine gate_callee (f := 31) rfl ?_); refine goesL_ (some 11) rfl rfl Try.func31 (by kernel_rfl) rfl #[.pointer (some ⟨g, 0, none⟩), .int .i64 a1, .int .i64 (l2.length : Int)] rfl (by (try simp only [List.map_toArray, List.map_cons, List.map_nil]); first | done | rfl | (simp only [List.length_drop, List.length_take]; rfl)) ?_
         (with_reducible refine (mem_Memory_there.calls g P0_0_ u9000_ l0_0 s0_1 a1 (l2.length : Int) false l0_0 s0_1 w0 _ HI.out HB0.out HO.out HT.out).mono ?_)
         rintro e w10 ⟨v155, rfl, ho0, hi, hb, hkp⟩
         refine ⟨_, rfl, ?_⟩
         have HK1 := Aside0.mk hkp
         have HB1 := Aside0.mk hb
         have HI1 := Aside0.mk hi
         have HO1 := Aside0.mk ho0
         clear hkp hb hi ho0))
    go_ret
    exact ⟨_, rfl, HO1.out, HI1.out, HB1.out, HK1.out⟩


/-! ### gangwaylaw9_MemBounds: function 4 -/
mutual
def gangwaylaw9_MemBounds.l0 : Nat → Int → Int → Int → Int → List (S48) → List Int → Int → Option (Bool)
  | 0, _, _, _, _, _, _, _ => none
  | k + 1, x6, x303000, x303001, x303002, x303003, x309000, x309001 => if x6 < 4 then (if 0 ≤ x6 then (gangwaylaw9_MemBounds.l1 k x6 (shl .i64 1 x6) (-2) x303000 x303001 x303002 x303003 x309000 x309001) else (none)) else ((mem_Memory_Read.f x309000 x309001 65536 0).bind fun bt399 => ((mem_Memory_Read.f bt399.2.2.1 bt399.2.2.2 65537 0).bind fun bt407 => ((mem_Memory_Load.f k bt407.2.2.1 bt407.2.2.2 0 0 3).bind fun bt415 => ((gangwaylaw9_num.f bt399.2.1).bind fun t421 => (if t421 = 0 then (if (bt399.1.length : Int) = 0 then ((gangwaylaw9_num.f bt407.2.1).bind fun t422 => (if t422 = 21 then ((gangwaylaw9_num.f bt415.2.1).bind fun t423 => (if t423 = 100 then (if (x303003.length : Int) ≥ 0 then ((gangwaylaw9_wakes.f k).bind fun t424 => (some t424)) else (none)) else (none))) else (none))) else (none)) else (none))))))
def gangwaylaw9_MemBounds.l1 : Nat → Int → Int → Int → Int → Int → Int → List (S48) → List Int → Int → Option (Bool)
  | 0, _, _, _, _, _, _, _, _, _ => none
  | k + 1, x6, x7, x8, x303000, x303001, x303002, x303003, x309000, x309001 => if x8 ≤ 2 then ((mem_Memory_Store.f x309000 x309001 (wrap64 ((wrap64 (65536 - x7)) + x8)) 0 x7 0).bind fun bt368 => ((mem_Memory_Load.f k bt368.2.1 bt368.2.2 0 (wrap64 ((wrap64 (65536 - x7)) + x8)) x7).bind fun bt373 => ((mem_Memory_Read.f bt373.2.2.1 bt373.2.2.2 (wrap64 ((wrap64 (65536 - x7)) + x8)) x7).bind fun bt379 => (if 0 ≤ x7 then (if (x7 : Int).toNat ≤ 281474976710656 then ((mem_Memory_Write.f bt379.2.2.1 bt379.2.2.2 (wrap64 ((wrap64 (65536 - x7)) + x8)) (List.replicate (x7 : Int).toNat 0)).bind fun bt390 => ((gangwaylaw9_num.f bt368.1).bind fun t395 => (if ((t395 == 0) != (decide (x8 ≤ 0))) = true then (none) else ((gangwaylaw9_num.f bt373.2.1).bind fun t396 => (if ((t396 == 0) != (decide (x8 ≤ 0))) = true then (none) else ((gangwaylaw9_num.f bt379.2.1).bind fun t397 => (if ((t397 == 0) != (decide (x8 ≤ 0))) = true then (none) else ((gangwaylaw9_num.f bt390.1).bind fun t398 => (if ((t398 == 0) != (decide (x8 ≤ 0))) = true then (none) else (gangwaylaw9_MemBounds.l1 k x6 x7 (wrap64 (x8 + 1)) x303000 x303001 x303002 x303003 bt390.2.1 bt390.2.2)))))))))) else (none)) else (none))))) else (gangwaylaw9_MemBounds.l0 k (wrap64 (x6 + 1)) x303000 x303001 x303002 x303003 x309000 x309001)
end
def gangwaylaw9_MemBounds.f (k : Nat) (a0_0 : Int) (a0_1 : Int) (a0_2 : Int) (l0_3 : List (S48)) : Option (Bool) := (mem_New.f k 1 1 1).bind fun bt303 => (if bt303.1 = true then ((gangwaylaw9_num.f bt303.2.2.2).bind fun t310 => (if t310 = 0 then (gangwaylaw9_MemBounds.l0 k 0 a0_0 a0_1 a0_2 l0_3 bt303.2.1 bt303.2.2.1) else (none))) else (none))
theorem gangwaylaw9_MemBounds.mono_l : ∀ k, (∀ y0 y1 y2 y3 y4 y5 y6, LeO (gangwaylaw9_MemBounds.l0 k y0 y1 y2 y3 y4 y5 y6) (gangwaylaw9_MemBounds.l0 (k + 1) y0 y1 y2 y3 y4 y5 y6)) ∧ (∀ y0 y1 y2 y3 y4 y5 y6 y7 y8, LeO (gangwaylaw9_MemBounds.l1 k y0 y1 y2 y3 y4 y5 y6 y7 y8) (gangwaylaw9_MemBounds.l1 (k + 1) y0 y1 y2 y3 y4 y5 y6 y7 y8))
  | 0 => ⟨fun _ _ _ _ _ _ _ r h => by simp [gangwaylaw9_MemBounds.l0] at h, fun _ _ _ _ _ _ _ _ _ r h => by simp [gangwaylaw9_MemBounds.l1] at h⟩
  | k + 1 => by
    obtain ⟨ih0, ih1⟩ := gangwaylaw9_MemBounds.mono_l k
    refine ⟨?_, ?_⟩
    · intro y0 y1 y2 y3 y4 y5 y6
      unfold gangwaylaw9_MemBounds.l0
      repeat' first
      | (with_reducible exact ih0 _ _ _ _ _ _ _)
      | (with_reducible exact ih1 _ _ _ _ _ _ _ _ _)
      | (with_reducible exact gangwaylaw9_wakes.mono _)
      | (with_reducible exact mem_Memory_Load.mono _ _ _ _ _ _)
      | (with_reducible exact mem_New.mono _ _ _ _)
      | (with_reducible exact LeO.refl _)
      | (with_reducible exact LeO.none _)
      | (with_reducible refine LeO.ite ?_ ?_)
      | (with_reducible refine LeO.bind ?_ (fun _ => ?_))
      | exact ih0 _ _ _ _ _ _ _
      | exact ih1 _ _ _ _ _ _ _ _ _
      | exact gangwaylaw9_wakes.mono _
      | exact mem_Memory_Load.mono _ _ _ _ _ _
      | exact mem_New.mono _ _ _ _
      | exact LeO.none _
      | refine LeO.ite ?_ ?_
      | refine LeO.bind ?_ (fun _ => ?_)
    · intro y0 y1 y2 y3 y4 y5 y6 y7 y8
      unfold gangwaylaw9_MemBounds.l1
      repeat' first
      | (with_reducible exact ih0 _ _ _ _ _ _ _)
      | (with_reducible exact ih1 _ _ _ _ _ _ _ _ _)
      | (with_reducible exact gangwaylaw9_wakes.mono _)
      | (with_reducible exact mem_Memory_Load.mono _ _ _ _ _ _)
      | (with_reducible exact mem_New.mono _ _ _ _)
      | (with_reducible exact LeO.refl _)
      | (with_reducible exact LeO.none _)
      | (with_reducible refine LeO.ite ?_ ?_)
      | (with_reducible refine LeO.bind ?_ (fun _ => ?_))
      | exact ih0 _ _ _ _ _ _ _
      | exact ih1 _ _ _ _ _ _ _ _ _
      | exact gangwaylaw9_wakes.mono _
      | exact mem_Memory_Load.mono _ _ _ _ _ _
      | exact mem_New.mono _ _ _ _
      | exact LeO.none _
      | refine LeO.ite ?_ ?_
      | refine LeO.bind ?_ (fun _ => ?_)
theorem gangwaylaw9_MemBounds.mono : ∀ a0 a1 a2 a3 k, LeO (gangwaylaw9_MemBounds.f k a0 a1 a2 a3) (gangwaylaw9_MemBounds.f (k + 1) a0 a1 a2 a3) := by
  intro a0 a1 a2 a3 k
  obtain ⟨ih0, ih1⟩ := gangwaylaw9_MemBounds.mono_l k
  unfold gangwaylaw9_MemBounds.f
  repeat' first
      | (with_reducible exact ih0 _ _ _ _ _ _ _)
      | (with_reducible exact ih1 _ _ _ _ _ _ _ _ _)
      | (with_reducible exact gangwaylaw9_wakes.mono _)
      | (with_reducible exact mem_Memory_Load.mono _ _ _ _ _ _)
      | (with_reducible exact mem_New.mono _ _ _ _)
      | (with_reducible exact LeO.refl _)
      | (with_reducible exact LeO.none _)
      | (with_reducible refine LeO.ite ?_ ?_)
      | (with_reducible refine LeO.bind ?_ (fun _ => ?_))
      | exact ih0 _ _ _ _ _ _ _
      | exact ih1 _ _ _ _ _ _ _ _ _
      | exact gangwaylaw9_wakes.mono _
      | exact mem_Memory_Load.mono _ _ _ _ _ _
      | exact mem_New.mono _ _ _ _
      | exact LeO.none _
      | refine LeO.ite ?_ ?_
      | refine LeO.bind ?_ (fun _ => ?_)
set_option maxHeartbeats 8000000 in
set_option maxRecDepth 100000 in
theorem gangwaylaw9_MemBounds.calls (k : Nat) (a0_0 : Int) (a0_1 : Int) (a0_2 : Int) (A0_3 : Option Addr) (c0_3 : Nat) (l0_3 : List (S48)) (r : Bool) (w : World) (hr0_3 : Kd.C k48 w A0_3 l0_3.length l0_3) (hc0_3 : l0_3.length ≤ c0_3) (h : gangwaylaw9_MemBounds.f k a0_0 a0_1 a0_2 l0_3 = some r) :
    Calls Try.prog 4 #[.agg #[.int .i64 a0_0, .int .i64 a0_1, .int .i64 a0_2, .slice A0_3 l0_3.length c0_3]] w fun e w' => e = .returned (.bool r) ∧ Below w.heap.size w w' := by
  have hu26 := Try.underlying26
  have hu23 := Try.underlying23
  have HR0_3 := Aside0.mk hr0_3
  have HC0_3 := Aside0.mk hc0_3
  clear hr0_3 hc0_3
  have HB := Aside0.mk (Below.refl w.heap.size w)
  have H : ((mem_New.f k 1 1 1).bind fun bt303 => (if bt303.1 = true then ((gangwaylaw9_num.f bt303.2.2.2).bind fun t310 => (if t310 = 0 then (gangwaylaw9_MemBounds.l0 k 0 a0_0 a0_1 a0_2 l0_3 bt303.2.1 bt303.2.2.1) else (none))) else (none))) = some r := h
  clear h
  replace H := Option.bind_eq_some_iff.mp H
  obtain ⟨⟨t303, t304, t307, t309⟩, A20, H⟩ := H
  replace H : (if t303 = true then ((gangwaylaw9_num.f t309).bind fun t310 => (if t310 = 0 then (gangwaylaw9_MemBounds.l0 k 0 a0_0 a0_1 a0_2 l0_3 t304 t307) else (none))) else (none)) = some r := H
  have A2 := Aside0.mk A20
  clear A20
  by_cases c3 : t303 = true
  · subst c3
    have H1 : ((gangwaylaw9_num.f t309).bind fun t310 => (if t310 = 0 then (gangwaylaw9_MemBounds.l0 k 0 a0_0 a0_1 a0_2 l0_3 t304 t307) else (none))) = some r := by rw [if_pos rfl] at H; exact H
    clear H
    have H := H1
    clear H1
    replace H := Option.bind_eq_some_iff.mp H
    obtain ⟨t310, A40, H⟩ := H
    replace H : (if t310 = 0 then (gangwaylaw9_MemBounds.l0 k 0 a0_0 a0_1 a0_2 l0_3 t304 t307) else (none)) = some r := H
    have A4 := Aside0.mk A40
    clear A40
    by_cases c5 : t310 = 0
    · rw [if_pos c5] at H
      have c5b0 : (t310 == 0) = true := beq_iff_eq.mpr c5
      have c5b1 : (t310 != 0) = false := bne_eq_false_iff_eq.mpr c5
      clear c5
      have H' := Aside0.mk H
      clear H
      go_enter Try.func4, Try.ntmps4
      go_wp2_with (first | ((with_reducible refine gate_dst (N := 1) rfl ?_); (try (refine gate_guard (by rfl) ?_; dsimp only)); refine box_event ?hg (N := 1) ?hd (cs := #[.int .i64 a0_0, .int .i64 a0_1, .int .i64 a0_2, .slice A0_3 l0_3.length c0_3]) (t := 26) ?hr ?_; (case hd => rfl); (case hg => rfl); (case hr => first | (go_simp; done) | (go_simp; rfl)); intro gb302 hg w6 hbox hb; have n0_ := Aside0.mk (below_step (by repeat (first | (with_reducible first | exact HB.out | apply below_alloc | apply pw_below_drewN | apply below_drew1) | exact HB.out)) hb); have n1_ := Aside0.mk (hbox); have n2_ := Aside0.mk ((by rw [hg]; exact (below_size (by repeat (first | (with_reducible first | exact HB.out | apply below_alloc | apply pw_below_drewN | apply below_drew1) | exact HB.out))) : w.heap.size ≤ gb302)); have n3_ := Aside0.mk ((by rw [hg]; exact (below_size (by repeat (first | (with_reducible first | exact HB.out | apply below_alloc | apply pw_below_drewN | apply below_drew1) | exact HB.out))) : w.heap.size ≤ gb302)); clear HB; have HB := n0_; have BK302 := n1_; have GW302 := n2_; have GE302 := n3_; clear n0_ n1_ n2_ n3_; clear hb hbox hg) | ((with_reducible refine gate_callee (f := 7) rfl ?_); refine goesL_ (some 25) rfl rfl Try.func7 (by kernel_rfl) rfl #[.agg #[.int .i64 1, .int .i64 1], .int .i64 1] rfl (by (try simp only [List.map_toArray, List.map_cons, List.map_nil]); first | done | rfl | (simp only [List.length_drop, List.length_take]; rfl)) ?_; (with_reducible refine (mem_New.calls k 1 1 1 true t304 t307 t309 _ A2.out).mono ?_); rintro e w7 ⟨v305, pz308, rfl, ho0, hz308, hb⟩; refine ⟨_, rfl, ?_⟩; have n0_ := Aside0.mk (Kd.R_lower ho0 (below_size (by repeat (first | (with_reducible first | exact HB.out | apply below_alloc | apply pw_below_drewN | apply below_drew1 | refine below_set ?_ GE302.out) | exact HB.out)))); have n1_ := Aside0.mk (blk_below (g := gb302) (o := .cells #[.int .i64 a0_0, .int .i64 a0_1, .int .i64 a0_2, .slice A0_3 l0_3.length c0_3] 26 (0, 0)) (by (with_reducible repeat (first | refine blk_drewN ?_ _ | refine blk_drew ?_ | refine blk_alloc ?_ _)); exact BK302.out) hb); have n2_ := Aside0.mk ((show (true = true → ∃ g_ : Nat, pz308 = .pointer (some ⟨g_, 0, none⟩) ∧ IsS61 w w7 g_ v305 t307 ∧ gb302 ≠ g_) ∧ (true = false → pz308 = .pointer none) from ⟨fun h_ => (hz308.1 h_).elim fun g_ hg_ => ⟨g_, hg_.1, hg_.2.lower ((below_size (by repeat (first | (with_reducible first | exact HB.out | apply below_alloc | apply pw_below_drewN | apply below_drew1 | refine below_set ?_ GE302.out) | exact HB.out)))), Nat.ne_of_lt (Nat.lt_of_lt_of_le (blk_lt (g := gb302) (o := .cells #[.int .i64 a0_0, .int .i64 a0_1, .int .i64 a0_2, .slice A0_3 l0_3.length c0_3] 26 (0, 0)) (by (with_reducible repeat (first | refine blk_drewN ?_ _ | refine blk_drew ?_ | refine blk_alloc ?_ _)); exact BK302.out)) hg_.2.ge)⟩, hz308.2⟩)); have n3_ := Aside0.mk (below_step (by repeat (first | (with_reducible first | exact HB.out | apply below_alloc | apply pw_below_drewN | apply below_drew1 | refine below_set ?_ GE302.out) | exact HB.out)) hb); clear BK302; clear HB; have HO306 := n0_; have BK302 := n1_; have HZ308 := n2_; have HB := n3_; clear n0_ n1_ n2_ n3_; (try clear hb); (try clear hb2); (try clear hk); (try clear hi); (try clear ho0); obtain ⟨g308, e_, hi_, hn0_⟩ := HZ308.out.1 rfl; subst e_; have HI308 := Aside0.mk hi_; clear hi_ HZ308; have NB302_308 := Aside0.mk hn0_; have NB308_302 := Aside0.mk (Ne.symm hn0_); clear hn0_) | ((with_reducible refine gate_callee (f := 8) rfl ?_); refine goesL_ (some 29) rfl rfl Try.func8 (by kernel_rfl) rfl #[.int .i64 t309] rfl (by (try simp only [List.map_toArray, List.map_cons, List.map_nil]); first | done | rfl | (simp only [List.length_drop, List.length_take]; rfl)) ?_; (with_reducible refine (gangwaylaw9_num.calls t309 t310 _ A4.out).mono ?_); rintro e w' ⟨rfl, ⟨nd, rfl⟩⟩; refine ⟨_, rfl, ?_⟩))
      go_loopg [6] k (fun kq v6 w' => ∃ (x6_1 : Int) (x309000_1 : List Int) (x309001_1 : Int) (u309000 : Value), v6 = .int .i64 x6_1 ∧ Aside0 (gangwaylaw9_MemBounds.l0 kq x6_1 a0_0 a0_1 a0_2 l0_3 x309000_1 x309001_1 = some r) ∧ Aside0 (kq ≤ k) ∧ Aside0 (Kd.R (Kd.int .u8) 5 w' w.heap.size (fun _ => True) u309000 x309000_1) ∧ Aside0 (w'.heap[gb302]? = some (.cells #[.int .i64 a0_0, .int .i64 a0_1, .int .i64 a0_2, (.slice A0_3 l0_3.length c0_3)] 26 (0, 0))) ∧ Aside0 (IsS61 w w' g308 u309000 x309001_1) ∧ Aside0 (Below w.heap.size w w'))
      case atStart => exact ⟨(0), (t304), (t307), (v305), (by first | rfl | (simp; done) | (simp [*]; done)), H', ⟨Nat.le_refl _⟩, ⟨by (with_reducible repeat (first | apply Kd.R_alloc | apply Kd.R_drewN | apply Kd.R_drew)); exact HO306.out⟩, ⟨by (with_reducible repeat (first | refine blk_drewN ?_ _ | refine blk_drew ?_ | refine blk_alloc ?_ _)); exact BK302.out⟩, ⟨by repeat (first | (with_reducible first | exact HI308.out | apply IsS61.alloc | apply IsS61.drewN | apply IsS61.drew | apply IsS61.set_0 | apply IsS61.set_1 | refine IsS61.far ?_ NB308_302.out _) | exact HI308.out)⟩, ⟨by repeat (first | (with_reducible first | exact HB.out | apply below_alloc | apply pw_below_drewN | apply below_drew1 | refine below_set ?_ (IsS61.ge HI308.out) | refine below_set ?_ GE302.out) | exact HB.out)⟩⟩
      case round =>
        clear H'
        try clear p2
        try clear c3
        try clear c4
        try clear c5
        try clear c5b0
        try clear c5b1
        try clear c7
        obtain ⟨x6_1, x309000_1, x309001_1, u309000, rfl, HA, HK1, HO_309000, BK302, HI308, HB⟩ := hrel
        cases gk with
        | zero => exact absurd HA.out (by simp [gangwaylaw9_MemBounds.l0])
        | succ k1 =>
          have H := HA.out
          clear HA
          simp only [gangwaylaw9_MemBounds.l0] at H
          by_cases c8 : x6_1 < 4
          · rw [if_pos c8] at H
            have c8b0 : decide (x6_1 < 4) = true := decide_eq_true c8
            clear c8
            by_cases c9 : 0 ≤ x6_1
            · rw [if_pos c9] at H
              have c9b0 := eq_true c9
              have c9b1 : decide (0 ≤ x6_1) = true := decide_eq_true c9
              clear c9
              obtain ⟨ji10, hji10⟩ : ∃ j_ : Int, (shl .i64 1 x6_1) = j_ := ⟨_, rfl⟩
              replace H : (gangwaylaw9_MemBounds.l1 k1 x6_1 ji10 (-2) a0_0 a0_1 a0_2 l0_3 x309000_1 x309001_1) = some r := by first | (rw [hji10] at H; exact H) | (simp only [hji10] at H ⊢; exact H)
              have hji10_ : (IntKind.i64.wrap (1 * 2 ^ min x6_1.toNat 64)) = ji10 := hji10
              have hji10z : x6_1 ≤ 64 → (IntKind.i64.wrap (1 * 2 ^ x6_1.toNat)) = ji10 := shl_small hji10
              have hji10u : (IntKind.i64.wrap (2 ^ min x6_1.toNat 64)) = ji10 := by have h_ := hji10_; rw [Int.one_mul] at h_; exact h_
              have hji10v : x6_1 ≤ 64 → (IntKind.i64.wrap (2 ^ x6_1.toNat)) = ji10 := fun hle_ => by have h_ := hji10z hle_; rw [Int.one_mul] at h_; exact h_
              have hji10y : (wrap64 (1 * 2 ^ min x6_1.toNat 64)) = ji10 := (i64_w _).symm.trans hji10_
              have hji10x : x6_1 ≤ 64 → (wrap64 (1 * 2 ^ x6_1.toNat)) = ji10 := fun h_ => (i64_w _).symm.trans (hji10z h_)
              have H' := Aside0.mk H
              clear H
              go_wp2
              go_loopg [8] k1 (fun kq v8 w' => ∃ (x8_2 : Int) (x309000_2 : List Int) (x309001_2 : Int) (u309000 : Value), v8 = .int .i64 x8_2 ∧ Aside0 (gangwaylaw9_MemBounds.l1 kq x6_1 ji10 x8_2 a0_0 a0_1 a0_2 l0_3 x309000_2 x309001_2 = some r) ∧ Aside0 (kq ≤ k1) ∧ Aside0 (Kd.R (Kd.int .u8) 5 w' w.heap.size (fun _ => True) u309000 x309000_2) ∧ Aside0 (w'.heap[gb302]? = some (.cells #[.int .i64 a0_0, .int .i64 a0_1, .int .i64 a0_2, (.slice A0_3 l0_3.length c0_3)] 26 (0, 0))) ∧ Aside0 (IsS61 w w' g308 u309000 x309001_2) ∧ Aside0 (Below w.heap.size w w'))
              case atStart => exact ⟨((-2)), (x309000_1), (x309001_1), (u309000), (by first | rfl | (simp; done) | (simp [*]; done)), H', ⟨Nat.le_refl _⟩, ⟨by (with_reducible repeat (first | apply Kd.R_alloc | apply Kd.R_drewN | apply Kd.R_drew)); exact HO_309000.out⟩, ⟨by (with_reducible repeat (first | refine blk_drewN ?_ _ | refine blk_drew ?_ | refine blk_alloc ?_ _)); exact BK302.out⟩, ⟨by repeat (first | (with_reducible first | exact HI308.out | apply IsS61.alloc | apply IsS61.drewN | apply IsS61.drew | apply IsS61.set_0 | apply IsS61.set_1 | refine IsS61.far ?_ NB308_302.out _) | exact HI308.out)⟩, ⟨by repeat (first | (with_reducible first | exact HB.out | apply below_alloc | apply pw_below_drewN | apply below_drew1 | refine below_set ?_ (IsS61.ge HI308.out) | refine below_set ?_ GE302.out) | exact HB.out)⟩⟩
              case round =>
                clear H'
                try clear p2
                try clear c3
                try clear c4
                try clear c5
                try clear c5b0
                try clear c5b1
                try clear p6
                try clear c7
                try clear c8
                try clear c8b0
                try clear c9
                try clear c9b0
                try clear c9b1
                try clear p2
                obtain ⟨x8_2, x309000_2, x309001_2, u309000, rfl, HA, HK2, HO_309000, BK302, HI308, HB⟩ := hrel
                cases gk with
                | zero => exact absurd HA.out (by simp [gangwaylaw9_MemBounds.l1])
                | succ k2 =>
                  have H := HA.out
                  clear HA
                  simp only [gangwaylaw9_MemBounds.l1] at H
                  by_cases c11 : x8_2 ≤ 2
                  · rw [if_pos c11] at H
                    have c11b0 : decide (x8_2 ≤ 2) = true := decide_eq_true c11
                    clear c11
                    replace H := Option.bind_eq_some_iff.mp H
                    obtain ⟨⟨t368, t369, t372⟩, A120, H⟩ := H
                    replace H : ((mem_Memory_Load.f k2 t369 t372 0 (wrap64 ((wrap64 (65536 - ji10)) + x8_2)) ji10).bind fun bt373 => ((mem_Memory_Read.f bt373.2.2.1 bt373.2.2.2 (wrap64 ((wrap64 (65536 - ji10)) + x8_2)) ji10).bind fun bt379 => (if 0 ≤ ji10 then (if (ji10 : Int).toNat ≤ 281474976710656 then ((mem_Memory_Write.f bt379.2.2.1 bt379.2.2.2 (wrap64 ((wrap64 (65536 - ji10)) + x8_2)) (List.replicate (ji10 : Int).toNat 0)).bind fun bt390 => ((gangwaylaw9_num.f t368).bind fun t395 => (if ((t395 == 0) != (decide (x8_2 ≤ 0))) = true then (none) else ((gangwaylaw9_num.f bt373.2.1).bind fun t396 => (if ((t396 == 0) != (decide (x8_2 ≤ 0))) = true then (none) else ((gangwaylaw9_num.f bt379.2.1).bind fun t397 => (if ((t397 == 0) != (decide (x8_2 ≤ 0))) = true then (none) else ((gangwaylaw9_num.f bt390.1).bind fun t398 => (if ((t398 == 0) != (decide (x8_2 ≤ 0))) = true then (none) else (gangwaylaw9_MemBounds.l1 k2 x6_1 ji10 (wrap64 (x8_2 + 1)) a0_0 a0_1 a0_2 l0_3 bt390.2.1 bt390.2.2)))))))))) else (none)) else (none)))) = some r := H
                    have A12 := Aside0.mk A120
                    clear A120
                    replace H := Option.bind_eq_some_iff.mp H
                    obtain ⟨⟨t373, t374, t375, t378⟩, A130, H⟩ := H
                    replace H : ((mem_Memory_Read.f t375 t378 (wrap64 ((wrap64 (65536 - ji10)) + x8_2)) ji10).bind fun bt379 => (if 0 ≤ ji10 then (if (ji10 : Int).toNat ≤ 281474976710656 then ((mem_Memory_Write.f bt379.2.2.1 bt379.2.2.2 (wrap64 ((wrap64 (65536 - ji10)) + x8_2)) (List.replicate (ji10 : Int).toNat 0)).bind fun bt390 => ((gangwaylaw9_num.f t368).bind fun t395 => (if ((t395 == 0) != (decide (x8_2 ≤ 0))) = true then (none) else ((gangwaylaw9_num.f t374).bind fun t396 => (if ((t396 == 0) != (decide (x8_2 ≤ 0))) = true then (none) else ((gangwaylaw9_num.f bt379.2.1).bind fun t397 => (if ((t397 == 0) != (decide (x8_2 ≤ 0))) = true then (none) else ((gangwaylaw9_num.f bt390.1).bind fun t398 => (if ((t398 == 0) != (decide (x8_2 ≤ 0))) = true then (none) else (gangwaylaw9_MemBounds.l1 k2 x6_1 ji10 (wrap64 (x8_2 + 1)) a0_0 a0_1 a0_2 l0_3 bt390.2.1 bt390.2.2)))))))))) else (none)) else (none))) = some r := H
                    have A13 := Aside0.mk A130
                    clear A130
                    replace H := Option.bind_eq_some_iff.mp H
                    obtain ⟨⟨t379, t382, t383, t386⟩, A140, H⟩ := H
                    replace H : (if 0 ≤ ji10 then (if (ji10 : Int).toNat ≤ 281474976710656 then ((mem_Memory_Write.f t383 t386 (wrap64 ((wrap64 (65536 - ji10)) + x8_2)) (List.replicate (ji10 : Int).toNat 0)).bind fun bt390 => ((gangwaylaw9_num.f t368).bind fun t395 => (if ((t395 == 0) != (decide (x8_2 ≤ 0))) = true then (none) else ((gangwaylaw9_num.f t374).bind fun t396 => (if ((t396 == 0) != (decide (x8_2 ≤ 0))) = true then (none) else ((gangwaylaw9_num.f t382).bind fun t397 => (if ((t397 == 0) != (decide (x8_2 ≤ 0))) = true then (none) else ((gangwaylaw9_num.f bt390.1).bind fun t398 => (if ((t398 == 0) != (decide (x8_2 ≤ 0))) = true then (none) else (gangwaylaw9_MemBounds.l1 k2 x6_1 ji10 (wrap64 (x8_2 + 1)) a0_0 a0_1 a0_2 l0_3 bt390.2.1 bt390.2.2)))))))))) else (none)) else (none)) = some r := H
                    have A14 := Aside0.mk A140
                    clear A140
                    by_cases c15 : 0 ≤ ji10
                    · rw [if_pos c15] at H
                      have c15b0 := eq_true c15
                      have c15b1 : decide (0 ≤ ji10) = true := decide_eq_true c15
                      clear c15
                      by_cases c16 : (ji10 : Int).toNat ≤ 281474976710656
                      · rw [if_pos c16] at H
                        have c16b0 := eq_true c16
                        have c16b1 : decide ((ji10 : Int).toNat ≤ 281474976710656) = true := decide_eq_true c16
                        clear c16
                        obtain ⟨y387, hy387⟩ : ∃ y_ : List Int, y_ = (List.replicate (ji10 : Int).toNat 0) := ⟨_, rfl⟩
                        replace H : ((mem_Memory_Write.f t383 t386 (wrap64 ((wrap64 (65536 - ji10)) + x8_2)) y387).bind fun bt390 => ((gangwaylaw9_num.f t368).bind fun t395 => (if ((t395 == 0) != (decide (x8_2 ≤ 0))) = true then (none) else ((gangwaylaw9_num.f t374).bind fun t396 => (if ((t396 == 0) != (decide (x8_2 ≤ 0))) = true then (none) else ((gangwaylaw9_num.f t382).bind fun t397 => (if ((t397 == 0) != (decide (x8_2 ≤ 0))) = true then (none) else ((gangwaylaw9_num.f bt390.1).bind fun t398 => (if ((t398 == 0) != (decide (x8_2 ≤ 0))) = true then (none) else (gangwaylaw9_MemBounds.l1 k2 x6_1 ji10 (wrap64 (x8_2 + 1)) a0_0 a0_1 a0_2 l0_3 bt390.2.1 bt390.2.2)))))))))) = some r := by first | (rw [hy387]; with_reducible exact H) | (have H2_ := (Option.bind_some _ _).symm.trans H; rw [hy387]; with_reducible exact H2_) | (have H2_ := (Option.bind_some _ _).symm.trans H; with_reducible exact H2_) | with_reducible exact H | (rw [hy387]; exact H) | exact H
                        have Ny387 := Aside0.mk hy387
                        clear hy387
                        replace H := Option.bind_eq_some_iff.mp H
                        obtain ⟨⟨t390, t391, t394⟩, A170, H⟩ := H
                        replace H : ((gangwaylaw9_num.f t368).bind fun t395 => (if ((t395 == 0) != (decide (x8_2 ≤ 0))) = true then (none) else ((gangwaylaw9_num.f t374).bind fun t396 => (if ((t396 == 0) != (decide (x8_2 ≤ 0))) = true then (none) else ((gangwaylaw9_num.f t382).bind fun t397 => (if ((t397 == 0) != (decide (x8_2 ≤ 0))) = true then (none) else ((gangwaylaw9_num.f t390).bind fun t398 => (if ((t398 == 0) != (decide (x8_2 ≤ 0))) = true then (none) else (gangwaylaw9_MemBounds.l1 k2 x6_1 ji10 (wrap64 (x8_2 + 1)) a0_0 a0_1 a0_2 l0_3 t391 t394))))))))) = some r := H
                        have A17 := Aside0.mk A170
                        clear A170
                        replace H := Option.bind_eq_some_iff.mp H
                        obtain ⟨t395, A180, H⟩ := H
                        replace H : (if ((t395 == 0) != (decide (x8_2 ≤ 0))) = true then (none) else ((gangwaylaw9_num.f t374).bind fun t396 => (if ((t396 == 0) != (decide (x8_2 ≤ 0))) = true then (none) else ((gangwaylaw9_num.f t382).bind fun t397 => (if ((t397 == 0) != (decide (x8_2 ≤ 0))) = true then (none) else ((gangwaylaw9_num.f t390).bind fun t398 => (if ((t398 == 0) != (decide (x8_2 ≤ 0))) = true then (none) else (gangwaylaw9_MemBounds.l1 k2 x6_1 ji10 (wrap64 (x8_2 + 1)) a0_0 a0_1 a0_2 l0_3 t391 t394)))))))) = some r := H
                        have A18 := Aside0.mk A180
                        clear A180
                        by_cases c19 : ((t395 == 0) != (decide (x8_2 ≤ 0))) = true
                        · rw [if_pos c19] at H
                          exact absurd H (by simp)
                        · rw [if_neg c19] at H
                          have c19b0 : ((t395 == 0) != (decide (x8_2 ≤ 0))) = false := by simpa using c19
                          (try (have c19b1 : decide ((t395 == 0) = (decide (x8_2 ≤ 0))) = true := by simpa using c19))
                          (try (have c19b2 : ((t395 == 0) == (decide (x8_2 ≤ 0))) = true := by simpa using c19))
                          clear c19
                          replace H := Option.bind_eq_some_iff.mp H
                          obtain ⟨t396, A200, H⟩ := H
                          replace H : (if ((t396 == 0) != (decide (x8_2 ≤ 0))) = true then (none) else ((gangwaylaw9_num.f t382).bind fun t397 => (if ((t397 == 0) != (decide (x8_2 ≤ 0))) = true then (none) else ((gangwaylaw9_num.f t390).bind fun t398 => (if ((t398 == 0) != (decide (x8_2 ≤ 0))) = true then (none) else (gangwaylaw9_MemBounds.l1 k2 x6_1 ji10 (wrap64 (x8_2 + 1)) a0_0 a0_1 a0_2 l0_3 t391 t394)))))) = some r := H
                          have A20 := Aside0.mk A200
                          clear A200
                          by_cases c21 : ((t396 == 0) != (decide (x8_2 ≤ 0))) = true
                          · rw [if_pos c21] at H
                            exact absurd H (by simp)
                          · rw [if_neg c21] at H
                            have c21b0 : ((t396 == 0) != (decide (x8_2 ≤ 0))) = false := by simpa using c21
                            (try (have c21b1 : decide ((t396 == 0) = (decide (x8_2 ≤ 0))) = true := by simpa using c21))
                            (try (have c21b2 : ((t396 == 0) == (decide (x8_2 ≤ 0))) = true := by simpa using c21))
                            clear c21
                            replace H := Option.bind_eq_some_iff.mp H
                            obtain ⟨t397, A220, H⟩ := H
                            replace H : (if ((t397 == 0) != (decide (x8_2 ≤ 0))) = true then (none) else ((gangwaylaw9_num.f t390).bind fun t398 => (if ((t398 == 0) != (decide (x8_2 ≤ 0))) = true then (none) else (gangwaylaw9_MemBounds.l1 k2 x6_1 ji10 (wrap64 (x8_2 + 1)) a0_0 a0_1 a0_2 l0_3 t391 t394)))) = some r := H
                            have A22 := Aside0.mk A220
                            clear A220
                            by_cases c23 : ((t397 == 0) != (decide (x8_2 ≤ 0))) = true
                            · rw [if_pos c23] at H
                              exact absurd H (by simp)
                            · rw [if_neg c23] at H
                              have c23b0 : ((t397 == 0) != (decide (x8_2 ≤ 0))) = false := by simpa using c23
                              (try (have c23b1 : decide ((t397 == 0) = (decide (x8_2 ≤ 0))) = true := by simpa using c23))
                              (try (have c23b2 : ((t397 == 0) == (decide (x8_2 ≤ 0))) = true := by simpa using c23))
                              clear c23
                              replace H := Option.bind_eq_some_iff.mp H
                              obtain ⟨t398, A240, H⟩ := H
                              replace H : (if ((t398 == 0) != (decide (x8_2 ≤ 0))) = true then (none) else (gangwaylaw9_MemBounds.l1 k2 x6_1 ji10 (wrap64 (x8_2 + 1)) a0_0 a0_1 a0_2 l0_3 t391 t394)) = some r := H
                              have A24 := Aside0.mk A240
                              clear A240
                              by_cases c25 : ((t398 == 0) != (decide (x8_2 ≤ 0))) = true
                              · rw [if_pos c25] at H
                                exact absurd H (by simp)
                              · rw [if_neg c25] at H
                                have c25b0 : ((t398 == 0) != (decide (x8_2 ≤ 0))) = false := by simpa using c25
                                (try (have c25b1 : decide ((t398 == 0) = (decide (x8_2 ≤ 0))) = true := by simpa using c25))
                                (try (have c25b2 : ((t398 == 0) == (decide (x8_2 ≤ 0))) = true := by simpa using c25))
                                clear c25
                                have H' := Aside0.mk H
                                clear H
                                go_wp2_with (first | ((with_reducible refine gate_callee (f := 12) rfl ?_); refine goesL_ (some 53) rfl rfl Try.func12 (by kernel_rfl) rfl #[.pointer (some ⟨g308, 0, none⟩), .int .i64 (wrap64 ((wrap64 (65536 - ji10)) + x8_2)), .int .i64 0, .int .i64 ji10, .int .u64 0] rfl (by (try simp only [List.map_toArray, List.map_cons, List.map_nil]); first | done | (simp only [hji10]; rfl) | rfl | (simp only [List.length_drop, List.length_take]; rfl)) ?_; (with_reducible refine (mem_Memory_Store.calls g308 (fun k_ => some k_ = (u309000 : Value).ownBlock) u309000 x309000_2 x309001_2 (wrap64 ((wrap64 (65536 - ji10)) + x8_2)) 0 ji10 0 t368 t369 t372 w _ ?side1 ?side2 ?side3 A12.out).mono ?_); (case side1 => repeat (first | (with_reducible first | exact HI308.out | apply IsS61.alloc | apply IsS61.drewN | apply IsS61.drew | apply IsS61.set_0 | apply IsS61.set_1 | refine IsS61.far ?_ NB308_302.out _) | exact HI308.out)); (case side2 => repeat (first | (with_reducible first | exact HB.out | apply below_alloc | apply pw_below_drewN | apply below_drew1 | refine below_set ?_ (IsS61.ge HI308.out) | refine below_set ?_ GE302.out) | exact HB.out)); (case side3 => exact Kd.R_tight rfl HO_309000.out); rintro e w26 ⟨v370, rfl, ho0, hi, hb, hkp⟩; refine ⟨_, rfl, ?_⟩; have n0_ := Aside0.mk (blk_kept (o := .cells #[.int .i64 a0_0, .int .i64 a0_1, .int .i64 a0_2, .slice A0_3 l0_3.length c0_3] 26 (0, 0)) (by (with_reducible repeat (first | refine blk_drewN ?_ _ | refine blk_drew ?_ | refine blk_alloc ?_ _)); exact BK302.out) hkp (fun hs_ => Or.elim hs_ (fun hs_ => (fun e_ => (Kd.R_ne HO_309000.out BK302.out (by decide)) e_) hs_) (fun e_ => NB302_308.out e_))); have n1_ := Aside0.mk (hi); have n2_ := Aside0.mk (Kd.R_mono (ok' := fun k_ => True) ho0 (fun k_ hk_ => trivial)); have n3_ := Aside0.mk (hb); clear BK302; clear HI308; clear HB; clear HO_309000; have BK302 := n0_; have HI308 := n1_; have HO371 := n2_; have HB := n3_; clear n0_ n1_ n2_ n3_; (try clear hb); (try clear hkp); (try clear ho0)) | ((with_reducible refine gate_callee (f := 11) rfl ?_); refine goesL_ (some 58) rfl rfl Try.func11 (by kernel_rfl) rfl #[.pointer (some ⟨g308, 0, none⟩), .int .i64 0, .int .i64 (wrap64 ((wrap64 (65536 - ji10)) + x8_2)), .int .i64 ji10] rfl (by (try simp only [List.map_toArray, List.map_cons, List.map_nil]); first | done | (simp only [hji10]; rfl) | rfl | (simp only [List.length_drop, List.length_take]; rfl)) ?_; (with_reducible refine (mem_Memory_Load.calls k2 g308 (fun k_ => some k_ = (v370 : Value).ownBlock) v370 t369 t372 0 (wrap64 ((wrap64 (65536 - ji10)) + x8_2)) ji10 t373 t374 t375 t378 w _ ?side1 ?side2 ?side3 A13.out).mono ?_); (case side1 => repeat (first | (with_reducible first | exact HI308.out | apply IsS61.alloc | apply IsS61.drewN | apply IsS61.drew | apply IsS61.set_0 | apply IsS61.set_1 | refine IsS61.far ?_ NB308_302.out _) | exact HI308.out)); (case side2 => repeat (first | (with_reducible first | exact HB.out | apply below_alloc | apply pw_below_drewN | apply below_drew1 | refine below_set ?_ (IsS61.ge HI308.out) | refine below_set ?_ GE302.out) | exact HB.out)); (case side3 => exact Kd.R_tight rfl HO371.out); rintro e w27 ⟨v376, rfl, ho0, hi, hb, hkp⟩; refine ⟨_, rfl, ?_⟩; have n0_ := Aside0.mk (blk_kept (o := .cells #[.int .i64 a0_0, .int .i64 a0_1, .int .i64 a0_2, .slice A0_3 l0_3.length c0_3] 26 (0, 0)) (by (with_reducible repeat (first | refine blk_drewN ?_ _ | refine blk_drew ?_ | refine blk_alloc ?_ _)); exact BK302.out) hkp (fun hs_ => Or.elim hs_ (fun hs_ => (fun e_ => (Kd.R_ne HO371.out BK302.out (by decide)) e_) hs_) (fun e_ => NB302_308.out e_))); have n1_ := Aside0.mk (hi); have n2_ := Aside0.mk (Kd.R_mono (ok' := fun k_ => True) ho0 (fun k_ hk_ => trivial)); have n3_ := Aside0.mk (hb); clear BK302; clear HI308; clear HB; clear HO371; have BK302 := n0_; have HI308 := n1_; have HO377 := n2_; have HB := n3_; clear n0_ n1_ n2_ n3_; (try clear hb); (try clear hkp); (try clear ho0)) | ((with_reducible refine gate_callee (f := 14) rfl ?_); refine goesL_ (some 65) rfl rfl Try.func14 (by kernel_rfl) rfl #[.pointer (some ⟨g308, 0, none⟩), .int .i64 (wrap64 ((wrap64 (65536 - ji10)) + x8_2)), .int .i64 ji10] rfl (by (try simp only [List.map_toArray, List.map_cons, List.map_nil]); first | done | (simp only [hji10]; rfl) | rfl | (simp only [List.length_drop, List.length_take]; rfl)) ?_; (with_reducible refine (mem_Memory_Read.calls g308 (fun k_ => some k_ = (v376 : Value).ownBlock) v376 t375 t378 (wrap64 ((wrap64 (65536 - ji10)) + x8_2)) ji10 t379 t382 t383 t386 w _ ?side1 ?side2 ?side3 A14.out).mono ?_); (case side1 => repeat (first | (with_reducible first | exact HI308.out | apply IsS61.alloc | apply IsS61.drewN | apply IsS61.drew | apply IsS61.set_0 | apply IsS61.set_1 | refine IsS61.far ?_ NB308_302.out _) | exact HI308.out)); (case side2 => repeat (first | (with_reducible first | exact HB.out | apply below_alloc | apply pw_below_drewN | apply below_drew1 | refine below_set ?_ (IsS61.ge HI308.out) | refine below_set ?_ GE302.out) | exact HB.out)); (case side3 => exact Kd.R_tight rfl HO377.out); rintro e w28 ⟨v380, v384, rfl, ho0, ho1, hi, hb, hkp⟩; refine ⟨_, rfl, ?_⟩; have n0_ := Aside0.mk (blk_kept (o := .cells #[.int .i64 a0_0, .int .i64 a0_1, .int .i64 a0_2, .slice A0_3 l0_3.length c0_3] 26 (0, 0)) (by (with_reducible repeat (first | refine blk_drewN ?_ _ | refine blk_drew ?_ | refine blk_alloc ?_ _)); exact BK302.out) hkp (fun hs_ => Or.elim hs_ (fun hs_ => (fun e_ => (Kd.R_ne HO377.out BK302.out (by decide)) e_) hs_) (fun e_ => NB302_308.out e_))); have n1_ := Aside0.mk (hi); have n2_ := Aside0.mk (Kd.R_mono (ok' := fun k_ => some k_ ≠ (v384 : Value).ownBlock) ho0 (fun k_ hk_ => hk_.2)); have n3_ := Aside0.mk (Kd.R_mono (ok' := fun k_ => some k_ ≠ (v380 : Value).ownBlock) ho1 (fun k_ hk_ => hk_.2)); have n4_ := Aside0.mk (hb); clear BK302; clear HI308; clear HB; clear HO377; have BK302 := n0_; have HI308 := n1_; have HO381 := n2_; have HO385 := n3_; have HB := n4_; clear n0_ n1_ n2_ n3_ n4_; (try clear hb); (try clear hkp); (try clear ho0); (try clear ho1)) | ((with_reducible refine gate_dst (N := 71) rfl ?_); (try (refine gate_guard (by rfl) ?_; dsimp only)); refine Kd.R_make (Kd.int .u8) _ 5 rfl (N := 71) rfl 40 _ _ rfl ji10 rfl rfl Try.underlying40 (.int .u8 0) 1 info5 rfl (by decide) (by omega) 0 (ok := fun _ => True) (okp := fun _ => True) rfl (fun _ hk => hk) trivial (of_decide_eq_true (by first | (with_reducible assumption) | assumption)) (Nat.le_trans (Nat.mul_le_mul_right _ (of_decide_eq_true (by first | (with_reducible assumption) | assumption) : ji10.toNat ≤ 281474976710656)) (by omega)) (Below.refl _ _) (Nat.le_refl _) ?_; intro v388 w29 ho30 hb hg_ hnew_; clear hg_ hnew_; (first | rw [← Ny387.out] at ho30 | (simp only [Int.reduceToNat] at ho30; rw [← Ny387.out] at ho30)); have n0_ := Aside0.mk (Kd.R_elder' (by (with_reducible repeat (first | apply Kd.R_alloc | apply Kd.R_drewN | apply Kd.R_drew)); exact HO381.out) (Kd.R_base ho30) hb); have n1_ := Aside0.mk (Kd.R_elder' (by (with_reducible repeat (first | apply Kd.R_alloc | apply Kd.R_drewN | apply Kd.R_drew)); exact HO385.out) (Kd.R_base ho30) hb); have n2_ := Aside0.mk (Kd.R_lower (Kd.R_new' (Kd.R_new' ho30 (Kd.R_lt (by (with_reducible repeat (first | apply Kd.R_alloc | apply Kd.R_drewN | apply Kd.R_drew)); exact HO381.out))) (Kd.R_lt (by (with_reducible repeat (first | apply Kd.R_alloc | apply Kd.R_drewN | apply Kd.R_drew)); exact HO385.out))) (below_size (by repeat (first | (with_reducible first | exact HB.out | apply below_alloc | apply pw_below_drewN | apply below_drew1 | refine below_set ?_ (IsS61.ge HI308.out) | refine below_set ?_ GE302.out) | exact HB.out)))); have n3_ := Aside0.mk (blk_below (g := gb302) (o := .cells #[.int .i64 a0_0, .int .i64 a0_1, .int .i64 a0_2, .slice A0_3 l0_3.length c0_3] 26 (0, 0)) (by (with_reducible repeat (first | refine blk_drewN ?_ _ | refine blk_drew ?_ | refine blk_alloc ?_ _)); exact BK302.out) hb); have n4_ := Aside0.mk (IsS61.below (by repeat (first | (with_reducible first | exact HI308.out | apply IsS61.alloc | apply IsS61.drewN | apply IsS61.drew | apply IsS61.set_0 | apply IsS61.set_1 | refine IsS61.far ?_ NB308_302.out _) | exact HI308.out)) hb); have n5_ := Aside0.mk (below_step (by repeat (first | (with_reducible first | exact HB.out | apply below_alloc | apply pw_below_drewN | apply below_drew1 | refine below_set ?_ (IsS61.ge HI308.out) | refine below_set ?_ GE302.out) | exact HB.out)) hb); clear HO381; clear HO385; clear BK302; clear HI308; clear HB; have HO381 := n0_; have HO385 := n1_; have HO389 := n2_; have BK302 := n3_; have HI308 := n4_; have HB := n5_; clear n0_ n1_ n2_ n3_ n4_ n5_; clear hb ho30; obtain ⟨Ao31, co31, eo31⟩ := Kd.R_slice HO389.out; subst eo31) | ((with_reducible refine gate_callee (f := 15) rfl ?_); refine goesL_ (some 72) rfl rfl Try.func15 (by kernel_rfl) rfl #[.pointer (some ⟨g308, 0, none⟩), .int .i64 (wrap64 ((wrap64 (65536 - ji10)) + x8_2)), .slice Ao31 y387.length co31] rfl (by (try simp only [List.map_toArray, List.map_cons, List.map_nil]); first | done | (simp only [hji10]; rfl) | rfl | (simp only [List.length_drop, List.length_take]; rfl)) ?_; (with_reducible refine (mem_Memory_Write.calls g308 (fun k_ => some k_ = (v384 : Value).ownBlock) v384 t383 t386 (wrap64 ((wrap64 (65536 - ji10)) + x8_2)) _ _ y387 t390 t391 t394 w _ ?side1 ?side2 ?side3 ?side4 ?side5 A17.out).mono ?_); (case side1 => repeat (first | (with_reducible first | exact HI308.out | apply IsS61.alloc | apply IsS61.drewN | apply IsS61.drew | apply IsS61.set_0 | apply IsS61.set_1 | refine IsS61.far ?_ NB308_302.out _) | exact HI308.out)); (case side2 => repeat (first | (with_reducible first | exact HB.out | apply below_alloc | apply pw_below_drewN | apply below_drew1 | refine below_set ?_ (IsS61.ge HI308.out) | refine below_set ?_ GE302.out) | exact HB.out)); (case side3 => exact Kd.R_tight rfl HO385.out); (case side4 => exact Kd.C_kept_own ((IsS61.apart HI308.out HO389.out (by decide))) (fun k_ hk_ hs_ => Or.elim hs_ (fun hs_ => (hk_.1.2) hs_) (fun e_ => (hk_.2) e_))); (case side5 => exact (Kd.R_reads' HO389.out).2.1); rintro e w32 ⟨v392, rfl, ho0, hi, hb, hkp⟩; refine ⟨_, rfl, ?_⟩; have n0_ := Aside0.mk (blk_kept (o := .cells #[.int .i64 a0_0, .int .i64 a0_1, .int .i64 a0_2, .slice A0_3 l0_3.length c0_3] 26 (0, 0)) (by (with_reducible repeat (first | refine blk_drewN ?_ _ | refine blk_drew ?_ | refine blk_alloc ?_ _)); exact BK302.out) hkp (fun hs_ => Or.elim hs_ (fun hs_ => (fun e_ => (Kd.R_ne HO385.out BK302.out (by decide)) e_) hs_) (fun e_ => NB302_308.out e_))); have n1_ := Aside0.mk (hi); have n2_ := Aside0.mk (Kd.R_mono (ok' := fun k_ => some k_ ≠ (.slice Ao31 y387.length co31 : Value).ownBlock ∧ some k_ ≠ (v392 : Value).ownBlock) (Kd.R_keptB ((IsS61.apart HI308.out HO381.out (by decide))) hkp (fun k_ hk_ hs_ => Or.elim hs_ (fun hs_ => (hk_.1.1) hs_) (fun e_ => (hk_.2) e_))) (fun k_ hk_ => ⟨hk_.1.1.2, fun e_ => Or.elim (ho0.1 k_ e_.symm) (fun hs_ => hk_.2.1 (.inl hs_)) (fun hn_ => Nat.not_le.2 hk_.2.2 hn_)⟩)); have n3_ := Aside0.mk (Kd.R_mono (ok' := fun k_ => some k_ ≠ (v380 : Value).ownBlock ∧ some k_ ≠ (v392 : Value).ownBlock) (Kd.R_keptB ((IsS61.apart HI308.out HO389.out (by decide))) hkp (fun k_ hk_ hs_ => Or.elim hs_ (fun hs_ => (hk_.1.2) hs_) (fun e_ => (hk_.2) e_))) (fun k_ hk_ => ⟨hk_.1.1.1.2, fun e_ => Or.elim (ho0.1 k_ e_.symm) (fun hs_ => hk_.2.1 (.inl hs_)) (fun hn_ => Nat.not_le.2 hk_.2.2 hn_)⟩)); have n4_ := Aside0.mk (Kd.R_mono (ok' := fun k_ => some k_ ≠ (v380 : Value).ownBlock ∧ some k_ ≠ (.slice Ao31 y387.length co31 : Value).ownBlock) ho0 (fun k_ hk_ => ⟨Or.elim hk_ (fun hs_ => fun e_ => ((((IsS61.apart HI308.out HO381.out (by decide))).1 k_ e_.symm).1.1) hs_) (fun hn_ => (Kd.fresh' (Kd.R_lt (by (with_reducible repeat (first | apply Kd.R_alloc | apply Kd.R_drewN | apply Kd.R_drew)); exact HO381.out)) k_ hn_)), Or.elim hk_ (fun hs_ => fun e_ => ((((IsS61.apart HI308.out HO389.out (by decide))).1 k_ e_.symm).1.2) hs_) (fun hn_ => (Kd.fresh' (Kd.R_lt (by (with_reducible repeat (first | apply Kd.R_alloc | apply Kd.R_drewN | apply Kd.R_drew)); exact HO389.out)) k_ hn_))⟩)); have n5_ := Aside0.mk (hb); clear BK302; clear HI308; clear HO381; clear HO389; clear HB; clear HO385; have BK302 := n0_; have HI308 := n1_; have HO381 := n2_; have HO389 := n3_; have HO393 := n4_; have HB := n5_; clear n0_ n1_ n2_ n3_ n4_ n5_; (try clear hb); (try clear hkp); (try clear ho0)) | ((with_reducible refine gate_callee (f := 8) rfl ?_); refine goesL_ (some 76) rfl rfl Try.func8 (by kernel_rfl) rfl #[.int .i64 t368] rfl (by (try simp only [List.map_toArray, List.map_cons, List.map_nil]); first | done | rfl | (simp only [List.length_drop, List.length_take]; rfl)) ?_; (with_reducible refine (gangwaylaw9_num.calls t368 t395 _ A18.out).mono ?_); rintro e w' ⟨rfl, ⟨nd, rfl⟩⟩; refine ⟨_, rfl, ?_⟩) | (go_at_call 8; (with_reducible refine (gangwaylaw9_num.calls t374 t396 _ A20.out).mono ?_); rintro e w' ⟨rfl, ⟨nd, rfl⟩⟩) | (go_at_call 8; (with_reducible refine (gangwaylaw9_num.calls t382 t397 _ A22.out).mono ?_); rintro e w' ⟨rfl, ⟨nd, rfl⟩⟩) | (go_at_call 8; (with_reducible refine (gangwaylaw9_num.calls t390 t398 _ A24.out).mono ?_); rintro e w' ⟨rfl, ⟨nd, rfl⟩⟩))
                                go_roundg k2
                                case measure => have := HK1.out; have := HK2.out; omega
                                case rel => exact ⟨(wrap64 (x8_2 + 1)), (t391), (t394), (v392), (by first | rfl | (simp; done) | (simp [*]; done)), H', ⟨by have := HK1.out; have := HK2.out; omega⟩, ⟨by (with_reducible repeat (first | apply Kd.R_alloc | apply Kd.R_drewN | apply Kd.R_drew)); exact Kd.R_mono HO393.out (fun _ hk => trivial)⟩, ⟨by (with_reducible repeat (first | refine blk_drewN ?_ _ | refine blk_drew ?_ | refine blk_alloc ?_ _)); exact BK302.out⟩, ⟨by repeat (first | (with_reducible first | exact HI308.out | apply IsS61.alloc | apply IsS61.drewN | apply IsS61.drew | apply IsS61.set_0 | apply IsS61.set_1 | refine IsS61.far ?_ NB308_302.out _) | exact HI308.out)⟩, ⟨by repeat (first | (with_reducible first | exact HB.out | apply below_alloc | apply pw_below_drewN | apply below_drew1 | refine below_set ?_ (IsS61.ge HI308.out) | refine below_set ?_ GE302.out) | exact HB.out)⟩⟩
                      · rw [if_neg c16] at H
                        exact absurd H (by simp)
                    · rw [if_neg c15] at H
                      exact absurd H (by simp)
                  · rw [if_neg c11] at H
                    have c11b0 : decide (x8_2 ≤ 2) = false := decide_eq_false c11
                    clear c11
                    have H' := Aside0.mk H
                    clear H
                    go_wp2
                    go_roundg k2
                    case measure => have := HK1.out; have := HK2.out; omega
                    case rel => exact ⟨(wrap64 (x6_1 + 1)), (x309000_2), (x309001_2), (u309000), (by first | rfl | (simp; done) | (simp [*]; done)), H', ⟨by have := HK1.out; have := HK2.out; omega⟩, ⟨by (with_reducible repeat (first | apply Kd.R_alloc | apply Kd.R_drewN | apply Kd.R_drew)); exact HO_309000.out⟩, ⟨by (with_reducible repeat (first | refine blk_drewN ?_ _ | refine blk_drew ?_ | refine blk_alloc ?_ _)); exact BK302.out⟩, ⟨by repeat (first | (with_reducible first | exact HI308.out | apply IsS61.alloc | apply IsS61.drewN | apply IsS61.drew | apply IsS61.set_0 | apply IsS61.set_1 | refine IsS61.far ?_ NB308_302.out _) | exact HI308.out)⟩, ⟨by repeat (first | (with_reducible first | exact HB.out | apply below_alloc | apply pw_below_drewN | apply below_drew1 | refine below_set ?_ (IsS61.ge HI308.out) | refine below_set ?_ GE302.out) | exact HB.out)⟩⟩
            · rw [if_neg c9] at H
              exact absurd H (by simp)
          · rw [if_neg c8] at H
            have c8b0 : decide (x6_1 < 4) = false := decide_eq_false c8
            clear c8
            replace H := Option.bind_eq_some_iff.mp H
            obtain ⟨⟨t399, t402, t403, t406⟩, A330, H⟩ := H
            replace H : ((mem_Memory_Read.f t403 t406 65537 0).bind fun bt407 => ((mem_Memory_Load.f k1 bt407.2.2.1 bt407.2.2.2 0 0 3).bind fun bt415 => ((gangwaylaw9_num.f t402).bind fun t421 => (if t421 = 0 then (if (t399.length : Int) = 0 then ((gangwaylaw9_num.f bt407.2.1).bind fun t422 => (if t422 = 21 then ((gangwaylaw9_num.f bt415.2.1).bind fun t423 => (if t423 = 100 then (if (l0_3.length : Int) ≥ 0 then ((gangwaylaw9_wakes.f k1).bind fun t424 => (some t424)) else (none)) else (none))) else (none))) else (none)) else (none))))) = some r := H
            have A33 := Aside0.mk A330
            clear A330
            replace H := Option.bind_eq_some_iff.mp H
            obtain ⟨⟨t407, t410, t411, t414⟩, A340, H⟩ := H
            replace H : ((mem_Memory_Load.f k1 t411 t414 0 0 3).bind fun bt415 => ((gangwaylaw9_num.f t402).bind fun t421 => (if t421 = 0 then (if (t399.length : Int) = 0 then ((gangwaylaw9_num.f t410).bind fun t422 => (if t422 = 21 then ((gangwaylaw9_num.f bt415.2.1).bind fun t423 => (if t423 = 100 then (if (l0_3.length : Int) ≥ 0 then ((gangwaylaw9_wakes.f k1).bind fun t424 => (some t424)) else (none)) else (none))) else (none))) else (none)) else (none)))) = some r := H
            have A34 := Aside0.mk A340
            clear A340
            replace H := Option.bind_eq_some_iff.mp H
            obtain ⟨⟨t415, t416, t417, t420⟩, A350, H⟩ := H
            replace H : ((gangwaylaw9_num.f t402).bind fun t421 => (if t421 = 0 then (if (t399.length : Int) = 0 then ((gangwaylaw9_num.f t410).bind fun t422 => (if t422 = 21 then ((gangwaylaw9_num.f t416).bind fun t423 => (if t423 = 100 then (if (l0_3.length : Int) ≥ 0 then ((gangwaylaw9_wakes.f k1).bind fun t424 => (some t424)) else (none)) else (none))) else (none))) else (none)) else (none))) = some r := H
            have A35 := Aside0.mk A350
            clear A350
            replace H := Option.bind_eq_some_iff.mp H
            obtain ⟨t421, A360, H⟩ := H
            replace H : (if t421 = 0 then (if (t399.length : Int) = 0 then ((gangwaylaw9_num.f t410).bind fun t422 => (if t422 = 21 then ((gangwaylaw9_num.f t416).bind fun t423 => (if t423 = 100 then (if (l0_3.length : Int) ≥ 0 then ((gangwaylaw9_wakes.f k1).bind fun t424 => (some t424)) else (none)) else (none))) else (none))) else (none)) else (none)) = some r := H
            have A36 := Aside0.mk A360
            clear A360
            by_cases c37 : t421 = 0
            · rw [if_pos c37] at H
              have c37b0 : (t421 == 0) = true := beq_iff_eq.mpr c37
              have c37b1 : (t421 != 0) = false := bne_eq_false_iff_eq.mpr c37
              clear c37
              by_cases c38 : (t399.length : Int) = 0
              · rw [if_pos c38] at H
                have c38b0 : ((t399.length : Int) == 0) = true := beq_iff_eq.mpr c38
                have c38b1 : ((t399.length : Int) != 0) = false := bne_eq_false_iff_eq.mpr c38
                clear c38
                replace H := Option.bind_eq_some_iff.mp H
                obtain ⟨t422, A390, H⟩ := H
                replace H : (if t422 = 21 then ((gangwaylaw9_num.f t416).bind fun t423 => (if t423 = 100 then (if (l0_3.length : Int) ≥ 0 then ((gangwaylaw9_wakes.f k1).bind fun t424 => (some t424)) else (none)) else (none))) else (none)) = some r := H
                have A39 := Aside0.mk A390
                clear A390
                by_cases c40 : t422 = 21
                · rw [if_pos c40] at H
                  have c40b0 : (t422 == 21) = true := beq_iff_eq.mpr c40
                  have c40b1 : (t422 != 21) = false := bne_eq_false_iff_eq.mpr c40
                  clear c40
                  replace H := Option.bind_eq_some_iff.mp H
                  obtain ⟨t423, A410, H⟩ := H
                  replace H : (if t423 = 100 then (if (l0_3.length : Int) ≥ 0 then ((gangwaylaw9_wakes.f k1).bind fun t424 => (some t424)) else (none)) else (none)) = some r := H
                  have A41 := Aside0.mk A410
                  clear A410
                  by_cases c42 : t423 = 100
                  · rw [if_pos c42] at H
                    have c42b0 : (t423 == 100) = true := beq_iff_eq.mpr c42
                    have c42b1 : (t423 != 100) = false := bne_eq_false_iff_eq.mpr c42
                    clear c42
                    by_cases c43 : (l0_3.length : Int) ≥ 0
                    · rw [if_pos c43] at H
                      have c43b0 : decide (0 ≤ (l0_3.length : Int)) = true := decide_eq_true c43
                      have c43b1 : decide (0 ≤ l0_3.length) = true := decide_eq_true (by omega)
                      clear c43
                      replace H := Option.bind_eq_some_iff.mp H
                      obtain ⟨t424, A440, H⟩ := H
                      replace H : (some t424) = some r := H
                      have A44 := Aside0.mk A440
                      clear A440
                      obtain rfl := Option.some.inj H
                      go_wp2_with (first | ((with_reducible refine gate_callee (f := 14) rfl ?_); refine goesL_ (some 104) rfl rfl Try.func14 (by kernel_rfl) rfl #[.pointer (some ⟨g308, 0, none⟩), .int .i64 65536, .int .i64 0] rfl (by (try simp only [List.map_toArray, List.map_cons, List.map_nil]); first | done | rfl | (simp only [List.length_drop, List.length_take]; rfl)) ?_; (with_reducible refine (mem_Memory_Read.calls g308 (fun k_ => some k_ = (u309000 : Value).ownBlock) u309000 x309000_1 x309001_1 65536 0 t399 t402 t403 t406 w _ ?side1 ?side2 ?side3 A33.out).mono ?_); (case side1 => repeat (first | (with_reducible first | exact HI308.out | apply IsS61.alloc | apply IsS61.drewN | apply IsS61.drew | apply IsS61.set_0 | apply IsS61.set_1 | refine IsS61.far ?_ NB308_302.out _) | exact HI308.out)); (case side2 => repeat (first | (with_reducible first | exact HB.out | apply below_alloc | apply pw_below_drewN | apply below_drew1 | refine below_set ?_ (IsS61.ge HI308.out) | refine below_set ?_ GE302.out) | exact HB.out)); (case side3 => exact Kd.R_tight rfl HO_309000.out); rintro e w45 ⟨v400, v404, rfl, ho0, ho1, hi, hb, hkp⟩; refine ⟨_, rfl, ?_⟩; have n0_ := Aside0.mk (blk_kept (o := .cells #[.int .i64 a0_0, .int .i64 a0_1, .int .i64 a0_2, .slice A0_3 l0_3.length c0_3] 26 (0, 0)) (by (with_reducible repeat (first | refine blk_drewN ?_ _ | refine blk_drew ?_ | refine blk_alloc ?_ _)); exact BK302.out) hkp (fun hs_ => Or.elim hs_ (fun hs_ => (fun e_ => (Kd.R_ne HO_309000.out BK302.out (by decide)) e_) hs_) (fun e_ => NB302_308.out e_))); have n1_ := Aside0.mk (hi); have n2_ := Aside0.mk (Kd.R_mono (ok' := fun k_ => some k_ ≠ (v404 : Value).ownBlock) ho0 (fun k_ hk_ => hk_.2)); have n3_ := Aside0.mk (Kd.R_mono (ok' := fun k_ => some k_ ≠ (v400 : Value).ownBlock) ho1 (fun k_ hk_ => hk_.2)); have n4_ := Aside0.mk (hb); clear BK302; clear HI308; clear HB; clear HO_309000; have BK302 := n0_; have HI308 := n1_; have HO401 := n2_; have HO405 := n3_; have HB := n4_; clear n0_ n1_ n2_ n3_ n4_; (try clear hb); (try clear hkp); (try clear ho0); (try clear ho1)) | ((with_reducible refine gate_callee (f := 14) rfl ?_); refine goesL_ (some 111) rfl rfl Try.func14 (by kernel_rfl) rfl #[.pointer (some ⟨g308, 0, none⟩), .int .i64 65537, .int .i64 0] rfl (by (try simp only [List.map_toArray, List.map_cons, List.map_nil]); first | done | rfl | (simp only [List.length_drop, List.length_take]; rfl)) ?_; (with_reducible refine (mem_Memory_Read.calls g308 (fun k_ => some k_ = (v404 : Value).ownBlock) v404 t403 t406 65537 0 t407 t410 t411 t414 w _ ?side1 ?side2 ?side3 A34.out).mono ?_); (case side1 => repeat (first | (with_reducible first | exact HI308.out | apply IsS61.alloc | apply IsS61.drewN | apply IsS61.drew | apply IsS61.set_0 | apply IsS61.set_1 | refine IsS61.far ?_ NB308_302.out _) | exact HI308.out)); (case side2 => repeat (first | (with_reducible first | exact HB.out | apply below_alloc | apply pw_below_drewN | apply below_drew1 | refine below_set ?_ (IsS61.ge HI308.out) | refine below_set ?_ GE302.out) | exact HB.out)); (case side3 => exact Kd.R_tight rfl HO405.out); rintro e w46 ⟨v408, v412, rfl, ho0, ho1, hi, hb, hkp⟩; refine ⟨_, rfl, ?_⟩; have n0_ := Aside0.mk (blk_kept (o := .cells #[.int .i64 a0_0, .int .i64 a0_1, .int .i64 a0_2, .slice A0_3 l0_3.length c0_3] 26 (0, 0)) (by (with_reducible repeat (first | refine blk_drewN ?_ _ | refine blk_drew ?_ | refine blk_alloc ?_ _)); exact BK302.out) hkp (fun hs_ => Or.elim hs_ (fun hs_ => (fun e_ => (Kd.R_ne HO405.out BK302.out (by decide)) e_) hs_) (fun e_ => NB302_308.out e_))); have n1_ := Aside0.mk (hi); have n2_ := Aside0.mk (Kd.R_mono (ok' := fun k_ => some k_ ≠ (v408 : Value).ownBlock ∧ some k_ ≠ (v412 : Value).ownBlock) (Kd.R_keptB ((IsS61.apart HI308.out HO401.out (by decide))) hkp (fun k_ hk_ hs_ => Or.elim hs_ (fun hs_ => (hk_.1) hs_) (fun e_ => (hk_.2) e_))) (fun k_ hk_ => ⟨fun e_ => Or.elim (ho0.1 k_ e_.symm).1 (fun hs_ => hk_.2.1 (.inl hs_)) (fun hn_ => Nat.not_le.2 hk_.2.2 hn_), fun e_ => Or.elim (ho1.1 k_ e_.symm).1 (fun hs_ => hk_.2.1 (.inl hs_)) (fun hn_ => Nat.not_le.2 hk_.2.2 hn_)⟩)); have n3_ := Aside0.mk (Kd.R_mono (ok' := fun k_ => some k_ ≠ (v412 : Value).ownBlock ∧ some k_ ≠ (v400 : Value).ownBlock) ho0 (fun k_ hk_ => ⟨hk_.2, Or.elim hk_.1 (fun hs_ => fun e_ => ((((IsS61.apart HI308.out HO401.out (by decide))).1 k_ e_.symm).1) hs_) (fun hn_ => (Kd.fresh' (Kd.R_lt (by (with_reducible repeat (first | apply Kd.R_alloc | apply Kd.R_drewN | apply Kd.R_drew)); exact HO401.out)) k_ hn_))⟩)); have n4_ := Aside0.mk (Kd.R_mono (ok' := fun k_ => some k_ ≠ (v408 : Value).ownBlock ∧ some k_ ≠ (v400 : Value).ownBlock) ho1 (fun k_ hk_ => ⟨hk_.2, Or.elim hk_.1 (fun hs_ => fun e_ => ((((IsS61.apart HI308.out HO401.out (by decide))).1 k_ e_.symm).1) hs_) (fun hn_ => (Kd.fresh' (Kd.R_lt (by (with_reducible repeat (first | apply Kd.R_alloc | apply Kd.R_drewN | apply Kd.R_drew)); exact HO401.out)) k_ hn_))⟩)); have n5_ := Aside0.mk (hb); clear BK302; clear HI308; clear HO401; clear HB; clear HO405; have BK302 := n0_; have HI308 := n1_; have HO401 := n2_; have HO409 := n3_; have HO413 := n4_; have HB := n5_; clear n0_ n1_ n2_ n3_ n4_ n5_; (try clear hb); (try clear hkp); (try clear ho0); (try clear ho1)) | ((with_reducible refine gate_callee (f := 11) rfl ?_); refine goesL_ (some 116) rfl rfl Try.func11 (by kernel_rfl) rfl #[.pointer (some ⟨g308, 0, none⟩), .int .i64 0, .int .i64 0, .int .i64 3] rfl (by (try simp only [List.map_toArray, List.map_cons, List.map_nil]); first | done | rfl | (simp only [List.length_drop, List.length_take]; rfl)) ?_; (with_reducible refine (mem_Memory_Load.calls k1 g308 (fun k_ => some k_ = (v412 : Value).ownBlock) v412 t411 t414 0 0 3 t415 t416 t417 t420 w _ ?side1 ?side2 ?side3 A35.out).mono ?_); (case side1 => repeat (first | (with_reducible first | exact HI308.out | apply IsS61.alloc | apply IsS61.drewN | apply IsS61.drew | apply IsS61.set_0 | apply IsS61.set_1 | refine IsS61.far ?_ NB308_302.out _) | exact HI308.out)); (case side2 => repeat (first | (with_reducible first | exact HB.out | apply below_alloc | apply pw_below_drewN | apply below_drew1 | refine below_set ?_ (IsS61.ge HI308.out) | refine below_set ?_ GE302.out) | exact HB.out)); (case side3 => exact Kd.R_tight rfl HO413.out); rintro e w47 ⟨v418, rfl, ho0, hi, hb, hkp⟩; refine ⟨_, rfl, ?_⟩; have n0_ := Aside0.mk (blk_kept (o := .cells #[.int .i64 a0_0, .int .i64 a0_1, .int .i64 a0_2, .slice A0_3 l0_3.length c0_3] 26 (0, 0)) (by (with_reducible repeat (first | refine blk_drewN ?_ _ | refine blk_drew ?_ | refine blk_alloc ?_ _)); exact BK302.out) hkp (fun hs_ => Or.elim hs_ (fun hs_ => (fun e_ => (Kd.R_ne HO413.out BK302.out (by decide)) e_) hs_) (fun e_ => NB302_308.out e_))); have n1_ := Aside0.mk (hi); have n2_ := Aside0.mk (Kd.R_mono (ok' := fun k_ => some k_ ≠ (v408 : Value).ownBlock ∧ some k_ ≠ (v418 : Value).ownBlock) (Kd.R_keptB ((IsS61.apart HI308.out HO401.out (by decide))) hkp (fun k_ hk_ hs_ => Or.elim hs_ (fun hs_ => (hk_.1.2) hs_) (fun e_ => (hk_.2) e_))) (fun k_ hk_ => ⟨hk_.1.1.1, fun e_ => Or.elim (ho0.1 k_ e_.symm) (fun hs_ => hk_.2.1 (.inl hs_)) (fun hn_ => Nat.not_le.2 hk_.2.2 hn_)⟩)); have n3_ := Aside0.mk (Kd.R_mono (ok' := fun k_ => some k_ ≠ (v400 : Value).ownBlock ∧ some k_ ≠ (v418 : Value).ownBlock) (Kd.R_keptB ((IsS61.apart HI308.out HO409.out (by decide))) hkp (fun k_ hk_ hs_ => Or.elim hs_ (fun hs_ => (hk_.1.1) hs_) (fun e_ => (hk_.2) e_))) (fun k_ hk_ => ⟨hk_.1.1.2, fun e_ => Or.elim (ho0.1 k_ e_.symm) (fun hs_ => hk_.2.1 (.inl hs_)) (fun hn_ => Nat.not_le.2 hk_.2.2 hn_)⟩)); have n4_ := Aside0.mk (Kd.R_mono (ok' := fun k_ => some k_ ≠ (v400 : Value).ownBlock ∧ some k_ ≠ (v408 : Value).ownBlock) ho0 (fun k_ hk_ => ⟨Or.elim hk_ (fun hs_ => fun e_ => ((((IsS61.apart HI308.out HO401.out (by decide))).1 k_ e_.symm).1.2) hs_) (fun hn_ => (Kd.fresh' (Kd.R_lt (by (with_reducible repeat (first | apply Kd.R_alloc | apply Kd.R_drewN | apply Kd.R_drew)); exact HO401.out)) k_ hn_)), Or.elim hk_ (fun hs_ => fun e_ => ((((IsS61.apart HI308.out HO409.out (by decide))).1 k_ e_.symm).1.1) hs_) (fun hn_ => (Kd.fresh' (Kd.R_lt (by (with_reducible repeat (first | apply Kd.R_alloc | apply Kd.R_drewN | apply Kd.R_drew)); exact HO409.out)) k_ hn_))⟩)); have n5_ := Aside0.mk (hb); clear BK302; clear HI308; clear HO401; clear HO409; clear HB; clear HO413; have BK302 := n0_; have HI308 := n1_; have HO401 := n2_; have HO409 := n3_; have HO419 := n4_; have HB := n5_; clear n0_ n1_ n2_ n3_ n4_ n5_; (try clear hb); (try clear hkp); (try clear ho0)) | ((with_reducible refine gate_callee (f := 8) rfl ?_); refine goesL_ (some 120) rfl rfl Try.func8 (by kernel_rfl) rfl #[.int .i64 t402] rfl (by (try simp only [List.map_toArray, List.map_cons, List.map_nil]); first | done | rfl | (simp only [List.length_drop, List.length_take]; rfl)) ?_; (with_reducible refine (gangwaylaw9_num.calls t402 t421 _ A36.out).mono ?_); rintro e w' ⟨rfl, ⟨nd, rfl⟩⟩; refine ⟨_, rfl, ?_⟩; obtain ⟨Ao48, co48, eo48⟩ := Kd.R_slice HO401.out; subst eo48) | (go_at_call 8; (with_reducible refine (gangwaylaw9_num.calls t410 t422 _ A39.out).mono ?_); rintro e w' ⟨rfl, ⟨nd, rfl⟩⟩) | (go_at_call 8; (with_reducible refine (gangwaylaw9_num.calls t416 t423 _ A41.out).mono ?_); rintro e w' ⟨rfl, ⟨nd, rfl⟩⟩; have hnb49 := NB302_308.out; have hnc49 := NB308_302.out; have hcz50_0 : w47.cell? ⟨gb302, 0, none⟩ = some (.int .i64 a0_0) := (blk_cell BK302.out 0).trans rfl; have hcz50_1 : w47.cell? ⟨gb302, 1, none⟩ = some (.int .i64 a0_1) := (blk_cell BK302.out 1).trans rfl; have hcz50_2 : w47.cell? ⟨gb302, 2, none⟩ = some (.int .i64 a0_2) := (blk_cell BK302.out 2).trans rfl; have hcz50_3 : w47.cell? ⟨gb302, 3, none⟩ = some (.slice A0_3 l0_3.length c0_3) := (blk_cell BK302.out 3).trans rfl; have hfz50_0 := blk_frozen BK302.out 0; have hfz50_1 := blk_frozen BK302.out 1; have hfz50_2 := blk_frozen BK302.out 2; have hfz50_3 := blk_frozen BK302.out 3) | (go_at_call 13; (with_reducible refine (gangwaylaw9_wakes.calls k1  t424 _ A44.out).mono ?_); rintro e w51 ⟨rfl, hb⟩; have n0_ := Aside0.mk (Kd.R_below (by (with_reducible repeat (first | apply Kd.R_alloc | apply Kd.R_drewN | apply Kd.R_drew)); exact HO401.out) hb); have n1_ := Aside0.mk (Kd.R_below (by (with_reducible repeat (first | apply Kd.R_alloc | apply Kd.R_drewN | apply Kd.R_drew)); exact HO409.out) hb); have n2_ := Aside0.mk (Kd.R_below (by (with_reducible repeat (first | apply Kd.R_alloc | apply Kd.R_drewN | apply Kd.R_drew)); exact HO419.out) hb); have n3_ := Aside0.mk (blk_below (g := gb302) (o := .cells #[.int .i64 a0_0, .int .i64 a0_1, .int .i64 a0_2, .slice A0_3 l0_3.length c0_3] 26 (0, 0)) (by (with_reducible repeat (first | refine blk_drewN ?_ _ | refine blk_drew ?_ | refine blk_alloc ?_ _)); exact BK302.out) hb); have n4_ := Aside0.mk (IsS61.below (by repeat (first | (with_reducible first | exact HI308.out | apply IsS61.alloc | apply IsS61.drewN | apply IsS61.drew | apply IsS61.set_0 | apply IsS61.set_1 | refine IsS61.far ?_ NB308_302.out _) | exact HI308.out)) hb); have n5_ := Aside0.mk (below_step (by repeat (first | (with_reducible first | exact HB.out | apply below_alloc | apply pw_below_drewN | apply below_drew1 | refine below_set ?_ (IsS61.ge HI308.out) | refine below_set ?_ GE302.out) | exact HB.out)) hb); clear HO401; clear HO409; clear HO419; clear BK302; clear HI308; clear HB; have HO401 := n0_; have HO409 := n1_; have HO419 := n2_; have BK302 := n3_; have HI308 := n4_; have HB := n5_; clear n0_ n1_ n2_ n3_ n4_ n5_; (try clear hb); (try clear hb2); (try clear hk); (try clear hi)))
                      go_ret
                      exact ⟨by first | rfl | (simp [errW_none, errW_some] <;> rfl) | (simp [*, errW_none, errW_some] <;> rfl), by repeat (first | (with_reducible first | exact HB.out | apply below_alloc | apply pw_below_drewN | apply below_drew1 | refine below_set ?_ (IsS61.ge HI308.out) | refine below_set ?_ GE302.out) | exact HB.out)⟩
                    · rw [if_neg c43] at H
                      exact absurd H (by simp)
                  · rw [if_neg c42] at H
                    exact absurd H (by simp)
                · rw [if_neg c40] at H
                  exact absurd H (by simp)
              · rw [if_neg c38] at H
                exact absurd H (by simp)
            · rw [if_neg c37] at H
              exact absurd H (by simp)
    · rw [if_neg c5] at H
      exact absurd H (by simp)
  · replace c3 := Bool.eq_false_iff.mpr c3
    subst c3
    have H1 : (none) = some r := by rw [if_neg (show ¬ (false = true) by decide)] at H; exact H
    clear H
    have H := H1
    clear H1
    exact absurd H (by simp)

/-- THE ONE PURE STATEMENT of gangwaylaw9_MemBounds: yours. -/
def gangwaylaw9_MemBounds.Pure : Prop := ∀ (x0 : S26), okT26 x0 → ∃ k, gangwaylaw9_MemBounds.f k x0.f0.f0 x0.f0.f1 x0.f1 x0.f2 = some true
theorem gangwaylaw9_MemBounds.walk (P : gangwaylaw9_MemBounds.Pure) (w : World) (x0 : S26) (A0_3 : Option Addr) (c0_3 : Nat) (hr0_3 : Kd.C k48 w A0_3 x0.f2.length x0.f2) (hc0_3 : x0.f2.length ≤ c0_3) (hok0 : okT26 x0) :
    Calls Try.prog 4 #[.agg #[.int .i64 x0.f0.f0, .int .i64 x0.f0.f1, .int .i64 x0.f1, .slice A0_3 x0.f2.length c0_3]] w fun e w' => e = .returned (.bool true) ∧ Below w.heap.size w w' := by
  obtain ⟨k, h⟩ := P x0 hok0
  refine (gangwaylaw9_MemBounds.calls k x0.f0.f0 x0.f0.f1 x0.f1 _ _ x0.f2 true w hr0_3 hc0_3 h).mono ?_
  rintro e w' ⟨rfl, hd⟩
  exact ⟨rfl, hd⟩

/-! ### gangwaylaw9_heavy: function 16 -/
def gangwaylaw9_heavy.l0 : Nat → Int → Int → Int → Int → Int → List (S48) → Option (Bool)
  | 0, _, _, _, _, _, _ => none
  | k + 1, x3, x4, x427000, x427001, x427002, x427003 => if x4 < (x427003.length : Int) then (if x4 < 30 then (if 0 ≤ x4 then (gangwaylaw9_heavy.l0 k (wrap64 (x3 + (((rd_T48 x427003 x4).f5).length : Int))) (wrap64 (x4 + 1)) x427000 x427001 x427002 x427003) else (none)) else (if x3 > 5000 then (some true) else (if x427000 > 2 then (if x427000 ≤ 16 then (some true) else (some (decide (x427002 > 4)))) else (some (decide (x427002 > 4)))))) else (if x3 > 5000 then (some true) else (if x427000 > 2 then (if x427000 ≤ 16 then (some true) else (some (decide (x427002 > 4)))) else (some (decide (x427002 > 4)))))
def gangwaylaw9_heavy.f (k : Nat) (a0_0 : Int) (a0_1 : Int) (a0_2 : Int) (l0_3 : List (S48)) : Option (Bool) := gangwaylaw9_heavy.l0 k 0 0 a0_0 a0_1 a0_2 l0_3
theorem gangwaylaw9_heavy.mono_l : ∀ k, (∀ y0 y1 y2 y3 y4 y5, LeO (gangwaylaw9_heavy.l0 k y0 y1 y2 y3 y4 y5) (gangwaylaw9_heavy.l0 (k + 1) y0 y1 y2 y3 y4 y5))
  | 0 => fun _ _ _ _ _ _ r h => by simp [gangwaylaw9_heavy.l0] at h
  | k + 1 => by
    have ih0 := gangwaylaw9_heavy.mono_l k
    · intro y0 y1 y2 y3 y4 y5
      unfold gangwaylaw9_heavy.l0
      repeat' first
      | (with_reducible exact ih0 _ _ _ _ _ _)
      | (with_reducible exact LeO.refl _)
      | (with_reducible exact LeO.none _)
      | (with_reducible refine LeO.ite ?_ ?_)
      | (with_reducible refine LeO.bind ?_ (fun _ => ?_))
      | exact ih0 _ _ _ _ _ _
      | exact LeO.none _
      | refine LeO.ite ?_ ?_
      | refine LeO.bind ?_ (fun _ => ?_)
theorem gangwaylaw9_heavy.mono : ∀ a0 a1 a2 a3 k, LeO (gangwaylaw9_heavy.f k a0 a1 a2 a3) (gangwaylaw9_heavy.f (k + 1) a0 a1 a2 a3) := by
  intro a0 a1 a2 a3 k
  have ih0 := gangwaylaw9_heavy.mono_l k
  unfold gangwaylaw9_heavy.f
  repeat' first
      | (with_reducible exact ih0 _ _ _ _ _ _)
      | (with_reducible exact LeO.refl _)
      | (with_reducible exact LeO.none _)
      | (with_reducible refine LeO.ite ?_ ?_)
      | (with_reducible refine LeO.bind ?_ (fun _ => ?_))
      | exact ih0 _ _ _ _ _ _
      | exact LeO.none _
      | refine LeO.ite ?_ ?_
      | refine LeO.bind ?_ (fun _ => ?_)
set_option maxHeartbeats 8000000 in
set_option maxRecDepth 100000 in
theorem gangwaylaw9_heavy.calls (k : Nat) (a0_0 : Int) (a0_1 : Int) (a0_2 : Int) (A0_3 : Option Addr) (c0_3 : Nat) (l0_3 : List (S48)) (r : Bool) (w : World) (hr0_3 : Kd.C k48 w A0_3 l0_3.length l0_3) (hc0_3 : l0_3.length ≤ c0_3) (h : gangwaylaw9_heavy.f k a0_0 a0_1 a0_2 l0_3 = some r) :
    Calls Try.prog 16 #[.agg #[.int .i64 a0_0, .int .i64 a0_1, .int .i64 a0_2, .slice A0_3 l0_3.length c0_3]] w fun e w' => e = .returned (.bool r) ∧ Below w.heap.size w w' := by
  have hu26 := Try.underlying26
  have HR0_3 := Aside0.mk hr0_3
  have HC0_3 := Aside0.mk hc0_3
  clear hr0_3 hc0_3
  have HB := Aside0.mk (Below.refl w.heap.size w)
  have H : (gangwaylaw9_heavy.l0 k 0 0 a0_0 a0_1 a0_2 l0_3) = some r := h
  clear h
  have H' := Aside0.mk H
  clear H
  go_enter Try.func16, Try.ntmps16
  go_wp2_with (first | ((with_reducible refine gate_dst (N := 1) rfl ?_); refine box_event ?hg (N := 1) ?hd (cs := #[.int .i64 a0_0, .int .i64 a0_1, .int .i64 a0_2, .slice A0_3 l0_3.length c0_3]) (t := 26) ?hr ?_; (case hd => rfl); (case hg => rfl); (case hr => first | (go_simp; done) | (go_simp; rfl)); intro gb426 hg w2 hbox hb; have n0_ := Aside0.mk (below_step (by repeat (first | (with_reducible first | exact HB.out | apply below_alloc | apply pw_below_drewN | apply below_drew1) | exact HB.out)) hb); have n1_ := Aside0.mk (hbox); have n2_ := Aside0.mk ((by rw [hg]; exact (below_size (by repeat (first | (with_reducible first | exact HB.out | apply below_alloc | apply pw_below_drewN | apply below_drew1) | exact HB.out))) : w.heap.size ≤ gb426)); have n3_ := Aside0.mk ((by rw [hg]; exact (below_size (by repeat (first | (with_reducible first | exact HB.out | apply below_alloc | apply pw_below_drewN | apply below_drew1) | exact HB.out))) : w.heap.size ≤ gb426)); clear HB; have HB := n0_; have BK426 := n1_; have GW426 := n2_; have GE426 := n3_; clear n0_ n1_ n2_ n3_; clear hb hbox hg))
  go_loopg [3, 4] k (fun kq v3 v4 w' => ∃ (x3_1 : Int) (x4_1 : Int), v3 = .int .i64 x3_1 ∧ v4 = .int .i64 x4_1 ∧ Aside0 (gangwaylaw9_heavy.l0 kq x3_1 x4_1 a0_0 a0_1 a0_2 l0_3 = some r) ∧ Aside0 (kq ≤ k) ∧ Aside0 (w'.heap[gb426]? = some (.cells #[.int .i64 a0_0, .int .i64 a0_1, .int .i64 a0_2, (.slice A0_3 l0_3.length c0_3)] 26 (0, 0))) ∧ Aside0 (Below w.heap.size w w'))
  case atStart => exact ⟨(0), (0), (by first | rfl | (simp; done) | (simp [*]; done)), (by first | rfl | (simp; done) | (simp [*]; done)), H', ⟨Nat.le_refl _⟩, ⟨by (with_reducible repeat (first | refine blk_drewN ?_ _ | refine blk_drew ?_ | refine blk_alloc ?_ _)); exact BK426.out⟩, ⟨by repeat (first | (with_reducible first | exact HB.out | apply below_alloc | apply pw_below_drewN | apply below_drew1 | refine below_set ?_ GE426.out) | exact HB.out)⟩⟩
  case round =>
    clear H'
    try clear c1
    try clear p2
    obtain ⟨x3_1, x4_1, rfl, rfl, HA, HK1, BK426, HB⟩ := hrel
    cases gk with
    | zero => exact absurd HA.out (by simp [gangwaylaw9_heavy.l0])
    | succ k1 =>
      have H := HA.out
      clear HA
      simp only [gangwaylaw9_heavy.l0] at H
      by_cases c3 : x4_1 < (l0_3.length : Int)
      · rw [if_pos c3] at H
        have c3b0 : decide (x4_1 < (l0_3.length : Int)) = true := decide_eq_true c3
        clear c3
        by_cases c4 : x4_1 < 30
        · rw [if_pos c4] at H
          have c4b0 : decide (x4_1 < 30) = true := decide_eq_true c4
          clear c4
          by_cases c5 : 0 ≤ x4_1
          · rw [if_pos c5] at H
            have c5b0 : decide (0 ≤ x4_1) = true := decide_eq_true c5
            clear c5
            have H' := Aside0.mk H
            clear H
            have hcz6_0 : wr.cell? ⟨gb426, 0, none⟩ = some (.int .i64 a0_0) := (blk_cell BK426.out 0).trans rfl
            have hcz6_1 : wr.cell? ⟨gb426, 1, none⟩ = some (.int .i64 a0_1) := (blk_cell BK426.out 1).trans rfl
            have hcz6_2 : wr.cell? ⟨gb426, 2, none⟩ = some (.int .i64 a0_2) := (blk_cell BK426.out 2).trans rfl
            have hcz6_3 : wr.cell? ⟨gb426, 3, none⟩ = some (.slice A0_3 l0_3.length c0_3) := (blk_cell BK426.out 3).trans rfl
            have hfz6_0 := blk_frozen BK426.out 0
            have hfz6_1 := blk_frozen BK426.out 1
            have hfz6_2 := blk_frozen BK426.out 2
            have hfz6_3 := blk_frozen BK426.out 3
            have p427 : 0 ≤ (x4_1 : Int) := of_decide_eq_true (by first | (with_reducible assumption) | assumption)
            have q427 : x4_1 < (l0_3.length : Int) := of_decide_eq_true (by first | (with_reducible assumption) | assumption)
            obtain ⟨ad427, A427_5, c427_5, e427, hx427_0, hx427_1, hx427_2, hx427_3, hx427_4, hx427_5, hl427_5, hi427_5⟩ := at_T48 HR0_3.out x4_1 p427 q427
            cases e427
            replace hx427_0 := (HB.out.cell (World.block_lt_of_cell? w _ hx427_0)).trans hx427_0
            replace hx427_1 := (HB.out.cell (World.block_lt_of_cell? w _ hx427_1)).trans hx427_1
            replace hx427_2 := (HB.out.cell (World.block_lt_of_cell? w _ hx427_2)).trans hx427_2
            replace hx427_3 := (HB.out.cell (World.block_lt_of_cell? w _ hx427_3)).trans hx427_3
            replace hx427_4 := (HB.out.cell (World.block_lt_of_cell? w _ hx427_4)).trans hx427_4
            replace hx427_5 := (HB.out.cell (World.block_lt_of_cell? w _ hx427_5)).trans hx427_5
            have HR427_5 := Aside0.mk hi427_5
            have HC427_5 := Aside0.mk hl427_5
            clear hi427_5 hl427_5
            replace p427 := eq_true p427
            replace q427 := eq_true q427
            go_wp2
            go_roundg k1
            case measure => have := HK1.out; omega
            case rel => exact ⟨(wrap64 (x3_1 + (((rd_T48 l0_3 x4_1).f5).length : Int))), (wrap64 (x4_1 + 1)), (by first | rfl | (simp; done) | (simp [*]; done)), (by first | rfl | (simp; done) | (simp [*]; done)), H', ⟨by have := HK1.out; omega⟩, ⟨by (with_reducible repeat (first | refine blk_drewN ?_ _ | refine blk_drew ?_ | refine blk_alloc ?_ _)); exact BK426.out⟩, ⟨by repeat (first | (with_reducible first | exact HB.out | apply below_alloc | apply pw_below_drewN | apply below_drew1 | refine below_set ?_ GE426.out) | exact HB.out)⟩⟩
          · rw [if_neg c5] at H
            exact absurd H (by simp)
        · rw [if_neg c4] at H
          have c4b0 : decide (x4_1 < 30) = false := decide_eq_false c4
          clear c4
          by_cases c7 : x3_1 > 5000
          · rw [if_pos c7] at H
            have c7b0 : decide (5000 < x3_1) = true := decide_eq_true c7
            clear c7
            obtain rfl := Option.some.inj H
            have hcz8_0 : wr.cell? ⟨gb426, 0, none⟩ = some (.int .i64 a0_0) := (blk_cell BK426.out 0).trans rfl
            have hcz8_1 : wr.cell? ⟨gb426, 1, none⟩ = some (.int .i64 a0_1) := (blk_cell BK426.out 1).trans rfl
            have hcz8_2 : wr.cell? ⟨gb426, 2, none⟩ = some (.int .i64 a0_2) := (blk_cell BK426.out 2).trans rfl
            have hcz8_3 : wr.cell? ⟨gb426, 3, none⟩ = some (.slice A0_3 l0_3.length c0_3) := (blk_cell BK426.out 3).trans rfl
            have hfz8_0 := blk_frozen BK426.out 0
            have hfz8_1 := blk_frozen BK426.out 1
            have hfz8_2 := blk_frozen BK426.out 2
            have hfz8_3 := blk_frozen BK426.out 3
            go_wp2
            go_ret
            exact ⟨by first | rfl | (simp [errW_none, errW_some] <;> rfl) | (simp [*, errW_none, errW_some] <;> rfl), by repeat (first | (with_reducible first | exact HB.out | apply below_alloc | apply pw_below_drewN | apply below_drew1 | refine below_set ?_ GE426.out) | exact HB.out)⟩
          · rw [if_neg c7] at H
            have c7b0 : decide (5000 < x3_1) = false := decide_eq_false c7
            clear c7
            by_cases c9 : a0_0 > 2
            · rw [if_pos c9] at H
              have c9b0 : decide (2 < a0_0) = true := decide_eq_true c9
              clear c9
              by_cases c10 : a0_0 ≤ 16
              · rw [if_pos c10] at H
                have c10b0 : decide (a0_0 ≤ 16) = true := decide_eq_true c10
                clear c10
                obtain rfl := Option.some.inj H
                have hcz11_0 : wr.cell? ⟨gb426, 0, none⟩ = some (.int .i64 a0_0) := (blk_cell BK426.out 0).trans rfl
                have hcz11_1 : wr.cell? ⟨gb426, 1, none⟩ = some (.int .i64 a0_1) := (blk_cell BK426.out 1).trans rfl
                have hcz11_2 : wr.cell? ⟨gb426, 2, none⟩ = some (.int .i64 a0_2) := (blk_cell BK426.out 2).trans rfl
                have hcz11_3 : wr.cell? ⟨gb426, 3, none⟩ = some (.slice A0_3 l0_3.length c0_3) := (blk_cell BK426.out 3).trans rfl
                have hfz11_0 := blk_frozen BK426.out 0
                have hfz11_1 := blk_frozen BK426.out 1
                have hfz11_2 := blk_frozen BK426.out 2
                have hfz11_3 := blk_frozen BK426.out 3
                go_wp2
                go_ret
                exact ⟨by first | rfl | (simp [errW_none, errW_some] <;> rfl) | (simp [*, errW_none, errW_some] <;> rfl), by repeat (first | (with_reducible first | exact HB.out | apply below_alloc | apply pw_below_drewN | apply below_drew1 | refine below_set ?_ GE426.out) | exact HB.out)⟩
              · rw [if_neg c10] at H
                have c10b0 : decide (a0_0 ≤ 16) = false := decide_eq_false c10
                clear c10
                obtain rfl := Option.some.inj H
                have hcz12_0 : wr.cell? ⟨gb426, 0, none⟩ = some (.int .i64 a0_0) := (blk_cell BK426.out 0).trans rfl
                have hcz12_1 : wr.cell? ⟨gb426, 1, none⟩ = some (.int .i64 a0_1) := (blk_cell BK426.out 1).trans rfl
                have hcz12_2 : wr.cell? ⟨gb426, 2, none⟩ = some (.int .i64 a0_2) := (blk_cell BK426.out 2).trans rfl
                have hcz12_3 : wr.cell? ⟨gb426, 3, none⟩ = some (.slice A0_3 l0_3.length c0_3) := (blk_cell BK426.out 3).trans rfl
                have hfz12_0 := blk_frozen BK426.out 0
                have hfz12_1 := blk_frozen BK426.out 1
                have hfz12_2 := blk_frozen BK426.out 2
                have hfz12_3 := blk_frozen BK426.out 3
                go_wp2
                go_ret
                exact ⟨by first | rfl | (simp [errW_none, errW_some] <;> rfl) | (simp [*, errW_none, errW_some] <;> rfl), by repeat (first | (with_reducible first | exact HB.out | apply below_alloc | apply pw_below_drewN | apply below_drew1 | refine below_set ?_ GE426.out) | exact HB.out)⟩
            · rw [if_neg c9] at H
              have c9b0 : decide (2 < a0_0) = false := decide_eq_false c9
              clear c9
              obtain rfl := Option.some.inj H
              have hcz13_0 : wr.cell? ⟨gb426, 0, none⟩ = some (.int .i64 a0_0) := (blk_cell BK426.out 0).trans rfl
              have hcz13_1 : wr.cell? ⟨gb426, 1, none⟩ = some (.int .i64 a0_1) := (blk_cell BK426.out 1).trans rfl
              have hcz13_2 : wr.cell? ⟨gb426, 2, none⟩ = some (.int .i64 a0_2) := (blk_cell BK426.out 2).trans rfl
              have hcz13_3 : wr.cell? ⟨gb426, 3, none⟩ = some (.slice A0_3 l0_3.length c0_3) := (blk_cell BK426.out 3).trans rfl
              have hfz13_0 := blk_frozen BK426.out 0
              have hfz13_1 := blk_frozen BK426.out 1
              have hfz13_2 := blk_frozen BK426.out 2
              have hfz13_3 := blk_frozen BK426.out 3
              go_wp2
              go_ret
              exact ⟨by first | rfl | (simp [errW_none, errW_some] <;> rfl) | (simp [*, errW_none, errW_some] <;> rfl), by repeat (first | (with_reducible first | exact HB.out | apply below_alloc | apply pw_below_drewN | apply below_drew1 | refine below_set ?_ GE426.out) | exact HB.out)⟩
      · rw [if_neg c3] at H
        have c3b0 : decide (x4_1 < (l0_3.length : Int)) = false := decide_eq_false c3
        clear c3
        by_cases c14 : x3_1 > 5000
        · rw [if_pos c14] at H
          have c14b0 : decide (5000 < x3_1) = true := decide_eq_true c14
          clear c14
          obtain rfl := Option.some.inj H
          have hcz15_0 : wr.cell? ⟨gb426, 0, none⟩ = some (.int .i64 a0_0) := (blk_cell BK426.out 0).trans rfl
          have hcz15_1 : wr.cell? ⟨gb426, 1, none⟩ = some (.int .i64 a0_1) := (blk_cell BK426.out 1).trans rfl
          have hcz15_2 : wr.cell? ⟨gb426, 2, none⟩ = some (.int .i64 a0_2) := (blk_cell BK426.out 2).trans rfl
          have hcz15_3 : wr.cell? ⟨gb426, 3, none⟩ = some (.slice A0_3 l0_3.length c0_3) := (blk_cell BK426.out 3).trans rfl
          have hfz15_0 := blk_frozen BK426.out 0
          have hfz15_1 := blk_frozen BK426.out 1
          have hfz15_2 := blk_frozen BK426.out 2
          have hfz15_3 := blk_frozen BK426.out 3
          go_wp2
          go_ret
          exact ⟨by first | rfl | (simp [errW_none, errW_some] <;> rfl) | (simp [*, errW_none, errW_some] <;> rfl), by repeat (first | (with_reducible first | exact HB.out | apply below_alloc | apply pw_below_drewN | apply below_drew1 | refine below_set ?_ GE426.out) | exact HB.out)⟩
        · rw [if_neg c14] at H
          have c14b0 : decide (5000 < x3_1) = false := decide_eq_false c14
          clear c14
          by_cases c16 : a0_0 > 2
          · rw [if_pos c16] at H
            have c16b0 : decide (2 < a0_0) = true := decide_eq_true c16
            clear c16
            by_cases c17 : a0_0 ≤ 16
            · rw [if_pos c17] at H
              have c17b0 : decide (a0_0 ≤ 16) = true := decide_eq_true c17
              clear c17
              obtain rfl := Option.some.inj H
              have hcz18_0 : wr.cell? ⟨gb426, 0, none⟩ = some (.int .i64 a0_0) := (blk_cell BK426.out 0).trans rfl
              have hcz18_1 : wr.cell? ⟨gb426, 1, none⟩ = some (.int .i64 a0_1) := (blk_cell BK426.out 1).trans rfl
              have hcz18_2 : wr.cell? ⟨gb426, 2, none⟩ = some (.int .i64 a0_2) := (blk_cell BK426.out 2).trans rfl
              have hcz18_3 : wr.cell? ⟨gb426, 3, none⟩ = some (.slice A0_3 l0_3.length c0_3) := (blk_cell BK426.out 3).trans rfl
              have hfz18_0 := blk_frozen BK426.out 0
              have hfz18_1 := blk_frozen BK426.out 1
              have hfz18_2 := blk_frozen BK426.out 2
              have hfz18_3 := blk_frozen BK426.out 3
              go_wp2
              go_ret
              exact ⟨by first | rfl | (simp [errW_none, errW_some] <;> rfl) | (simp [*, errW_none, errW_some] <;> rfl), by repeat (first | (with_reducible first | exact HB.out | apply below_alloc | apply pw_below_drewN | apply below_drew1 | refine below_set ?_ GE426.out) | exact HB.out)⟩
            · rw [if_neg c17] at H
              have c17b0 : decide (a0_0 ≤ 16) = false := decide_eq_false c17
              clear c17
              obtain rfl := Option.some.inj H
              have hcz19_0 : wr.cell? ⟨gb426, 0, none⟩ = some (.int .i64 a0_0) := (blk_cell BK426.out 0).trans rfl
              have hcz19_1 : wr.cell? ⟨gb426, 1, none⟩ = some (.int .i64 a0_1) := (blk_cell BK426.out 1).trans rfl
              have hcz19_2 : wr.cell? ⟨gb426, 2, none⟩ = some (.int .i64 a0_2) := (blk_cell BK426.out 2).trans rfl
              have hcz19_3 : wr.cell? ⟨gb426, 3, none⟩ = some (.slice A0_3 l0_3.length c0_3) := (blk_cell BK426.out 3).trans rfl
              have hfz19_0 := blk_frozen BK426.out 0
              have hfz19_1 := blk_frozen BK426.out 1
              have hfz19_2 := blk_frozen BK426.out 2
              have hfz19_3 := blk_frozen BK426.out 3
              go_wp2
              go_ret
              exact ⟨by first | rfl | (simp [errW_none, errW_some] <;> rfl) | (simp [*, errW_none, errW_some] <;> rfl), by repeat (first | (with_reducible first | exact HB.out | apply below_alloc | apply pw_below_drewN | apply below_drew1 | refine below_set ?_ GE426.out) | exact HB.out)⟩
          · rw [if_neg c16] at H
            have c16b0 : decide (2 < a0_0) = false := decide_eq_false c16
            clear c16
            obtain rfl := Option.some.inj H
            have hcz20_0 : wr.cell? ⟨gb426, 0, none⟩ = some (.int .i64 a0_0) := (blk_cell BK426.out 0).trans rfl
            have hcz20_1 : wr.cell? ⟨gb426, 1, none⟩ = some (.int .i64 a0_1) := (blk_cell BK426.out 1).trans rfl
            have hcz20_2 : wr.cell? ⟨gb426, 2, none⟩ = some (.int .i64 a0_2) := (blk_cell BK426.out 2).trans rfl
            have hcz20_3 : wr.cell? ⟨gb426, 3, none⟩ = some (.slice A0_3 l0_3.length c0_3) := (blk_cell BK426.out 3).trans rfl
            have hfz20_0 := blk_frozen BK426.out 0
            have hfz20_1 := blk_frozen BK426.out 1
            have hfz20_2 := blk_frozen BK426.out 2
            have hfz20_3 := blk_frozen BK426.out 3
            go_wp2
            go_ret
            exact ⟨by first | rfl | (simp [errW_none, errW_some] <;> rfl) | (simp [*, errW_none, errW_some] <;> rfl), by repeat (first | (with_reducible first | exact HB.out | apply below_alloc | apply pw_below_drewN | apply below_drew1 | refine below_set ?_ GE426.out) | exact HB.out)⟩

end Go.Proofs.Ytjmajhalgdeicaa.PAll
