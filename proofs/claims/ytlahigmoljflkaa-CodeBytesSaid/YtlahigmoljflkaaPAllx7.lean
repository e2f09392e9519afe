/- Printed by a copy of the printer that was turned for this claim: functions as plain Lean functions, with proofs that their calls come to these; or words that such proofs use. -/
import Derived.Test.YtlahigmoljflkaaPAllx0
import Derived.Test.YtlahigmoljflkaaPAllx1
import Derived.Test.YtlahigmoljflkaaPAllx6
namespace Go.Proofs.Ytlahigmoljflkaa.PAll
open Go.RowKit Go.Proofs.YtlahigmoljflkaaW.PrintWords Go.Proofs.YtlahigmoljflkaaW.PrintLast Go.Proofs.YtlahigmoljflkaaW.PrintMore
attribute [local go_sem] max2_int min2_int max_two min_two max_three min_three max_four min_four   -- for this text's walks alone
set_option linter.unusedVariables false
set_option linter.unusedSimpArgs false

theorem code_place_list.aa_0 {p : Prop} (h : p := by repeat (first | (with_reducible first | exact HK.out | apply KeepBut.set_ | apply keep_drewN | apply keep_drew | apply keep_alloc) | exact HK.out)) : p := h
theorem code_place_list.aa_1 {p : Prop} (h : p := by (with_reducible repeat (first | apply Kd.R_alloc | apply Kd.R_drewN | apply Kd.R_drew)); exact HO_4.out) : p := h
theorem code_place_list.aa_2 {p : Prop} (h : p := by (try simp only [List.map_toArray, List.map_cons, List.map_nil]); first | done | rfl | (simp only [List.length_drop, List.length_take]; rfl)) : p := h
theorem code_place_list.aa_3 {p : Prop} (h : p := by repeat (first | (with_reducible first | exact HI0.out | apply IsS53.alloc | apply IsS53.drewN | apply IsS53.drew | apply IsS53.set_1 | apply IsS53.set_2) | exact HI0.out)) : p := h
theorem code_place_list.aa_4 {p : Prop} (h : p := by repeat (first | (with_reducible first | exact HB.out | apply below_alloc | apply pw_below_drewN | apply below_drew1 | refine below_set ?_ (IsS53.ge HI0.out)) | exact HB.out)) : p := h
theorem code_place_list.am_ {p : Prop} (h : p) : Aside0 p := Aside0.mk h
theorem code_place_list.bm_ {α β : Type _} {o : Option α} {f : α → Option β} {b : β} (h : o.bind f = some b) : ∃ a, o = some a ∧ f a = some b := Option.bind_eq_some_iff.mp h
set_option maxHeartbeats 8000000 in
set_option maxRecDepth 100000 in
theorem code_place_list.calls (k : Nat) : ∀ (g : Nat) (s0_0 : List Int) (s0_1 : Int) (s0_2 : Bool) (a1 : Int) (r1 : List (S45)) (r2 : Int) (r3 : Int) (r4 : Bool) (w0 w : World) (hI : IsS53 w0 w g s0_0 s0_1 s0_2) (hB : Below w0.heap.size w0 w) (h : code_place_list.f k s0_0 s0_1 s0_2 a1 = some (r1, r2, r3, r4)),
  Calls Try.prog 24 #[.pointer (some ⟨g, 0, none⟩), .int .i64 a1] w fun e w' => ∃ v0_ : Value, e = .returned (.tuple #[v0_, .int .i64 r2]) ∧ Kd.R k45 45 w' w.heap.size (fun _ => True) v0_ r1 ∧ IsS53 w0 w' g s0_0 r3 r4 ∧ Below w0.heap.size w0 w' ∧ KeepBut w w' g none := by
 induction k using Nat.strongRecOn with
 | _ k ih =>
 intro g s0_0 s0_1 s0_2 a1 r1 r2 r3 r4 w0 w hI hB h
 cases k with
 | zero => exact absurd h (by simp [code_place_list.f])
 | succ k =>
 simp only [code_place_list.f] at h; have HI0 := am_ hI; have HK := am_ (KeepBut.refl w g none); have HL := am_ hB.size; clear hI; have HW0 := am_ hB.size; have HB := am_ hB; clear hB; have H : (code_place_list.l0 k a1 ([] : List (S45)) s0_0 s0_1 s0_2) = some (r1, r2, r3, r4) := h; clear h; have H' := am_ H; clear H; go_enter Try.func24, Try.ntmps24; go_wp2
 go_loopg [4] k (fun kq v4 w' => ∃ (x4_1 : List (S45)) (x1001_1 : Int) (x1002_1 : Bool), Aside0 (code_place_list.l0 kq a1 x4_1 s0_0 x1001_1 x1002_1 = some (r1, r2, r3, r4)) ∧ Aside0 (kq ≤ k) ∧ Aside0 (Kd.R k45 45 w' w.heap.size (fun _ => True) v4 x4_1) ∧ Aside0 (IsS53 w0 w' g s0_0 x1001_1 x1002_1) ∧ Aside0 (KeepBut w w' g none) ∧ Aside0 (Below w0.heap.size w0 w'))
 case atStart => exact ⟨(([] : List (S45))), (s0_1), (s0_2), H', ⟨Nat.le_refl _⟩, ⟨nl_⟩, ⟨aa_3⟩, ⟨aa_0⟩, ⟨aa_4⟩⟩
 case round =>
 clear H'; obtain ⟨x4_1, x1001_1, x1002_1, HA, HK1, HO_4, HI0, HK, HB⟩ := hrel
 cases gk with
 | zero => exact absurd HA.out (by simp [code_place_list.l0])
 | succ k1 =>
 have H := HA.out; clear HA; simp only [code_place_list.l0] at H; replace H := bm_ H; obtain ⟨⟨t209, t210, t211⟩, A30, H⟩ := H; replace H : (if t211 = true then (some (x4_1, t209, t210, t211)) else (if t209 = 11 then (some (x4_1, t209, t210, t211)) else (if t209 = 5 then (some (x4_1, t209, t210, t211)) else ((code_place_list.q.f k1 s0_0 t210 t211 t209 a1).bind fun bt212 => (if x4_1.length < 1172812402961 then (code_place_list.l0 k1 a1 (x4_1 ++ [(⟨bt212.1, bt212.2.1, bt212.2.2.1, bt212.2.2.2.1, bt212.2.2.2.2.1, bt212.2.2.2.2.2.1, bt212.2.2.2.2.2.2.1, bt212.2.2.2.2.2.2.2.1, bt212.2.2.2.2.2.2.2.2.1⟩ : S45)]) s0_0 bt212.2.2.2.2.2.2.2.2.2.1 bt212.2.2.2.2.2.2.2.2.2.2) else (none)))))) = some (r1, r2, r3, r4) := H; have A3 := am_ A30; clear A30; by_cases c4 : t211 = true
 ·subst c4; have H1 : (some (x4_1, t209, t210, true)) = some (r1, r2, r3, r4) := by rw [if_pos rfl] at H; exact H
  clear H; have H := H1; clear H1; simp only [Option.some.injEq, Prod.mk.injEq] at H; obtain ⟨rfl, rfl, rfl, rfl⟩ := H
  go_wp2_with (first | ((with_reducible refine gate_callee (f := 34) rfl ?_); refine goesL_ (some 8) rfl rfl Try.func34 (by kernel_rfl) rfl #[.pointer (some ⟨g, 0, none⟩)] rfl aa_2 ?_; (with_reducible refine (code_place_next.calls g s0_0 x1001_1 x1002_1 t209 t210 true w0 _ ?side1 ?side2 A3.out).mono ?_); (case side1 => exact aa_3); (case side2 => exact aa_4); rintro e w5 ⟨rfl, hi, hb, hk⟩; refine ⟨_, rfl, ?_⟩; have N_ := m_ (Kd.R_mono (Kd.R_keep (IsS53.apart (show IsS53 w0 _ g s0_0 x1001_1 x1002_1 from by repeat (first | (with_reducible first | exact HI0.out | apply IsS53.alloc | apply IsS53.drewN | apply IsS53.drew | apply IsS53.set_1 | apply IsS53.set_2) | exact HI0.out)) aa_1 (by decide)) hk (fun _ h => h.2)) (fun _ h => h.1)) <| m_ (KeepBut.trans aa_0 hk (.inl rfl)) <| m_ (hb) <| am_ (hi); clear HO_4 HK HB HI0; obtain ⟨HO_4, HK, HB, HI0⟩ := N_; (try clear hb); (try clear hb2); (try clear hk); (try clear hi); obtain ⟨ASz6_0, cSz6_0, HGz6, hgz6, HSz6_0⟩ := HI0.out; have Z6_0 := cellS53_0 HGz6; have Z6_1 := cellS53_1 HGz6; have Z6_2 := cellS53_2 HGz6; have Y6_1 := blk_frozen HGz6 1; have Y6_2 := blk_frozen HGz6 2; clear HGz6 hgz6))
  go_ret2
  exact ⟨_, er_, aa_1, by repeat (first | (with_reducible first | exact HI0.out | apply IsS53.alloc | apply IsS53.drewN | apply IsS53.drew | apply IsS53.set_1 | apply IsS53.set_2) | exact HI0.out), by repeat (first | (with_reducible first | exact HB.out | apply below_alloc | apply pw_below_drewN | apply below_drew1 | refine below_set ?_ (IsS53.ge HI0.out)) | exact HB.out), by repeat (first | (with_reducible first | exact HK.out | apply KeepBut.set_ | apply keep_drewN | apply keep_drew | apply keep_alloc) | exact HK.out)⟩
 replace c4 := Bool.eq_false_iff.mpr c4; subst c4; have H1 : (if t209 = 11 then (some (x4_1, t209, t210, false)) else (if t209 = 5 then (some (x4_1, t209, t210, false)) else ((code_place_list.q.f k1 s0_0 t210 false t209 a1).bind fun bt212 => (if x4_1.length < 1172812402961 then (code_place_list.l0 k1 a1 (x4_1 ++ [(⟨bt212.1, bt212.2.1, bt212.2.2.1, bt212.2.2.2.1, bt212.2.2.2.2.1, bt212.2.2.2.2.2.1, bt212.2.2.2.2.2.2.1, bt212.2.2.2.2.2.2.2.1, bt212.2.2.2.2.2.2.2.2.1⟩ : S45)]) s0_0 bt212.2.2.2.2.2.2.2.2.2.1 bt212.2.2.2.2.2.2.2.2.2.2) else (none))))) = some (r1, r2, r3, r4) := by rw [if_neg (show ¬ (false = true) by decide)] at H; exact H
 clear H; have H := H1; clear H1; by_cases c7 : t209 = 11
 ·rw [if_pos c7] at H; obtain ⟨c7b0, c7b1⟩ := eb c7; clear c7; simp only [Option.some.injEq, Prod.mk.injEq] at H; obtain ⟨rfl, rfl, rfl, rfl⟩ := H
  go_wp2_with (first | ((with_reducible refine gate_callee (f := 34) rfl ?_); refine goesL_ (some 8) rfl rfl Try.func34 (by kernel_rfl) rfl #[.pointer (some ⟨g, 0, none⟩)] rfl aa_2 ?_; (with_reducible refine (code_place_next.calls g s0_0 x1001_1 x1002_1 t209 t210 false w0 _ ?side1 ?side2 A3.out).mono ?_); (case side1 => exact aa_3); (case side2 => exact aa_4); rintro e w8 ⟨rfl, hi, hb, hk⟩; refine ⟨_, rfl, ?_⟩; have N_ := m_ (Kd.R_mono (Kd.R_keep (IsS53.apart (show IsS53 w0 _ g s0_0 x1001_1 x1002_1 from by repeat (first | (with_reducible first | exact HI0.out | apply IsS53.alloc | apply IsS53.drewN | apply IsS53.drew | apply IsS53.set_1 | apply IsS53.set_2) | exact HI0.out)) aa_1 (by decide)) hk (fun _ h => h.2)) (fun _ h => h.1)) <| m_ (KeepBut.trans aa_0 hk (.inl rfl)) <| m_ (hb) <| am_ (hi); clear HO_4 HK HB HI0; obtain ⟨HO_4, HK, HB, HI0⟩ := N_; (try clear hb); (try clear hb2); (try clear hk); (try clear hi); obtain ⟨ASz9_0, cSz9_0, HGz9, hgz9, HSz9_0⟩ := HI0.out; have Z9_0 := cellS53_0 HGz9; have Z9_1 := cellS53_1 HGz9; have Z9_2 := cellS53_2 HGz9; have Y9_1 := blk_frozen HGz9 1; have Y9_2 := blk_frozen HGz9 2; clear HGz9 hgz9))
  go_ret2
  exact ⟨_, er_, aa_1, by repeat (first | (with_reducible first | exact HI0.out | apply IsS53.alloc | apply IsS53.drewN | apply IsS53.drew | apply IsS53.set_1 | apply IsS53.set_2) | exact HI0.out), by repeat (first | (with_reducible first | exact HB.out | apply below_alloc | apply pw_below_drewN | apply below_drew1 | refine below_set ?_ (IsS53.ge HI0.out)) | exact HB.out), by repeat (first | (with_reducible first | exact HK.out | apply KeepBut.set_ | apply keep_drewN | apply keep_drew | apply keep_alloc) | exact HK.out)⟩
 rw [if_neg c7] at H; obtain ⟨c7b0, c7b1⟩ := nb c7; by_cases c10 : t209 = 5
 ·rw [if_pos c10] at H; obtain ⟨c10b0, c10b1⟩ := eb c10; clear c10; simp only [Option.some.injEq, Prod.mk.injEq] at H; obtain ⟨rfl, rfl, rfl, rfl⟩ := H
  go_wp2_with (first | ((with_reducible refine gate_callee (f := 34) rfl ?_); refine goesL_ (some 8) rfl rfl Try.func34 (by kernel_rfl) rfl #[.pointer (some ⟨g, 0, none⟩)] rfl aa_2 ?_; (with_reducible refine (code_place_next.calls g s0_0 x1001_1 x1002_1 t209 t210 false w0 _ ?side1 ?side2 A3.out).mono ?_); (case side1 => exact aa_3); (case side2 => exact aa_4); rintro e w11 ⟨rfl, hi, hb, hk⟩; refine ⟨_, rfl, ?_⟩; have N_ := m_ (Kd.R_mono (Kd.R_keep (IsS53.apart (show IsS53 w0 _ g s0_0 x1001_1 x1002_1 from by repeat (first | (with_reducible first | exact HI0.out | apply IsS53.alloc | apply IsS53.drewN | apply IsS53.drew | apply IsS53.set_1 | apply IsS53.set_2) | exact HI0.out)) aa_1 (by decide)) hk (fun _ h => h.2)) (fun _ h => h.1)) <| m_ (KeepBut.trans aa_0 hk (.inl rfl)) <| m_ (hb) <| am_ (hi); clear HO_4 HK HB HI0; obtain ⟨HO_4, HK, HB, HI0⟩ := N_; (try clear hb); (try clear hb2); (try clear hk); (try clear hi); obtain ⟨ASz12_0, cSz12_0, HGz12, hgz12, HSz12_0⟩ := HI0.out; have Z12_0 := cellS53_0 HGz12; have Z12_1 := cellS53_1 HGz12; have Z12_2 := cellS53_2 HGz12; have Y12_1 := blk_frozen HGz12 1; have Y12_2 := blk_frozen HGz12 2; clear HGz12 hgz12))
  go_ret2
  exact ⟨_, er_, aa_1, by repeat (first | (with_reducible first | exact HI0.out | apply IsS53.alloc | apply IsS53.drewN | apply IsS53.drew | apply IsS53.set_1 | apply IsS53.set_2) | exact HI0.out), by repeat (first | (with_reducible first | exact HB.out | apply below_alloc | apply pw_below_drewN | apply below_drew1 | refine below_set ?_ (IsS53.ge HI0.out)) | exact HB.out), by repeat (first | (with_reducible first | exact HK.out | apply KeepBut.set_ | apply keep_drewN | apply keep_drew | apply keep_alloc) | exact HK.out)⟩
 rw [if_neg c10] at H; obtain ⟨c10b0, c10b1⟩ := nb c10; replace H := bm_ H; obtain ⟨⟨t212, t213, t214, t215, t216, t217, t218, t221, t224, t227, t228⟩, A130, H⟩ := H; replace H : (if x4_1.length < 1172812402961 then (code_place_list.l0 k1 a1 (x4_1 ++ [(⟨t212, t213, t214, t215, t216, t217, t218, t221, t224⟩ : S45)]) s0_0 t227 t228) else (none)) = some (r1, r2, r3, r4) := H; have A13 := am_ A130; clear A130; by_cases c14 : x4_1.length < 1172812402961
 rotate_left
 ·rw [if_neg c14] at H; exact absurd H (by simp)
 rw [if_pos c14] at H; have LMc14 := am_ c14; clear c14; obtain ⟨y229, hy229⟩ : ∃ y_ : List (S45), y_ = (x4_1 ++ [(⟨t212, t213, t214, t215, t216, t217, t218, t221, t224⟩ : S45)]) := ⟨_, rfl⟩
 replace H : (code_place_list.l0 k1 a1 y229 s0_0 t227 t228) = some (r1, r2, r3, r4) := by first | (rw [hy229]; with_reducible exact H) | (have H2_ := (Option.bind_some _ _).symm.trans H; rw [hy229]; with_reducible exact H2_) | (have H2_ := (Option.bind_some _ _).symm.trans H; with_reducible exact H2_) | with_reducible exact H | (rw [hy229]; exact H) | exact H
 have Ny229 := am_ hy229; clear hy229; have H' := am_ H; clear H
 go_wp2_with (first | ((with_reducible refine gate_callee (f := 34) rfl ?_); refine goesL_ (some 8) rfl rfl Try.func34 (by kernel_rfl) rfl #[.pointer (some ⟨g, 0, none⟩)] rfl aa_2 ?_; (with_reducible refine (code_place_next.calls g s0_0 x1001_1 x1002_1 t209 t210 false w0 _ ?side1 ?side2 A3.out).mono ?_); (case side1 => exact aa_3); (case side2 => exact aa_4); rintro e w15 ⟨rfl, hi, hb, hk⟩; refine ⟨_, rfl, ?_⟩; have N_ := m_ (Kd.R_mono (Kd.R_keep (IsS53.apart (show IsS53 w0 _ g s0_0 x1001_1 x1002_1 from by repeat (first | (with_reducible first | exact HI0.out | apply IsS53.alloc | apply IsS53.drewN | apply IsS53.drew | apply IsS53.set_1 | apply IsS53.set_2) | exact HI0.out)) aa_1 (by decide)) hk (fun _ h => h.2)) (fun _ h => h.1)) <| m_ (KeepBut.trans aa_0 hk (.inl rfl)) <| m_ (hb) <| am_ (hi); clear HO_4 HK HB HI0; obtain ⟨HO_4, HK, HB, HI0⟩ := N_; (try clear hb); (try clear hb2); (try clear hk); (try clear hi); obtain ⟨ASz16_0, cSz16_0, HGz16, hgz16, HSz16_0⟩ := HI0.out; have Z16_0 := cellS53_0 HGz16; have Z16_1 := cellS53_1 HGz16; have Z16_2 := cellS53_2 HGz16; have Y16_1 := blk_frozen HGz16 1; have Y16_2 := blk_frozen HGz16 2; clear HGz16 hgz16) | ((with_reducible refine gate_callee (f := 35) rfl ?_); refine goesL_ (some 27) rfl rfl Try.func35 (by kernel_rfl) rfl #[.pointer (some ⟨g, 0, none⟩), .int .i64 t209, .int .i64 a1] rfl aa_2 ?_; (with_reducible refine (code_place_list.q.step k1 (fun j_ hj_ => ih j_ (by have := HK1.out; omega)) g s0_0 t210 false t209 a1 t212 t213 t214 t215 t216 t217 t218 t221 t224 t227 t228 w0 _ ?side1 ?side2 A13.out).mono ?_); (case side1 => exact aa_3); (case side2 => exact aa_4); rintro e w17 ⟨v219, v222, v225, rfl, ho0, ho1, ho2, hi, hb, hk⟩; refine ⟨_, rfl, ?_⟩; have N_ := m_ (Kd.R_mono (Kd.R_told (Kd.R_told (Kd.R_told (Kd.R_oldK (IsS53.apart (show IsS53 w0 _ g s0_0 t210 false from by repeat (first | (with_reducible first | exact HI0.out | apply IsS53.alloc | apply IsS53.drewN | apply IsS53.drew | apply IsS53.set_1 | apply IsS53.set_2) | exact HI0.out)) aa_1 (by decide)) hk) (Kd.R_base ho0)) (Kd.R_base ho1)) (Kd.R_base ho2)) (fun _ h_ => h_.1)) <| m_ (Kd.R_lower ho0 (keep_size (w := w) (g := g) (row := none) aa_0)) <| m_ (Kd.R_lower (Kd.R_new' ho1 (Kd.R_lt aa_1)) (keep_size (w := w) (g := g) (row := none) aa_0)) <| m_ (Kd.R_lower (Kd.R_new' ho2 (Kd.R_lt aa_1)) (keep_size (w := w) (g := g) (row := none) aa_0)) <| m_ (KeepBut.trans aa_0 hk (.inl rfl)) <| m_ (hb) <| am_ (hi); clear HO_4 HK HB HI0; obtain ⟨HO_4, HO220, HO223, HO226, HK, HB, HI0⟩ := N_; (try clear hb); (try clear hb2); (try clear hk); (try clear hi); (try clear ho0); (try clear ho1); (try clear ho2); obtain ⟨Ao19, co19, eo19⟩ := Kd.R_slice HO220.out; subst eo19; obtain ⟨Ao20, co20, eo20⟩ := Kd.R_slice HO223.out; subst eo20; obtain ⟨Ao21, co21, eo21⟩ := Kd.R_slice HO226.out; subst eo21) | ((with_reducible refine gate_builtin (b := .append) (xs := #[.tmp 23, .tmp 28]) rfl ?_); at_builtin; refine Kd.R_append k45 w.heap.size rfl (.tmp 23) (.tmp 28) 23 45 (.agg #[(.int .i64 0), (.int .i64 0), (.int .i64 0), (.int .i64 0), (.int .i64 0), (.int .i64 0), (.slice none 0 0), (.slice none 0 0), (.slice none 0 0)]) 120 rfl Try.underlying23 info45 rfl (by decide) (by omega) u4 x4_1 (⟨t212, t213, t214, t215, t216, t217, t218, t221, t224⟩ : S45) [.int .i64 t212, .int .i64 t213, .int .i64 t214, .int .i64 t215, .int .i64 t216, .int .i64 t217, .slice Ao19 t218.length co19, .slice Ao20 t221.length co20, .slice Ao21 t224.length co21] (fun _ => True) (fun k_ => ((fun _ => True)) k_ ∧ some k_ ≠ (u4 : Value).ownBlock) rfl rfl ?aP (fun _ hk => hk) ?aF ?aO (Below.refl _ _) ?aS ?aL ?_; (case aP => exact k45_mkM _ _ _ (⟨t212, t213, t214, t215, t216, t217, t218, t221, t224⟩ : S45) (Kd.R_mono (Kd.R_apart' (HO220.out) (Kd.R_typed HO_4.out) (by decide)) (fun k_ hk => ⟨trivial, hk.2⟩)) (Kd.R_mono (HO223.out) (fun k_ hk => ⟨trivial, hk.2⟩)) (Kd.R_mono (HO226.out) (fun k_ hk => ⟨trivial, hk.2⟩))); (case aF => exact (fun _ _ => trivial)); (case aO => exact (by (with_reducible repeat (first | apply Kd.R_alloc | apply Kd.R_drewN | apply Kd.R_drew)); exact Kd.R_mono HO_4.out (fun _ hk => trivial))); (case aS => exact (keep_size (w := w) (g := g) (row := none) aa_0)); (case aL => have := LMc14.out; omega); intro v230 w18 ho hb hg hat; rw [← Ny229.out] at ho; have N_ := m_ (IsS53.grown (by repeat (first | (with_reducible first | exact HI0.out | apply IsS53.alloc | apply IsS53.drewN | apply IsS53.drew | apply IsS53.set_1 | apply IsS53.set_2) | exact HI0.out)) hg (IsS53.own_ne HI0.out HO_4.out (by decide))) <| m_ (below_weaken (by repeat (first | (with_reducible first | exact HB.out | apply below_alloc | apply pw_below_drewN | apply below_drew1 | refine below_set ?_ (IsS53.ge HI0.out)) | exact HB.out)) HL.out hb) <| m_ (KeepBut.trans aa_0 (KeepBut.of_grown hg g) (Kd.R_base2 HO_4.out)) <| am_ (ho); clear HI0 HB HK HO_4 HO220 HO223 HO226; obtain ⟨HI0, HB, HK, HO231⟩ := N_; clear ho hb hg hat))
 go_roundg k1
 case measure => have := HK1.out; omega
 case rel => exact ⟨(y229), (t227), (t228), H', ⟨by have := HK1.out; omega⟩, ⟨by (with_reducible repeat (first | apply Kd.R_alloc | apply Kd.R_drewN | apply Kd.R_drew)); exact HO231.out⟩, ⟨aa_3⟩, ⟨aa_0⟩, ⟨aa_4⟩⟩
theorem code_place_list.q.calls (k : Nat) : ∀ (g : Nat) (s0_0 : List Int) (s0_1 : Int) (s0_2 : Bool) (a1 : Int) (a2 : Int) (r1 : Int) (r2 : Int) (r3 : Int) (r4 : Int) (r5 : Int) (r6 : Int) (r7 : List Int) (r8 : List (S45)) (r9 : List (S45)) (r10 : Int) (r11 : Bool) (w0 w : World) (hI : IsS53 w0 w g s0_0 s0_1 s0_2) (hB : Below w0.heap.size w0 w) (h : code_place_list.q.f k s0_0 s0_1 s0_2 a1 a2 = some (r1, r2, r3, r4, r5, r6, r7, r8, r9, r10, r11)),
  Calls Try.prog 35 #[.pointer (some ⟨g, 0, none⟩), .int .i64 a1, .int .i64 a2] w fun e w' => ∃ v6_ v7_ v8_ : Value, e = .returned (.agg #[.int .i64 r1, .int .i64 r2, .int .i64 r3, .int .i64 r4, .int .i64 r5, .int .i64 r6, v6_, v7_, v8_]) ∧ Kd.R (Kd.int .i64) 3 w' w.heap.size (fun _ => True) v6_ r7 ∧ Kd.R k45 45 w' w.heap.size (fun k_ => some k_ ≠ (v6_ : Value).ownBlock ∧ some k_ ≠ (v8_ : Value).ownBlock) v7_ r8 ∧ Kd.R k45 45 w' w.heap.size (fun k_ => some k_ ≠ (v6_ : Value).ownBlock ∧ some k_ ≠ (v7_ : Value).ownBlock) v8_ r9 ∧ IsS53 w0 w' g s0_0 r10 r11 ∧ Below w0.heap.size w0 w' ∧ KeepBut w w' g none := code_place_list.q.step k (fun j_ _ => code_place_list.calls j_)

theorem code_Decode.eb {α : Type} [BEq α] [LawfulBEq α] {a b : α} (h : a = b) : (a == b) = true ∧ (a != b) = false := ⟨beq_iff_eq.mpr h, bne_eq_false_iff_eq.mpr h⟩
theorem code_Decode.nb {α : Type} [BEq α] [LawfulBEq α] {a b : α} (h : ¬ a = b) : (a == b) = false ∧ (a != b) = true := ⟨beq_eq_false_iff_ne.mpr h, bne_iff_ne.mpr h⟩
theorem code_Decode.m_ {p q : Prop} (h : p) (k : q) : Aside0 p ∧ q := ⟨Aside0.mk h, k⟩
abbrev code_Decode.t : Bool := true
def code_Decode.f (k : Nat) (l0 : List Int) : Option ((List (S45)) × Int × Int) := (code_place_list.f k l0 0 false 0).bind fun bt233 => (if bt233.2.2.2 = true then (some (([] : List (S45)), 0, 100)) else (if bt233.2.1 = 11 then (some (bt233.1, bt233.2.2.1, 0)) else (some (([] : List (S45)), 0, 100))))
theorem code_Decode.mono : ∀ a0 k, LeO (code_Decode.f k a0) (code_Decode.f (k + 1) a0) := by
 intro a0 k
 unfold code_Decode.f
 repeat' first
   | (with_reducible exact code_place_list.mono _ _ _ _ _)
   | (with_reducible exact LeO.refl _)
   | (with_reducible exact LeO.none _)
   | (with_reducible refine LeO.ite ?_ ?_)
   | (with_reducible refine LeO.bind ?_ (fun _ => ?_))
   | exact code_place_list.mono _ _ _ _ _
   | exact LeO.none _
   | refine LeO.ite ?_ ?_
   | refine LeO.bind ?_ (fun _ => ?_)
theorem code_Decode.aa_0 {p : Prop} (h : p := by repeat (first | (with_reducible first | exact HB.out | apply below_alloc | apply pw_below_drewN | apply below_drew1) | exact HB.out)) : p := h
theorem code_Decode.aa_1 {p : Prop} (h : p := by repeat (first | (with_reducible first | exact HB.out | apply below_alloc | apply pw_below_drewN | apply below_drew1 | refine below_set ?_ (IsS53.ge HI232.out)) | exact HB.out)) : p := h
theorem code_Decode.aa_2 {p : Prop} (h : p := by repeat (first | (with_reducible first | exact HI232.out | apply IsS53.alloc | apply IsS53.drewN | apply IsS53.drew | apply IsS53.set_1 | apply IsS53.set_2) | exact HI232.out)) : p := h
theorem code_Decode.am_ {p : Prop} (h : p) : Aside0 p := Aside0.mk h
theorem code_Decode.bm_ {α β : Type _} {o : Option α} {f : α → Option β} {b : β} (h : o.bind f = some b) : ∃ a, o = some a ∧ f a = some b := Option.bind_eq_some_iff.mp h
set_option maxHeartbeats 8000000 in
set_option maxRecDepth 100000 in
theorem code_Decode.calls (k : Nat) (A0 : Option Addr) (c0 : Nat) (l0 : List Int) (r1 : List (S45)) (r2 : Int) (r3 : Int) (w : World) (hr0 : Kd.C (Kd.int .u8) w A0 l0.length l0) (hc0 : l0.length ≤ c0) (h : code_Decode.f k l0 = some (r1, r2, r3)) :
  Calls Try.prog 11 #[.slice A0 l0.length c0] w fun e w' => ∃ v0_ : Value, e = .returned (.tuple #[v0_, .int .i64 r2, .int .i64 r3]) ∧ Kd.R k45 45 w' w.heap.size (fun _ => True) v0_ r1 ∧ Below w.heap.size w w' := by
 have hu53 := Try.underlying53; have HR0 := am_ hr0; have HC0 := am_ hc0; clear hr0 hc0; have HB := am_ (Below.refl w.heap.size w); have H : ((code_place_list.f k l0 0 false 0).bind fun bt233 => (if bt233.2.2.2 = true then (some (([] : List (S45)), 0, 100)) else (if bt233.2.1 = 11 then (some (bt233.1, bt233.2.2.1, 0)) else (some (([] : List (S45)), 0, 100))))) = some (r1, r2, r3) := h; clear h; replace H := bm_ H; obtain ⟨⟨t233, t236, t237, t238⟩, A20, H⟩ := H; replace H : (if t238 = true then (some (([] : List (S45)), 0, 100)) else (if t236 = 11 then (some (t233, t237, 0)) else (some (([] : List (S45)), 0, 100)))) = some (r1, r2, r3) := H; have A2 := am_ A20; clear A20; by_cases c3 : t238 = true
 ·subst c3; have H1 : (some (([] : List (S45)), 0, 100)) = some (r1, r2, r3) := by rw [if_pos rfl] at H; exact H
  clear H; have H := H1; clear H1; simp only [Option.some.injEq, Prod.mk.injEq] at H; obtain ⟨rfl, rfl, rfl⟩ := H; go_enter Try.func11, Try.ntmps11
  go_wp2_with (first | ((with_reducible refine gate_dst (N := 9) rfl ?_); refine box_event ?hg (N := 9) ?hd (cs := #[.slice A0 l0.length c0, .int .i64 0, .bool false]) (t := 53) ?hr ?_; (case hd => rfl); (case hg => rfl); (case hr => first | (go_simp; done) | (go_simp; rfl)); intro g232 hg w4 hbox hb; have N_ := m_ (below_step aa_0 hb) <| am_ ((show IsS53 w w4 g232 l0 0 false from ⟨_, _, hbox, (by rw [hg]; exact (below_size aa_0)), ⟨HC0.out, HR0.out⟩⟩)); clear HB; obtain ⟨HB, HI232⟩ := N_; clear hb hbox hg) | (go_at_call 24; (with_reducible refine (code_place_list.calls k g232 l0 0 false 0 t233 t236 t237 true w _ ?side1 ?side2 A2.out).mono ?_); (case side1 => exact aa_2); (case side2 => exact aa_1); rintro e w5 ⟨v234, rfl, ho0, hi, hb, hk⟩; have N_ := m_ (Kd.R_lower ho0 (below_size aa_1)) <| m_ (hb) <| am_ (hi); clear HB HI232; obtain ⟨HO235, HB, HI232⟩ := N_; (try clear hb); (try clear hb2); (try clear hk); (try clear hi); (try clear ho0); obtain ⟨ASz6_0, cSz6_0, HGz6, hgz6, HSz6_0⟩ := HI232.out; have Z6_0 := cellS53_0 HGz6; have Z6_1 := cellS53_1 HGz6; have Z6_2 := cellS53_2 HGz6; have Y6_1 := blk_frozen HGz6 1; have Y6_2 := blk_frozen HGz6 2; clear HGz6 hgz6))
  repeat (go_quiet (first | ((with_reducible refine gate_dst (N := 9) rfl ?_); refine box_event ?hg (N := 9) ?hd (cs := #[.slice A0 l0.length c0, .int .i64 0, .bool false]) (t := 53) ?hr ?_; (case hd => rfl); (case hg => rfl); (case hr => first | (go_simp; done) | (go_simp; rfl)); intro g232 hg w4 hbox hb; have N_ := m_ (below_step aa_0 hb) <| am_ ((show IsS53 w w4 g232 l0 0 false from ⟨_, _, hbox, (by rw [hg]; exact (below_size aa_0)), ⟨HC0.out, HR0.out⟩⟩)); clear HB; obtain ⟨HB, HI232⟩ := N_; clear hb hbox hg) | (go_at_call 24; (with_reducible refine (code_place_list.calls k g232 l0 0 false 0 t233 t236 t237 true w _ ?side1 ?side2 A2.out).mono ?_); (case side1 => exact aa_2); (case side2 => exact aa_1); rintro e w5 ⟨v234, rfl, ho0, hi, hb, hk⟩; have N_ := m_ (Kd.R_lower ho0 (below_size aa_1)) <| m_ (hb) <| am_ (hi); clear HB HI232; obtain ⟨HO235, HB, HI232⟩ := N_; (try clear hb); (try clear hb2); (try clear hk); (try clear hi); (try clear ho0); obtain ⟨ASz6_0, cSz6_0, HGz6, hgz6, HSz6_0⟩ := HI232.out; have Z6_0 := cellS53_0 HGz6; have Z6_1 := cellS53_1 HGz6; have Z6_2 := cellS53_2 HGz6; have Y6_1 := blk_frozen HGz6 1; have Y6_2 := blk_frozen HGz6 2; clear HGz6 hgz6)); try go_wp2_with (first | ((with_reducible refine gate_dst (N := 9) rfl ?_); refine box_event ?hg (N := 9) ?hd (cs := #[.slice A0 l0.length c0, .int .i64 0, .bool false]) (t := 53) ?hr ?_; (case hd => rfl); (case hg => rfl); (case hr => first | (go_simp; done) | (go_simp; rfl)); intro g232 hg w4 hbox hb; have N_ := m_ (below_step aa_0 hb) <| am_ ((show IsS53 w w4 g232 l0 0 false from ⟨_, _, hbox, (by rw [hg]; exact (below_size aa_0)), ⟨HC0.out, HR0.out⟩⟩)); clear HB; obtain ⟨HB, HI232⟩ := N_; clear hb hbox hg) | (go_at_call 24; (with_reducible refine (code_place_list.calls k g232 l0 0 false 0 t233 t236 t237 true w _ ?side1 ?side2 A2.out).mono ?_); (case side1 => exact aa_2); (case side2 => exact aa_1); rintro e w5 ⟨v234, rfl, ho0, hi, hb, hk⟩; have N_ := m_ (Kd.R_lower ho0 (below_size aa_1)) <| m_ (hb) <| am_ (hi); clear HB HI232; obtain ⟨HO235, HB, HI232⟩ := N_; (try clear hb); (try clear hb2); (try clear hk); (try clear hi); (try clear ho0); obtain ⟨ASz6_0, cSz6_0, HGz6, hgz6, HSz6_0⟩ := HI232.out; have Z6_0 := cellS53_0 HGz6; have Z6_1 := cellS53_1 HGz6; have Z6_2 := cellS53_2 HGz6; have Y6_1 := blk_frozen HGz6 1; have Y6_2 := blk_frozen HGz6 2; clear HGz6 hgz6)))
  go_ret3
  exact ⟨_, er_, nl_, by repeat (first | (with_reducible first | exact HB.out | apply below_alloc | apply pw_below_drewN | apply below_drew1 | refine below_set ?_ (IsS53.ge HI232.out)) | exact HB.out)⟩
 replace c3 := Bool.eq_false_iff.mpr c3; subst c3; have H1 : (if t236 = 11 then (some (t233, t237, 0)) else (some (([] : List (S45)), 0, 100))) = some (r1, r2, r3) := by rw [if_neg (show ¬ (false = true) by decide)] at H; exact H
 clear H; have H := H1; clear H1; by_cases c7 : t236 = 11
 ·rw [if_pos c7] at H; obtain ⟨c7b0, c7b1⟩ := eb c7; clear c7; simp only [Option.some.injEq, Prod.mk.injEq] at H; obtain ⟨rfl, rfl, rfl⟩ := H; go_enter Try.func11, Try.ntmps11
  go_wp2_with (first | ((with_reducible refine gate_dst (N := 9) rfl ?_); refine box_event ?hg (N := 9) ?hd (cs := #[.slice A0 l0.length c0, .int .i64 0, .bool false]) (t := 53) ?hr ?_; (case hd => rfl); (case hg => rfl); (case hr => first | (go_simp; done) | (go_simp; rfl)); intro g232 hg w8 hbox hb; have N_ := m_ (below_step aa_0 hb) <| am_ ((show IsS53 w w8 g232 l0 0 false from ⟨_, _, hbox, (by rw [hg]; exact (below_size aa_0)), ⟨HC0.out, HR0.out⟩⟩)); clear HB; obtain ⟨HB, HI232⟩ := N_; clear hb hbox hg) | (go_at_call 24; (with_reducible refine (code_place_list.calls k g232 l0 0 false 0 t233 t236 t237 false w _ ?side1 ?side2 A2.out).mono ?_); (case side1 => exact aa_2); (case side2 => exact aa_1); rintro e w9 ⟨v234, rfl, ho0, hi, hb, hk⟩; have N_ := m_ (Kd.R_lower ho0 (below_size aa_1)) <| m_ (hb) <| am_ (hi); clear HB HI232; obtain ⟨HO235, HB, HI232⟩ := N_; (try clear hb); (try clear hb2); (try clear hk); (try clear hi); (try clear ho0); obtain ⟨ASz10_0, cSz10_0, HGz10, hgz10, HSz10_0⟩ := HI232.out; have Z10_0 := cellS53_0 HGz10; have Z10_1 := cellS53_1 HGz10; have Z10_2 := cellS53_2 HGz10; have Y10_1 := blk_frozen HGz10 1; have Y10_2 := blk_frozen HGz10 2; clear HGz10 hgz10))
  repeat (go_quiet (first | ((with_reducible refine gate_dst (N := 9) rfl ?_); refine box_event ?hg (N := 9) ?hd (cs := #[.slice A0 l0.length c0, .int .i64 0, .bool false]) (t := 53) ?hr ?_; (case hd => rfl); (case hg => rfl); (case hr => first | (go_simp; done) | (go_simp; rfl)); intro g232 hg w8 hbox hb; have N_ := m_ (below_step aa_0 hb) <| am_ ((show IsS53 w w8 g232 l0 0 false from ⟨_, _, hbox, (by rw [hg]; exact (below_size aa_0)), ⟨HC0.out, HR0.out⟩⟩)); clear HB; obtain ⟨HB, HI232⟩ := N_; clear hb hbox hg) | (go_at_call 24; (with_reducible refine (code_place_list.calls k g232 l0 0 false 0 t233 t236 t237 false w _ ?side1 ?side2 A2.out).mono ?_); (case side1 => exact aa_2); (case side2 => exact aa_1); rintro e w9 ⟨v234, rfl, ho0, hi, hb, hk⟩; have N_ := m_ (Kd.R_lower ho0 (below_size aa_1)) <| m_ (hb) <| am_ (hi); clear HB HI232; obtain ⟨HO235, HB, HI232⟩ := N_; (try clear hb); (try clear hb2); (try clear hk); (try clear hi); (try clear ho0); obtain ⟨ASz10_0, cSz10_0, HGz10, hgz10, HSz10_0⟩ := HI232.out; have Z10_0 := cellS53_0 HGz10; have Z10_1 := cellS53_1 HGz10; have Z10_2 := cellS53_2 HGz10; have Y10_1 := blk_frozen HGz10 1; have Y10_2 := blk_frozen HGz10 2; clear HGz10 hgz10)); try go_wp2_with (first | ((with_reducible refine gate_dst (N := 9) rfl ?_); refine box_event ?hg (N := 9) ?hd (cs := #[.slice A0 l0.length c0, .int .i64 0, .bool false]) (t := 53) ?hr ?_; (case hd => rfl); (case hg => rfl); (case hr => first | (go_simp; done) | (go_simp; rfl)); intro g232 hg w8 hbox hb; have N_ := m_ (below_step aa_0 hb) <| am_ ((show IsS53 w w8 g232 l0 0 false from ⟨_, _, hbox, (by rw [hg]; exact (below_size aa_0)), ⟨HC0.out, HR0.out⟩⟩)); clear HB; obtain ⟨HB, HI232⟩ := N_; clear hb hbox hg) | (go_at_call 24; (with_reducible refine (code_place_list.calls k g232 l0 0 false 0 t233 t236 t237 false w _ ?side1 ?side2 A2.out).mono ?_); (case side1 => exact aa_2); (case side2 => exact aa_1); rintro e w9 ⟨v234, rfl, ho0, hi, hb, hk⟩; have N_ := m_ (Kd.R_lower ho0 (below_size aa_1)) <| m_ (hb) <| am_ (hi); clear HB HI232; obtain ⟨HO235, HB, HI232⟩ := N_; (try clear hb); (try clear hb2); (try clear hk); (try clear hi); (try clear ho0); obtain ⟨ASz10_0, cSz10_0, HGz10, hgz10, HSz10_0⟩ := HI232.out; have Z10_0 := cellS53_0 HGz10; have Z10_1 := cellS53_1 HGz10; have Z10_2 := cellS53_2 HGz10; have Y10_1 := blk_frozen HGz10 1; have Y10_2 := blk_frozen HGz10 2; clear HGz10 hgz10)))
  go_ret3
  exact ⟨_, er_, by (with_reducible repeat (first | apply Kd.R_alloc | apply Kd.R_drewN | apply Kd.R_drew)); exact HO235.out, by repeat (first | (with_reducible first | exact HB.out | apply below_alloc | apply pw_below_drewN | apply below_drew1 | refine below_set ?_ (IsS53.ge HI232.out)) | exact HB.out)⟩
 rw [if_neg c7] at H; obtain ⟨c7b0, c7b1⟩ := nb c7; simp only [Option.some.injEq, Prod.mk.injEq] at H; obtain ⟨rfl, rfl, rfl⟩ := H; go_enter Try.func11, Try.ntmps11
 go_wp2_with (first | ((with_reducible refine gate_dst (N := 9) rfl ?_); refine box_event ?hg (N := 9) ?hd (cs := #[.slice A0 l0.length c0, .int .i64 0, .bool false]) (t := 53) ?hr ?_; (case hd => rfl); (case hg => rfl); (case hr => first | (go_simp; done) | (go_simp; rfl)); intro g232 hg w11 hbox hb; have N_ := m_ (below_step aa_0 hb) <| am_ ((show IsS53 w w11 g232 l0 0 false from ⟨_, _, hbox, (by rw [hg]; exact (below_size aa_0)), ⟨HC0.out, HR0.out⟩⟩)); clear HB; obtain ⟨HB, HI232⟩ := N_; clear hb hbox hg) | (go_at_call 24; (with_reducible refine (code_place_list.calls k g232 l0 0 false 0 t233 t236 t237 false w _ ?side1 ?side2 A2.out).mono ?_); (case side1 => exact aa_2); (case side2 => exact aa_1); rintro e w12 ⟨v234, rfl, ho0, hi, hb, hk⟩; have N_ := m_ (Kd.R_lower ho0 (below_size aa_1)) <| m_ (hb) <| am_ (hi); clear HB HI232; obtain ⟨HO235, HB, HI232⟩ := N_; (try clear hb); (try clear hb2); (try clear hk); (try clear hi); (try clear ho0); obtain ⟨ASz13_0, cSz13_0, HGz13, hgz13, HSz13_0⟩ := HI232.out; have Z13_0 := cellS53_0 HGz13; have Z13_1 := cellS53_1 HGz13; have Z13_2 := cellS53_2 HGz13; have Y13_1 := blk_frozen HGz13 1; have Y13_2 := blk_frozen HGz13 2; clear HGz13 hgz13))
 repeat (go_quiet (first | ((with_reducible refine gate_dst (N := 9) rfl ?_); refine box_event ?hg (N := 9) ?hd (cs := #[.slice A0 l0.length c0, .int .i64 0, .bool false]) (t := 53) ?hr ?_; (case hd => rfl); (case hg => rfl); (case hr => first | (go_simp; done) | (go_simp; rfl)); intro g232 hg w11 hbox hb; have N_ := m_ (below_step aa_0 hb) <| am_ ((show IsS53 w w11 g232 l0 0 false from ⟨_, _, hbox, (by rw [hg]; exact (below_size aa_0)), ⟨HC0.out, HR0.out⟩⟩)); clear HB; obtain ⟨HB, HI232⟩ := N_; clear hb hbox hg) | (go_at_call 24; (with_reducible refine (code_place_list.calls k g232 l0 0 false 0 t233 t236 t237 false w _ ?side1 ?side2 A2.out).mono ?_); (case side1 => exact aa_2); (case side2 => exact aa_1); rintro e w12 ⟨v234, rfl, ho0, hi, hb, hk⟩; have N_ := m_ (Kd.R_lower ho0 (below_size aa_1)) <| m_ (hb) <| am_ (hi); clear HB HI232; obtain ⟨HO235, HB, HI232⟩ := N_; (try clear hb); (try clear hb2); (try clear hk); (try clear hi); (try clear ho0); obtain ⟨ASz13_0, cSz13_0, HGz13, hgz13, HSz13_0⟩ := HI232.out; have Z13_0 := cellS53_0 HGz13; have Z13_1 := cellS53_1 HGz13; have Z13_2 := cellS53_2 HGz13; have Y13_1 := blk_frozen HGz13 1; have Y13_2 := blk_frozen HGz13 2; clear HGz13 hgz13)); try go_wp2_with (first | ((with_reducible refine gate_dst (N := 9) rfl ?_); refine box_event ?hg (N := 9) ?hd (cs := #[.slice A0 l0.length c0, .int .i64 0, .bool false]) (t := 53) ?hr ?_; (case hd => rfl); (case hg => rfl); (case hr => first | (go_simp; done) | (go_simp; rfl)); intro g232 hg w11 hbox hb; have N_ := m_ (below_step aa_0 hb) <| am_ ((show IsS53 w w11 g232 l0 0 false from ⟨_, _, hbox, (by rw [hg]; exact (below_size aa_0)), ⟨HC0.out, HR0.out⟩⟩)); clear HB; obtain ⟨HB, HI232⟩ := N_; clear hb hbox hg) | (go_at_call 24; (with_reducible refine (code_place_list.calls k g232 l0 0 false 0 t233 t236 t237 false w _ ?side1 ?side2 A2.out).mono ?_); (case side1 => exact aa_2); (case side2 => exact aa_1); rintro e w12 ⟨v234, rfl, ho0, hi, hb, hk⟩; have N_ := m_ (Kd.R_lower ho0 (below_size aa_1)) <| m_ (hb) <| am_ (hi); clear HB HI232; obtain ⟨HO235, HB, HI232⟩ := N_; (try clear hb); (try clear hb2); (try clear hk); (try clear hi); (try clear ho0); obtain ⟨ASz13_0, cSz13_0, HGz13, hgz13, HSz13_0⟩ := HI232.out; have Z13_0 := cellS53_0 HGz13; have Z13_1 := cellS53_1 HGz13; have Z13_2 := cellS53_2 HGz13; have Y13_1 := blk_frozen HGz13 1; have Y13_2 := blk_frozen HGz13 2; clear HGz13 hgz13)))
 go_ret3
 exact ⟨_, er_, nl_, by repeat (first | (with_reducible first | exact HB.out | apply below_alloc | apply pw_below_drewN | apply below_drew1 | refine below_set ?_ (IsS53.ge HI232.out)) | exact HB.out)⟩
/-- A state of type 57 at block g of W; what its slices lead to came in by w0. -/
def IsS57 (w0 W : World) (g : Nat) (f0 : List Int) (f1 : Int) (f2 : Bool) : Prop := ∃ A0 c0, W.heap[g]? = some (.cells #[.slice A0 f0.length c0, .int .i64 f1, .bool f2] 57 (0, 0)) ∧ w0.heap.size ≤ g ∧ (f0.length ≤ c0 ∧ Kd.C (Kd.int .u8) w0 A0 f0.length f0)
theorem IsS57.grown {w0 W : World} {g : Nat} {f0 : List Int} {f1 : Int} {f2 : Bool} {W1 : World} {row : Option Nat} (h : IsS57 w0 W g f0 f1 f2) (hw : W.grownBy W1 row) (hne : some g ≠ row) : IsS57 w0 W1 g f0 f1 f2 := by
  obtain ⟨A0, c0, hb, hg, hr0⟩ := h
  exact ⟨A0, c0, blk_grown hb hw hne, hg, hr0⟩
theorem IsS57.kept {w0 W : World} {g : Nat} {f0 : List Int} {f1 : Int} {f2 : Bool} {W1 : World} {S : Nat → Prop} (h : IsS57 w0 W g f0 f1 f2) (hk : Kept W W1 S) (hne : ¬ S g) : IsS57 w0 W1 g f0 f1 f2 := by
  obtain ⟨A0, c0, hb, hg, hr0⟩ := h
  exact ⟨A0, c0, blk_kept hb hk hne, hg, hr0⟩
theorem IsS57.below {w0 W : World} {g : Nat} {f0 : List Int} {f1 : Int} {f2 : Bool} {W1 : World} (h : IsS57 w0 W g f0 f1 f2) (hw : Below W.heap.size W W1) : IsS57 w0 W1 g f0 f1 f2 := h.grown (grown_of_below hw none) (by simp)
theorem IsS57.alloc {w0 W : World} {g : Nat} {f0 : List Int} {f1 : Int} {f2 : Bool} (h : IsS57 w0 W g f0 f1 f2) (o : Obj) : IsS57 w0 (W.alloc o) g f0 f1 f2 := h.below (below_alloc (Below.refl _ _) o)
theorem IsS57.drewN {w0 W : World} {g : Nat} {f0 : List Int} {f1 : Int} {f2 : Bool} (h : IsS57 w0 W g f0 f1 f2) (m : Nat) : IsS57 w0 (W.drewN m) g f0 f1 f2 := h
theorem IsS57.drew {w0 W : World} {g : Nat} {f0 : List Int} {f1 : Int} {f2 : Bool} (h : IsS57 w0 W g f0 f1 f2) : IsS57 w0 W.drew g f0 f1 f2 := h
theorem IsS57.at_ {w0 W : World} {g : Nat} {f0 : List Int} {f1 : Int} {f2 : Bool} {w' : World} {m : Nat} (hq : W.drewN m = w') (h : IsS57 w0 W g f0 f1 f2) : IsS57 w0 w' g f0 f1 f2 := by subst hq; exact IsS57.drewN h m
theorem IsS57.apart {w0 W : World} {g : Nat} {f0 : List Int} {f1 : Int} {f2 : Bool} {α : Type} {d : Kd α} {e : Nat} {base : Nat} {ok : Nat → Prop} {v : Value} {xs : List α} (h : IsS57 w0 W g f0 f1 f2) (ho : d.R e W base ok v xs) (ht : ∀ q, q ∈ e :: d.E → q ≠ 57) : d.R e W base (fun k => ok k ∧ k ≠ g) v xs := by
  obtain ⟨A0, c0, hb, hg, hr0⟩ := h
  exact Kd.R_types ho hb ht
theorem IsS57.own_ne {w0 W : World} {g : Nat} {f0 : List Int} {f1 : Int} {f2 : Bool} {α : Type} {d : Kd α} {e : Nat} {base : Nat} {ok : Nat → Prop} {v : Value} {xs : List α} (h : IsS57 w0 W g f0 f1 f2) (ho : d.R e W base ok v xs) (ht : e ≠ 57) : some g ≠ v.ownBlock := by
  obtain ⟨A0, c0, hb, hg, hr0⟩ := h
  exact Kd.R_ne ho hb ht
theorem IsS57.lt {w0 W : World} {g : Nat} {f0 : List Int} {f1 : Int} {f2 : Bool} (h : IsS57 w0 W g f0 f1 f2) : g < W.heap.size := by
  obtain ⟨A0, c0, hb, hg, hr0⟩ := h
  exact blk_lt hb
theorem IsS57.ge {w0 W : World} {g : Nat} {f0 : List Int} {f1 : Int} {f2 : Bool} (h : IsS57 w0 W g f0 f1 f2) : w0.heap.size ≤ g := by
  obtain ⟨A0, c0, hb, hg, hr0⟩ := h
  exact hg
theorem IsS57.far {w0 W : World} {g : Nat} {f0 : List Int} {f1 : Int} {f2 : Bool} {p : Addr} (h : IsS57 w0 W g f0 f1 f2) (hne : g ≠ p.block) (u : Value) : IsS57 w0 (W.setCell p u) g f0 f1 f2 := by
  obtain ⟨A0, c0, hb, hg, hr0⟩ := h
  exact ⟨A0, c0, blk_far hb hne u, hg, hr0⟩
theorem cellS57_0 {W : World} {g : Nat} {A0 : Option Addr} {c0 : Nat} {f0 : List Int} {f1 : Int} {f2 : Bool} (h : W.heap[g]? = some (.cells #[.slice A0 f0.length c0, .int .i64 f1, .bool f2] 57 (0, 0))) : W.cell? ⟨g, 0, none⟩ = some (.slice A0 f0.length c0) := (blk_cell h 0).trans rfl
theorem cellS57_1 {W : World} {g : Nat} {A0 : Option Addr} {c0 : Nat} {f0 : List Int} {f1 : Int} {f2 : Bool} (h : W.heap[g]? = some (.cells #[.slice A0 f0.length c0, .int .i64 f1, .bool f2] 57 (0, 0))) : W.cell? ⟨g, 1, none⟩ = some (.int .i64 f1) := (blk_cell h 1).trans rfl
theorem IsS57.set_1 {w0 W : World} {g : Nat} {f0 : List Int} {f1 : Int} {f2 : Bool} (h : IsS57 w0 W g f0 f1 f2) (x : Int) : IsS57 w0 (W.setCell ⟨g, 1, none⟩ (.int .i64 x)) g f0 x f2 := by
  obtain ⟨A0, c0, hb, hg, hr0⟩ := h
  exact ⟨A0, c0, by simpa using blk_set hb 1 (.int .i64 x), hg, hr0⟩
theorem cellS57_2 {W : World} {g : Nat} {A0 : Option Addr} {c0 : Nat} {f0 : List Int} {f1 : Int} {f2 : Bool} (h : W.heap[g]? = some (.cells #[.slice A0 f0.length c0, .int .i64 f1, .bool f2] 57 (0, 0))) : W.cell? ⟨g, 2, none⟩ = some (.bool f2) := (blk_cell h 2).trans rfl
theorem IsS57.set_2 {w0 W : World} {g : Nat} {f0 : List Int} {f1 : Int} {f2 : Bool} (h : IsS57 w0 W g f0 f1 f2) (x : Bool) : IsS57 w0 (W.setCell ⟨g, 2, none⟩ (.bool x)) g f0 f1 x := by
  obtain ⟨A0, c0, hb, hg, hr0⟩ := h
  exact ⟨A0, c0, by simpa using blk_set hb 2 (.bool x), hg, hr0⟩
def gangwayref5_reader_byte.f (s0_0 : List Int) (s0_1 : Int) (s0_2 : Bool) : Option (Int × Int × Bool) := if s0_2 = true then (some (0, s0_1, true)) else (if s0_1 ≥ (s0_0.length : Int) then (some (0, s0_1, true)) else (if 0 ≤ (wrap64 ((wrap64 (s0_1 + 1)) - 1)) then (if (wrap64 ((wrap64 (s0_1 + 1)) - 1)) < (s0_0.length : Int) then (some (wrap64 (rd s0_0 (wrap64 ((wrap64 (s0_1 + 1)) - 1))), wrap64 (s0_1 + 1), s0_2)) else (none)) else (none)))
set_option maxHeartbeats 8000000 in
set_option maxRecDepth 100000 in
theorem gangwayref5_reader_byte.calls (g : Nat) (s0_0 : List Int) (s0_1 : Int) (s0_2 : Bool) (r1 : Int) (r2 : Int) (r3 : Bool) (w0 w : World) (hI : IsS57 w0 w g s0_0 s0_1 s0_2) (hB : Below w0.heap.size w0 w) (h : gangwayref5_reader_byte.f s0_0 s0_1 s0_2 = some (r1, r2, r3)) :
    Calls Try.prog 36 #[.pointer (some ⟨g, 0, none⟩)] w fun e w' => e = .returned (.int .i64 r1) ∧ IsS57 w0 w' g s0_0 r2 r3 ∧ Below w0.heap.size w0 w' ∧ KeepBut w w' g none := by
  have HI0 := Aside0.mk hI
  have HK := Aside0.mk (KeepBut.refl w g none)
  have HL := Aside0.mk hB.size
  clear hI
  have HW0 := Aside0.mk hB.size
  have HB := Aside0.mk hB
  clear hB
  have H : (if s0_2 = true then (some (0, s0_1, true)) else (if s0_1 ≥ (s0_0.length : Int) then (some (0, s0_1, true)) else (if 0 ≤ (wrap64 ((wrap64 (s0_1 + 1)) - 1)) then (if (wrap64 ((wrap64 (s0_1 + 1)) - 1)) < (s0_0.length : Int) then (some (wrap64 (rd s0_0 (wrap64 ((wrap64 (s0_1 + 1)) - 1))), wrap64 (s0_1 + 1), s0_2)) else (none)) else (none)))) = some (r1, r2, r3) := h
  clear h
  by_cases c2 : s0_2 = true
  · subst c2
    have H1 : (some (0, s0_1, true)) = some (r1, r2, r3) := by rw [if_pos rfl] at H; exact H
    clear H
    have H := H1
    clear H1
    simp only [Option.some.injEq, Prod.mk.injEq] at H
    obtain ⟨rfl, rfl, rfl⟩ := H
    obtain ⟨ASz3_0, cSz3_0, HGz3, hgz3, HSz3_0⟩ := HI0.out
    have hcz3_0 := cellS57_0 HGz3
    have hcz3_1 := cellS57_1 HGz3
    have hcz3_2 := cellS57_2 HGz3
    have hfz3_1 := blk_frozen HGz3 1
    have hfz3_2 := blk_frozen HGz3 2
    clear HGz3 hgz3
    go_enter Try.func36, Try.ntmps36
    go_wp2
    repeat (go_quiet (fail); try go_wp2)
    go_ret
    exact ⟨by first | rfl | (simp [errW_none, errW_some] <;> rfl) | (simp [*, errW_none, errW_some] <;> rfl), by repeat (first | (with_reducible first | exact HI0.out | apply IsS57.alloc | apply IsS57.drewN | apply IsS57.drew | apply IsS57.set_1 | apply IsS57.set_2) | exact HI0.out), by repeat (first | (with_reducible first | exact HB.out | apply below_alloc | apply pw_below_drewN | apply below_drew1 | refine below_set ?_ (IsS57.ge HI0.out)) | exact HB.out), by repeat (first | (with_reducible first | exact HK.out | apply KeepBut.set_ | apply keep_drewN | apply keep_drew | apply keep_alloc) | exact HK.out)⟩
  · replace c2 := Bool.eq_false_iff.mpr c2
    subst c2
    have H1 : (if s0_1 ≥ (s0_0.length : Int) then (some (0, s0_1, true)) else (if 0 ≤ (wrap64 ((wrap64 (s0_1 + 1)) - 1)) then (if (wrap64 ((wrap64 (s0_1 + 1)) - 1)) < (s0_0.length : Int) then (some (wrap64 (rd s0_0 (wrap64 ((wrap64 (s0_1 + 1)) - 1))), wrap64 (s0_1 + 1), false)) else (none)) else (none))) = some (r1, r2, r3) := by rw [if_neg (show ¬ (false = true) by decide)] at H; exact H
    clear H
    have H := H1
    clear H1
    by_cases c4 : s0_1 ≥ (s0_0.length : Int)
    · rw [if_pos c4] at H
      have c4b0 : decide ((s0_0.length : Int) ≤ s0_1) = true := decide_eq_true c4
      clear c4
      simp only [Option.some.injEq, Prod.mk.injEq] at H
      obtain ⟨rfl, rfl, rfl⟩ := H
      obtain ⟨ASz5_0, cSz5_0, HGz5, hgz5, HSz5_0⟩ := HI0.out
      have hcz5_0 := cellS57_0 HGz5
      have hcz5_1 := cellS57_1 HGz5
      have hcz5_2 := cellS57_2 HGz5
      have hfz5_1 := blk_frozen HGz5 1
      have hfz5_2 := blk_frozen HGz5 2
      clear HGz5 hgz5
      go_enter Try.func36, Try.ntmps36
      go_wp2
      repeat (go_quiet (fail); try go_wp2)
      go_ret
      exact ⟨by first | rfl | (simp [errW_none, errW_some] <;> rfl) | (simp [*, errW_none, errW_some] <;> rfl), by repeat (first | (with_reducible first | exact HI0.out | apply IsS57.alloc | apply IsS57.drewN | apply IsS57.drew | apply IsS57.set_1 | apply IsS57.set_2) | exact HI0.out), by repeat (first | (with_reducible first | exact HB.out | apply below_alloc | apply pw_below_drewN | apply below_drew1 | refine below_set ?_ (IsS57.ge HI0.out)) | exact HB.out), by repeat (first | (with_reducible first | exact HK.out | apply KeepBut.set_ | apply keep_drewN | apply keep_drew | apply keep_alloc) | exact HK.out)⟩
    · rw [if_neg c4] at H
      have c4b0 : decide ((s0_0.length : Int) ≤ s0_1) = false := decide_eq_false c4
      clear c4
      obtain ⟨ji6, hji6⟩ : ∃ j_ : Int, (wrap64 ((wrap64 (s0_1 + 1)) - 1)) = j_ := ⟨_, rfl⟩
      replace H : (if 0 ≤ (ji6) then (if (ji6) < (s0_0.length : Int) then (some (wrap64 (rd s0_0 (ji6)), wrap64 (s0_1 + 1), false)) else (none)) else (none)) = some (r1, r2, r3) := by first | (rw [hji6] at H; exact H) | (simp only [hji6] at H ⊢; exact H)
      have hji6w : (IntKind.i64.wrap ((wrap64 (s0_1 + 1)) - 1)) = ji6 := (i64_w _).trans hji6
      by_cases c7 : 0 ≤ (ji6)
      · rw [if_pos c7] at H
        have c7b0 : decide (0 ≤ (ji6)) = true := decide_eq_true c7
        clear c7
        by_cases c8 : (ji6) < (s0_0.length : Int)
        · rw [if_pos c8] at H
          have c8b0 : decide ((ji6) < (s0_0.length : Int)) = true := decide_eq_true c8
          clear c8
          simp only [Option.some.injEq, Prod.mk.injEq] at H
          obtain ⟨rfl, rfl, rfl⟩ := H
          obtain ⟨ASz9_0, cSz9_0, HGz9, hgz9, HSz9_0⟩ := HI0.out
          have hcz9_0 := cellS57_0 HGz9
          have hcz9_1 := cellS57_1 HGz9
          have hcz9_2 := cellS57_2 HGz9
          have hfz9_1 := blk_frozen HGz9 1
          have hfz9_2 := blk_frozen HGz9 2
          clear HGz9 hgz9
          have p239 : 0 ≤ ((ji6) : Int) := of_decide_eq_true (by first | (with_reducible assumption) | assumption)
          have q239 : (ji6) < (s0_0.length : Int) := of_decide_eq_true (by first | (with_reducible assumption) | assumption)
          obtain ⟨ad239, e239, hx239_0⟩ := Kd.at_int HSz9_0.2 (ji6) p239 q239
          cases e239
          have hn239_0 : ad239.block ≠ g := Nat.ne_of_lt (Nat.lt_of_lt_of_le (by have := World.block_lt_of_cell? _ _ hx239_0; first | rwa [add_block] at this | exact this) (IsS57.ge HI0.out))
          replace hx239_0 := pw_cell_below HB.out hx239_0
          replace hx239_0 := (cell_far (p := ⟨g, 1, none⟩) (by first | (rw [add_block]; exact hn239_0) | (show (Addr.add _ _).block ≠ _; rw [add_block]; exact hn239_0) | exact hn239_0) (.int .i64 (wrap64 (s0_1 + 1)))).trans hx239_0
          (try have hy239_0 := fun (n_ : Nat) => (show (((w.drewN n_).setCell ⟨g, 1, none⟩ (.int .i64 (wrap64 (s0_1 + 1))))).cell? _ = some _ from hx239_0))
          clear hn239_0
          replace p239 := eq_true p239
          replace q239 := eq_true q239
          go_enter Try.func36, Try.ntmps36
          go_wp2
          repeat (go_quiet (fail); try go_wp2)
          go_ret
          exact ⟨by first | rfl | (simp [errW_none, errW_some] <;> rfl) | (simp only [← hji6]; first | rfl | (simp [errW_none, errW_some] <;> rfl)) | (simp [*, errW_none, errW_some] <;> rfl), by repeat (first | (with_reducible first | exact HI0.out | apply IsS57.alloc | apply IsS57.drewN | apply IsS57.drew | apply IsS57.set_1 | apply IsS57.set_2) | exact HI0.out), by repeat (first | (with_reducible first | exact HB.out | apply below_alloc | apply pw_below_drewN | apply below_drew1 | refine below_set ?_ (IsS57.ge HI0.out)) | exact HB.out), by repeat (first | (with_reducible first | exact HK.out | apply KeepBut.set_ | apply keep_drewN | apply keep_drew | apply keep_alloc) | exact HK.out)⟩
        · rw [if_neg c8] at H
          exact absurd H (by simp)
      · rw [if_neg c7] at H
        exact absurd H (by simp)

end Go.Proofs.Ytlahigmoljflkaa.PAll
