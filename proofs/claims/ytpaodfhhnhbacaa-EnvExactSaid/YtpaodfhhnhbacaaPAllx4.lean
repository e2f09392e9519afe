/- Printed by a copy of the printer that was turned for this claim: functions as plain Lean functions, with proofs that their calls come to these; or words that such proofs use. -/
import Derived.Test.YtpaodfhhnhbacaaPAllx0
import Derived.Test.YtpaodfhhnhbacaaPAllx3
namespace Go.Proofs.Ytpaodfhhnhbacaa.PAll
open Go.RowKit Go.Proofs.YtpaodfhhnhbacaaW.PrintWords Go.Proofs.YtpaodfhhnhbacaaW.PrintLast Go.Proofs.YtpaodfhhnhbacaaW.PrintMore
attribute [local go_sem] max2_int min2_int max_two min_two max_three min_three max_four min_four   -- for this text's walks alone
set_option linter.unusedVariables false
set_option linter.unusedSimpArgs false


/-! ### mem_Memory_Write: function 26 (by hand) -/
def mem_Memory_Write.f (l0_0 : List Int) (s0_1 : Int) (a1 : Int) (l2 : List Int) : Option (Int × List Int × Int) :=
  some (if 0 ≤ a1 ∧ a1 + (l2.length : Int) ≤ (l0_0.length : Int) then (0, Go.Proofs.YtpaodfhhnhbacaaU.splice l0_0 a1.toNat l2, s0_1) else (21, l0_0, s0_1))
theorem mem_Memory_Write.there_ (l : List Int) (s a n : Int) (hl : l.length ≤ 9223372036854775807) (hn : 0 ≤ n) :
    mem_Memory_there.f l s a n = some (decide (0 ≤ a ∧ a + n ≤ (l.length : Int)), l, s) := by
  unfold mem_Memory_there.f
  by_cases h1 : a ≥ 0
  · rw [if_pos h1, if_pos hn]
    by_cases h2 : a ≤ (l.length : Int)
    · rw [if_pos h2]
      have : wrap64 ((l.length : Int) - a) = (l.length : Int) - a := by unfold wrap64; omega
      rw [this]
      congr 2
      simp only [decide_eq_decide]
      omega
    · rw [if_neg h2]
      congr 2
      simp
      omega
  · rw [if_neg h1]
    congr 2
    simp
    omega
set_option maxHeartbeats 8000000 in
set_option maxRecDepth 100000 in
theorem mem_Memory_Write.calls (g : Nat) (P0_0_ : Nat → Prop) (u9000_ : Value) (l0_0 : List Int) (s0_1 : Int) (a1 : Int) (A2 : Option Addr) (c2 : Nat) (l2 : List Int) (r1 : Int) (r2 : List Int) (r3 : Int) (w0 w : World) (hI : IsS72 w0 w g u9000_ s0_1) (hB : Below w0.heap.size w0 w) (ho0_0 : Kd.R (Kd.int .u8) 5 w w0.heap.size P0_0_ u9000_ l0_0) (hr2 : ∀ W_, Kept w W_ (fun k_ => (P0_0_ k_) ∨ k_ = g) → Kd.C (Kd.int .u8) W_ A2 l2.length l2) (hc2 : l2.length ≤ c2) (h : mem_Memory_Write.f l0_0 s0_1 a1 l2 = some (r1, r2, r3)) :
    Calls Try.prog 26 #[.pointer (some ⟨g, 0, none⟩), .int .i64 a1, .slice A2 l2.length c2] w fun e w' => ∃ v1_ : Value, e = .returned (.int .i64 r1) ∧ Kd.R (Kd.int .u8) 5 w' w0.heap.size (fun k_ => (P0_0_ k_ ∨ w.heap.size ≤ k_)) v1_ r2 ∧ IsS72 w0 w' g v1_ r3 ∧ Below w0.heap.size w0 w' ∧ Kept w w' (fun k_ => (P0_0_ k_) ∨ k_ = g) := by
  have hlen : l0_0.length ≤ 9223372036854775807 := by
    obtain ⟨A_, c_, rfl⟩ := Kd.R_slice ho0_0
    exact (Kd.R_reads' ho0_0).2.2.2.1
  have hT0 := mem_Memory_Write.there_ l0_0 s0_1 a1 (l2.length : Int) hlen (by omega)
  by_cases hc : 0 ≤ a1 ∧ a1 + (l2.length : Int) ≤ (l0_0.length : Int)
  · simp only [mem_Memory_Write.f, if_pos hc, Option.some.injEq, Prod.mk.injEq] at h
    obtain ⟨rfl, rfl, rfl⟩ := h
    rw [decide_eq_true hc] at hT0
    obtain ⟨hc0, hc1⟩ := hc
    have HC := Aside0.mk (show 0 ≤ a1 ∧ a1 + (l2.length : Int) ≤ (l0_0.length : Int) from ⟨hc0, hc1⟩)
    have HT := Aside0.mk hT0
    have HR2 := Aside0.mk hr2
    have HI := Aside0.mk hI
    have HB0 := Aside0.mk hB
    have HO := Aside0.mk ho0_0
    have HLEN := Aside0.mk hlen
    have HC2 := Aside0.mk hc2
    clear hT0 hr2 hI hB ho0_0 hlen hc0 hc1 hc2
    go_enter Try.func26, Try.ntmps26
    go_wp2_with (first
      | ((with_reducible refine gate_callee (f := 35) rfl ?_); refine goesL_ (some 11) rfl rfl Try.func35 (by kernel_rfl) rfl #[.pointer (some ⟨g, 0, none⟩), .int .i64 a1, .int .i64 (l2.length : Int)] rfl (by (try simp only [List.map_toArray, List.map_cons, List.map_nil]); first | done | rfl | (simp only [List.length_drop, List.length_take]; rfl)) ?_
         (with_reducible refine (mem_Memory_there.calls g P0_0_ u9000_ l0_0 s0_1 a1 (l2.length : Int) true l0_0 s0_1 w0 _ HI.out HB0.out HO.out HT.out).mono ?_)
         rintro e w10 ⟨v155, rfl, ho0, hi, hb, hkp⟩
         refine ⟨_, rfl, ?_⟩
         have HK1 := Aside0.mk hkp
         have HB1 := Aside0.mk hb
         have HI1 := Aside0.mk hi
         have HO1 := Aside0.mk ho0
         clear hkp hb hi ho0
         obtain ⟨HGz, _⟩ := HI1.out
         have hcz0 := cellS72_0 HGz
         have hcz1 := cellS72_1 HGz
         have hfz0 := blk_frozen HGz 0
         have hfz1 := blk_frozen HGz 1
         clear HGz
         obtain ⟨Ao, co, eo⟩ := Kd.R_slice HO1.out
         subst eo
         obtain ⟨i012, hi012, _, hsz12, _⟩ := info_parts info5
         have hcut := cut_from (P := Try.prog) 32 5 .i64 Try.underlying32 hi012 1 hsz12 Ao l0_0.length co a1 HC.out.1 (by have := HC.out.2; omega)
         obtain ⟨A12, hA12⟩ : ∃ A1, A1 = (if co = a1.toNat then Ao else (Ao : Option Addr).map (·.add (a1.toNat * 1))) := ⟨_, rfl⟩
         rw [← hA12] at hcut
         have HA12 := Aside0.mk hA12
         clear hi012 hsz12 hA12)
      | ((with_reducible refine gate_builtin (b := .copy) (xs := #[.tmp 18, .tmp 19]) rfl ?_)
         refine Go.Proofs.YtpaodfhhnhbacaaO.R_copy_cut (0 : Int) (w0 := w0) w0.heap.size rfl (.tmp 18) (.tmp 19) 32 32 5 rfl Try.underlying32 (by kernel_rfl) Ao l0_0.length co a1.toNat l0_0 l2 A2 l2.length c2 (fun k_ => (P0_0_ k_ ∨ w.heap.size ≤ k_)) (by rw [← HA12.out]; rfl) rfl HO1.out (HR2.out _ HK1.out) (by have := HC.out; omega) HB1.out (below_size HB1.out) ?_
         intro w12 ho hb hg
         have HO2 := Aside0.mk ho
         have HB2 := Aside0.mk hb
         have HI2 := Aside0.mk (HI1.out.grown hg (IsS72.own_ne HI1.out HO1.out (by decide)))
         have HK2 := Aside0.mk (Kept.of_grown (S := (fun k_ => (P0_0_ k_) ∨ k_ = g)) hg HK1.out (fun k_ e_ => Or.imp_left Or.inl (HO1.out.1 k_ e_)))
         clear ho hb hg))
    go_ret
    exact ⟨_, rfl, by have := HO2.out; rw [Go.Proofs.YtpaodfhhnhbacaaU.splice]; exact this, HI2.out, HB2.out, HK2.out⟩
  · simp only [mem_Memory_Write.f, if_neg hc, Option.some.injEq, Prod.mk.injEq] at h
    obtain ⟨rfl, rfl, rfl⟩ := h
    rw [decide_eq_false hc] at hT0
    have HT := Aside0.mk hT0
    have HI := Aside0.mk hI
    have HB0 := Aside0.mk hB
    have HO := Aside0.mk ho0_0
    clear hT0 hr2 hI hB ho0_0 hlen hc hc2
    go_enter Try.func26, Try.ntmps26
    go_wp2_with (first
      | ((with_reducible refine gate_callee (f := 35) rfl ?_); refine goesL_ (some 11) rfl rfl Try.func35 (by kernel_rfl) rfl #[.pointer (some ⟨g, 0, none⟩), .int .i64 a1, .int .i64 (l2.length : Int)] rfl (by (try simp only [List.map_toArray, List.map_cons, List.map_nil]); first | done | rfl | (simp only [List.length_drop, List.length_take]; rfl)) ?_
         (with_reducible refine (mem_Memory_there.calls g P0_0_ u9000_ l0_0 s0_1 a1 (l2.length : Int) false l0_0 s0_1 w0 _ HI.out HB0.out HO.out HT.out).mono ?_)
         rintro e w10 ⟨v155, rfl, ho0, hi, hb, hkp⟩
         refine ⟨_, rfl, ?_⟩
         have HK1 := Aside0.mk hkp
         have HB1 := Aside0.mk hb
         have HI1 := Aside0.mk hi
         have HO1 := Aside0.mk ho0
         clear hkp hb hi ho0))
    go_ret
    exact ⟨_, rfl, HO1.out, HI1.out, HB1.out, HK1.out⟩


/-! ### gangwaylaw19_Both: function 15 -/
mutual
def gangwaylaw19_Both.j0 : Nat → List Int → Bool → List Int → Int → Option (Bool × List Int × Int × Bool × List Int × Int)
  | 0, _, _, _, _ => none
  | k + 1, x0, x19, x206000, x206001 => if x19 = true then (some (false, ([] : List Int), 0, false, ([] : List Int), 0)) else ((gangwayref9_NewMem.f 1 (-1) 1).bind fun bt208 => (if bt208.1 = true then (gangwaylaw19_Both.l0 k x0 0 x206000 x206001 bt208.2.1 bt208.2.2) else (none)))
def gangwaylaw19_Both.j2 : Nat → List Int → Int → List Int → Int → Option (Bool × List Int × Int × Bool × List Int × Int)
  | 0, _, _, _, _ => none
  | k + 1, x206000, x206001, x214000, x214001 => (mem_Memory_Write.f x206000 x206001 0 x214000).bind fun bt216 => ((gangwaylaw19_num.f bt216.1).bind fun t221 => (if t221 = 0 then (some (true, bt216.2.1, bt216.2.2, true, x214000, x214001)) else (some (false, ([] : List Int), 0, false, ([] : List Int), 0))))
def gangwaylaw19_Both.l0 : Nat → List Int → Int → List Int → Int → List Int → Int → Option (Bool × List Int × Int × Bool × List Int × Int)
  | 0, _, _, _, _, _, _ => none
  | k + 1, x0, x7, x206000, x206001, x214000, x214001 => if x7 < (x0.length : Int) then (if x7 < (x214000.length : Int) then (if 0 ≤ x7 then (gangwaylaw19_Both.l0 k x0 (wrap64 (x7 + 1)) x206000 x206001 (x214000.set (x7 : Int).toNat (rd x0 x7)) x214001) else (none)) else (gangwaylaw19_Both.j2 k x206000 x206001 x214000 x214001)) else (gangwaylaw19_Both.j2 k x206000 x206001 x214000 x214001)
end
def gangwaylaw19_Both.f (k : Nat) (l0 : List Int) : Option (Bool × List Int × Int × Bool × List Int × Int) := (mem_New.f k 1 (-1) 1).bind fun bt200 => (if bt200.1 = true then ((gangwaylaw19_num.f bt200.2.2.2).bind fun t207 => (if t207 = 0 then (gangwaylaw19_Both.j0 k l0 false bt200.2.1 bt200.2.2.1) else (gangwaylaw19_Both.j0 k l0 true bt200.2.1 bt200.2.2.1))) else (none))
theorem gangwaylaw19_Both.mono_l : ∀ k, (∀ y0 y1 y2 y3, LeO (gangwaylaw19_Both.j0 k y0 y1 y2 y3) (gangwaylaw19_Both.j0 (k + 1) y0 y1 y2 y3)) ∧ (∀ y0 y1 y2 y3, LeO (gangwaylaw19_Both.j2 k y0 y1 y2 y3) (gangwaylaw19_Both.j2 (k + 1) y0 y1 y2 y3)) ∧ (∀ y0 y1 y2 y3 y4 y5, LeO (gangwaylaw19_Both.l0 k y0 y1 y2 y3 y4 y5) (gangwaylaw19_Both.l0 (k + 1) y0 y1 y2 y3 y4 y5))
  | 0 => ⟨fun _ _ _ _ r h => by simp [gangwaylaw19_Both.j0] at h, fun _ _ _ _ r h => by simp [gangwaylaw19_Both.j2] at h, fun _ _ _ _ _ _ r h => by simp [gangwaylaw19_Both.l0] at h⟩
  | k + 1 => by
    obtain ⟨ih0, ih1, ih2⟩ := gangwaylaw19_Both.mono_l k
    refine ⟨?_, ?_, ?_⟩
    · intro y0 y1 y2 y3
      unfold gangwaylaw19_Both.j0
      repeat' first
      | (with_reducible exact ih0 _ _ _ _)
      | (with_reducible exact ih1 _ _ _ _)
      | (with_reducible exact ih2 _ _ _ _ _ _)
      | (with_reducible exact mem_New.mono _ _ _ _)
      | (with_reducible exact LeO.refl _)
      | (with_reducible exact LeO.none _)
      | (with_reducible refine LeO.ite ?_ ?_)
      | (with_reducible refine LeO.bind ?_ (fun _ => ?_))
      | exact ih0 _ _ _ _
      | exact ih1 _ _ _ _
      | exact ih2 _ _ _ _ _ _
      | exact mem_New.mono _ _ _ _
      | exact LeO.none _
      | refine LeO.ite ?_ ?_
      | refine LeO.bind ?_ (fun _ => ?_)
    · intro y0 y1 y2 y3
      unfold gangwaylaw19_Both.j2
      repeat' first
      | (with_reducible exact ih0 _ _ _ _)
      | (with_reducible exact ih1 _ _ _ _)
      | (with_reducible exact ih2 _ _ _ _ _ _)
      | (with_reducible exact mem_New.mono _ _ _ _)
      | (with_reducible exact LeO.refl _)
      | (with_reducible exact LeO.none _)
      | (with_reducible refine LeO.ite ?_ ?_)
      | (with_reducible refine LeO.bind ?_ (fun _ => ?_))
      | exact ih0 _ _ _ _
      | exact ih1 _ _ _ _
      | exact ih2 _ _ _ _ _ _
      | exact mem_New.mono _ _ _ _
      | exact LeO.none _
      | refine LeO.ite ?_ ?_
      | refine LeO.bind ?_ (fun _ => ?_)
    · intro y0 y1 y2 y3 y4 y5
      unfold gangwaylaw19_Both.l0
      repeat' first
      | (with_reducible exact ih0 _ _ _ _)
      | (with_reducible exact ih1 _ _ _ _)
      | (with_reducible exact ih2 _ _ _ _ _ _)
      | (with_reducible exact mem_New.mono _ _ _ _)
      | (with_reducible exact LeO.refl _)
      | (with_reducible exact LeO.none _)
      | (with_reducible refine LeO.ite ?_ ?_)
      | (with_reducible refine LeO.bind ?_ (fun _ => ?_))
      | exact ih0 _ _ _ _
      | exact ih1 _ _ _ _
      | exact ih2 _ _ _ _ _ _
      | exact mem_New.mono _ _ _ _
      | exact LeO.none _
      | refine LeO.ite ?_ ?_
      | refine LeO.bind ?_ (fun _ => ?_)
theorem gangwaylaw19_Both.mono : ∀ a0 k, LeO (gangwaylaw19_Both.f k a0) (gangwaylaw19_Both.f (k + 1) a0) := by
  intro a0 k
  obtain ⟨ih0, ih1, ih2⟩ := gangwaylaw19_Both.mono_l k
  unfold gangwaylaw19_Both.f
  repeat' first
      | (with_reducible exact ih0 _ _ _ _)
      | (with_reducible exact ih1 _ _ _ _)
      | (with_reducible exact ih2 _ _ _ _ _ _)
      | (with_reducible exact mem_New.mono _ _ _ _)
      | (with_reducible exact LeO.refl _)
      | (with_reducible exact LeO.none _)
      | (with_reducible refine LeO.ite ?_ ?_)
      | (with_reducible refine LeO.bind ?_ (fun _ => ?_))
      | exact ih0 _ _ _ _
      | exact ih1 _ _ _ _
      | exact ih2 _ _ _ _ _ _
      | exact mem_New.mono _ _ _ _
      | exact LeO.none _
      | refine LeO.ite ?_ ?_
      | refine LeO.bind ?_ (fun _ => ?_)
def gangwaylaw19_Both.T8 : Bool × List (List Nat × List Nat) := (true, [([], []), ([0], [0]), ([1], [1]), ([2], [2]), ([], []), ([], []), ([], []), ([5, 6], [5, 6]), ([7], [7]), ([3, 4, 0, 1, 2, 3, 4, 5, 6, 7, 8], [3, 4]), ([9, 8, 0, 1, 2, 3, 4, 5, 6, 7, 8], [8, 9])])
def gangwaylaw19_Both.B8 : List Nat := [0, 1, 3, 7, 0, 0, 0, 96, 224, 511, 1023]
theorem gangwaylaw19_Both.tab8 : rtab .any (opsOf Try.f15 8) = gangwaylaw19_Both.T8 := by kernel_rfl
theorem gangwaylaw19_Both.bits8 : waitsOk gangwaylaw19_Both.T8.2 gangwaylaw19_Both.B8 = true := by kernel_rfl
set_option maxHeartbeats 8000000 in
set_option maxRecDepth 100000 in
theorem gangwaylaw19_Both.calls (k : Nat) (A0 : Option Addr) (c0 : Nat) (l0 : List Int) (r1 : Bool) (r2 : List Int) (r3 : Int) (r4 : Bool) (r5 : List Int) (r6 : Int) (w : World) (hr0 : Kd.C (Kd.int .u8) w A0 l0.length l0) (hc0 : l0.length ≤ c0) (h : gangwaylaw19_Both.f k l0 = some (r1, r2, r3, r4, r5, r6)) :
    Calls Try.prog 15 #[.slice A0 l0.length c0] w fun e w' => ∃ v1_ v4_ : Value, ∃ p0_ : Value, ∃ p1_ : Value, e = .returned (.tuple #[p0_, p1_]) ∧ Kd.R (Kd.int .u8) 5 w' w.heap.size (fun k_ => some k_ ≠ (v4_ : Value).ownBlock) v1_ r2 ∧ Kd.R (Kd.int .u8) 5 w' w.heap.size (fun k_ => some k_ ≠ (v1_ : Value).ownBlock) v4_ r5 ∧ ((r1 = true → ∃ g_ : Nat, p0_ = .pointer (some ⟨g_, 0, none⟩) ∧ IsS72 w w' g_ v1_ r3) ∧ (r1 = false → p0_ = .pointer none)) ∧ ((r4 = true → ∃ g_ : Nat, p1_ = .pointer (some ⟨g_, 0, none⟩) ∧ IsS59 w w' g_ v4_ r6) ∧ (r4 = false → p1_ = .pointer none)) ∧ Below w.heap.size w w' := by
  have hu56 := Try.underlying56
  have HR0 := Aside0.mk hr0
  have HC0 := Aside0.mk hc0
  clear hr0 hc0
  have HB := Aside0.mk (Below.refl w.heap.size w)
  have H : ((mem_New.f k 1 (-1) 1).bind fun bt200 => (if bt200.1 = true then ((gangwaylaw19_num.f bt200.2.2.2).bind fun t207 => (if t207 = 0 then (gangwaylaw19_Both.j0 k l0 false bt200.2.1 bt200.2.2.1) else (gangwaylaw19_Both.j0 k l0 true bt200.2.1 bt200.2.2.1))) else (none))) = some (r1, r2, r3, r4, r5, r6) := h
  clear h
  replace H := Option.bind_eq_some_iff.mp H
  obtain ⟨⟨t200, t201, t204, t206⟩, A20, H⟩ := H
  replace H : (if t200 = true then ((gangwaylaw19_num.f t206).bind fun t207 => (if t207 = 0 then (gangwaylaw19_Both.j0 k l0 false t201 t204) else (gangwaylaw19_Both.j0 k l0 true t201 t204))) else (none)) = some (r1, r2, r3, r4, r5, r6) := H
  have A2 := Aside0.mk A20
  clear A20
  by_cases c3 : t200 = true
  · subst c3
    have H1 : ((gangwaylaw19_num.f t206).bind fun t207 => (if t207 = 0 then (gangwaylaw19_Both.j0 k l0 false t201 t204) else (gangwaylaw19_Both.j0 k l0 true t201 t204))) = some (r1, r2, r3, r4, r5, r6) := by rw [if_pos rfl] at H; exact H
    clear H
    have H := H1
    clear H1
    have HC4 := Aside0.mk H
    clear H
    go_enter Try.func15, Try.ntmps15
    go_upto_region 2 with (first | ((with_reducible refine gate_callee (f := 23) rfl ?_); refine goesL_ (some 10) rfl rfl Try.func23 (by kernel_rfl) rfl #[.agg #[.int .i64 1, .int .i64 (-1)], .int .i64 1] rfl (by (try simp only [List.map_toArray, List.map_cons, List.map_nil]); first | done | rfl | (simp only [List.length_drop, List.length_take]; rfl)) ?_; (with_reducible refine (mem_New.calls k 1 (-1) 1 true t201 t204 t206 _ A2.out).mono ?_); rintro e w5 ⟨v202, pz205, rfl, ho0, hz205, hb⟩; refine ⟨_, rfl, ?_⟩; have n0_ := Aside0.mk (Kd.R_lower ho0 (below_size (by repeat (first | (with_reducible first | exact HB.out | apply below_alloc | apply pw_below_drewN | apply below_drew1) | exact HB.out)))); have n1_ := Aside0.mk ((show (true = true → ∃ g_ : Nat, pz205 = .pointer (some ⟨g_, 0, none⟩) ∧ IsS72 w w5 g_ v202 t204) ∧ (true = false → pz205 = .pointer none) from ⟨fun h_ => (hz205.1 h_).elim fun g_ hg_ => ⟨g_, hg_.1, hg_.2.lower ((below_size (by repeat (first | (with_reducible first | exact HB.out | apply below_alloc | apply pw_below_drewN | apply below_drew1) | exact HB.out))))⟩, hz205.2⟩)); have n2_ := Aside0.mk (below_step (by repeat (first | (with_reducible first | exact HB.out | apply below_alloc | apply pw_below_drewN | apply below_drew1) | exact HB.out)) hb); clear HB; have HO203 := n0_; have HZ205 := n1_; have HB := n2_; clear n0_ n1_ n2_; (try clear hb); (try clear hb2); (try clear hk); (try clear hi); (try clear ho0); obtain ⟨g205, e_, hi_⟩ := HZ205.out.1 rfl; subst e_; have HI205 := Aside0.mk hi_; clear hi_ HZ205))
    (try simp only [Act.put, List.setIfInBounds_toArray, List.set_cons_zero, List.set_cons_succ])
    go_cut [19] (fun v19 wc => ∃ (kq : Nat) (x19_3 : Bool), v19 = .bool x19_3 ∧ Aside0 (gangwaylaw19_Both.j0 kq l0 x19_3 t201 t204 = some (r1, r2, r3, r4, r5, r6)) ∧ Aside0 (kq ≤ k) ∧ Aside0 (Kd.R (Kd.int .u8) 5 wc w.heap.size (fun _ => True) v202 t201) ∧ Aside0 (IsS72 w wc g205 v202 t204) ∧ Aside0 (Below w.heap.size w wc))
    case first =>
      have H := HC4.out
      clear HC4
      replace H := Option.bind_eq_some_iff.mp H
      obtain ⟨t207, A60, H⟩ := H
      replace H : (if t207 = 0 then (gangwaylaw19_Both.j0 k l0 false t201 t204) else (gangwaylaw19_Both.j0 k l0 true t201 t204)) = some (r1, r2, r3, r4, r5, r6) := H
      have A6 := Aside0.mk A60
      clear A60
      by_cases c7 : t207 = 0
      · rw [if_pos c7] at H
        have c7b0 : (t207 == 0) = true := beq_iff_eq.mpr c7
        have c7b1 : (t207 != 0) = false := bne_eq_false_iff_eq.mpr c7
        clear c7
        (first | rw [c7b0] | (simp only [i64_w, i32_w]; rw [c7b0]) | skip)
        have H' := Aside0.mk H
        clear H
        go_wp2_with (first | ((with_reducible refine gate_callee (f := 24) rfl ?_); refine goesL_ (some 14) rfl rfl Try.func24 (by kernel_rfl) rfl #[.int .i64 t206] rfl (by (try simp only [List.map_toArray, List.map_cons, List.map_nil]); first | done | rfl | (simp only [List.length_drop, List.length_take]; rfl)) ?_; (with_reducible refine (gangwaylaw19_num.calls t206 t207 _ A6.out).mono ?_); rintro e w' ⟨rfl, ⟨nd, rfl⟩⟩; refine ⟨_, rfl, ?_⟩))
        go_meet
        case rel => exact ⟨_, (false), (by first | rfl | (simp; done) | (simp [*]; done)), H', ⟨by first | omega | exact Nat.le_refl _⟩, ⟨by (with_reducible repeat (first | apply Kd.R_alloc | apply Kd.R_drewN | apply Kd.R_drew)); exact HO203.out⟩, ⟨by repeat (first | (with_reducible first | exact HI205.out | apply IsS72.alloc | apply IsS72.drewN | apply IsS72.drew | apply IsS72.set_0 | apply IsS72.set_1) | exact HI205.out)⟩, ⟨by repeat (first | (with_reducible first | exact HB.out | apply below_alloc | apply pw_below_drewN | apply below_drew1 | refine below_set ?_ (IsS72.ge HI205.out)) | exact HB.out)⟩⟩
      · rw [if_neg c7] at H
        have c7b0 : (t207 == 0) = false := beq_eq_false_iff_ne.mpr c7
        have c7b1 : (t207 != 0) = true := bne_iff_ne.mpr c7
        (first | rw [c7b0] | (simp only [i64_w, i32_w]; rw [c7b0]) | skip)
        have H' := Aside0.mk H
        clear H
        go_wp2_with (first | ((with_reducible refine gate_callee (f := 24) rfl ?_); refine goesL_ (some 14) rfl rfl Try.func24 (by kernel_rfl) rfl #[.int .i64 t206] rfl (by (try simp only [List.map_toArray, List.map_cons, List.map_nil]); first | done | rfl | (simp only [List.length_drop, List.length_take]; rfl)) ?_; (with_reducible refine (gangwaylaw19_num.calls t206 t207 _ A6.out).mono ?_); rintro e w' ⟨rfl, ⟨nd, rfl⟩⟩; refine ⟨_, rfl, ?_⟩))
        go_meet
        case rel => exact ⟨_, (true), (by first | rfl | (simp; done) | (simp [*]; done)), H', ⟨by first | omega | exact Nat.le_refl _⟩, ⟨by (with_reducible repeat (first | apply Kd.R_alloc | apply Kd.R_drewN | apply Kd.R_drew)); exact HO203.out⟩, ⟨by repeat (first | (with_reducible first | exact HI205.out | apply IsS72.alloc | apply IsS72.drewN | apply IsS72.drew | apply IsS72.set_0 | apply IsS72.set_1) | exact HI205.out)⟩, ⟨by repeat (first | (with_reducible first | exact HB.out | apply below_alloc | apply pw_below_drewN | apply below_drew1 | refine below_set ?_ (IsS72.ge HI205.out)) | exact HB.out)⟩⟩
    case rest =>
      clear HC4
      try clear c1
      try clear c2
      try clear p2
      try clear c3
      try clear c7
      try clear c7b0
      try clear c7b1
      obtain ⟨kq, x19_3, rfl, HA, HJ3, HO_206000, HI205, HB⟩ := hcut
      cases kq with
      | zero => exact absurd HA.out (by simp [gangwaylaw19_Both.j0])
      | succ kj3 =>
        have H := HA.out
        clear HA
        simp only [gangwaylaw19_Both.j0] at H
        by_cases c8 : x19_3 = true
        · subst c8
          have H1 : (some (false, ([] : List Int), 0, false, ([] : List Int), 0)) = some (r1, r2, r3, r4, r5, r6) := by rw [if_pos rfl] at H; exact H
          clear H
          have H := H1
          clear H1
          simp only [Option.some.injEq, Prod.mk.injEq] at H
          obtain ⟨rfl, rfl, rfl, rfl, rfl, rfl⟩ := H
          go_wp2
          go_ret2
          exact ⟨_, _, (.pointer none), (.pointer none), by first | rfl | (simp [errW_none, errW_some] <;> rfl) | (simp [*, errW_none, errW_some] <;> rfl), by first | exact Kd.R_nil _ _ _ _ _ | exact Kd.N_nil _ _ _ _ _ | exact Kd.V_nil _ _ _ _ _ | exact Kd.Q_nil _ _ _ _ _ | exact Kd.S_nil _ _ _ _ _, by first | exact Kd.R_nil _ _ _ _ _ | exact Kd.N_nil _ _ _ _ _ | exact Kd.V_nil _ _ _ _ _ | exact Kd.Q_nil _ _ _ _ _ | exact Kd.S_nil _ _ _ _ _, by first | exact ⟨fun h_ => absurd h_ (by decide), fun _ => rfl⟩ | rfl | exact ⟨trivial, rfl⟩, by first | exact ⟨fun h_ => absurd h_ (by decide), fun _ => rfl⟩ | rfl | exact ⟨trivial, rfl⟩, by repeat (first | (with_reducible first | exact HB.out | apply below_alloc | apply pw_below_drewN | apply below_drew1 | refine below_set ?_ (IsS72.ge HI205.out)) | exact HB.out)⟩
        · replace c8 := Bool.eq_false_iff.mpr c8
          subst c8
          have H1 : ((gangwayref9_NewMem.f 1 (-1) 1).bind fun bt208 => (if bt208.1 = true then (gangwaylaw19_Both.l0 kj3 l0 0 t201 t204 bt208.2.1 bt208.2.2) else (none))) = some (r1, r2, r3, r4, r5, r6) := by rw [if_neg (show ¬ (false = true) by decide)] at H; exact H
          clear H
          have H := H1
          clear H1
          replace H := Option.bind_eq_some_iff.mp H
          obtain ⟨⟨t208, t209, t212⟩, A90, H⟩ := H
          replace H : (if t208 = true then (gangwaylaw19_Both.l0 kj3 l0 0 t201 t204 t209 t212) else (none)) = some (r1, r2, r3, r4, r5, r6) := H
          have A9 := Aside0.mk A90
          clear A90
          by_cases c10 : t208 = true
          · subst c10
            have H1 : (gangwaylaw19_Both.l0 kj3 l0 0 t201 t204 t209 t212) = some (r1, r2, r3, r4, r5, r6) := by rw [if_pos rfl] at H; exact H
            clear H
            have H := H1
            clear H1
            have HC11 := Aside0.mk H
            clear H
            go_upto_block 0 with (first | ((with_reducible refine gate_callee (f := 25) rfl ?_); refine goesL_ (some 21) rfl rfl Try.func25 (by kernel_rfl) rfl #[.agg #[.int .i64 1, .int .i64 (-1)], .int .i64 1] rfl (by (try simp only [List.map_toArray, List.map_cons, List.map_nil]); first | done | rfl | (simp only [List.length_drop, List.length_take]; rfl)) ?_; (with_reducible refine (gangwayref9_NewMem.calls 1 (-1) 1 true t209 t212 _ A9.out).mono ?_); rintro e w12 ⟨v210, pz213, rfl, ho0, hz213, hb⟩; refine ⟨_, rfl, ?_⟩; have n0_ := Aside0.mk (Kd.R_elder' (by (with_reducible repeat (first | apply Kd.R_alloc | apply Kd.R_drewN | apply Kd.R_drew)); exact HO_206000.out) (Kd.R_base ho0) hb); have n1_ := Aside0.mk (Kd.R_lower (Kd.R_new' ho0 (Kd.R_lt (by (with_reducible repeat (first | apply Kd.R_alloc | apply Kd.R_drewN | apply Kd.R_drew)); exact HO_206000.out))) (below_size (by repeat (first | (with_reducible first | exact HB.out | apply below_alloc | apply pw_below_drewN | apply below_drew1 | refine below_set ?_ (IsS72.ge HI205.out)) | exact HB.out)))); have n2_ := Aside0.mk (IsS72.below (by repeat (first | (with_reducible first | exact HI205.out | apply IsS72.alloc | apply IsS72.drewN | apply IsS72.drew | apply IsS72.set_0 | apply IsS72.set_1) | exact HI205.out)) hb); have n3_ := Aside0.mk ((show (true = true → ∃ g_ : Nat, pz213 = .pointer (some ⟨g_, 0, none⟩) ∧ IsS59 w w12 g_ v210 t212 ∧ g205 ≠ g_) ∧ (true = false → pz213 = .pointer none) from ⟨fun h_ => (hz213.1 h_).elim fun g_ hg_ => ⟨g_, hg_.1, hg_.2.lower ((below_size (by repeat (first | (with_reducible first | exact HB.out | apply below_alloc | apply pw_below_drewN | apply below_drew1 | refine below_set ?_ (IsS72.ge HI205.out)) | exact HB.out)))), Nat.ne_of_lt (Nat.lt_of_lt_of_le (IsS72.lt (show IsS72 w _ g205 v202 t204 from by repeat (first | (with_reducible first | exact HI205.out | apply IsS72.alloc | apply IsS72.drewN | apply IsS72.drew | apply IsS72.set_0 | apply IsS72.set_1) | exact HI205.out))) hg_.2.ge)⟩, hz213.2⟩)); have n4_ := Aside0.mk (below_step (by repeat (first | (with_reducible first | exact HB.out | apply below_alloc | apply pw_below_drewN | apply below_drew1 | refine below_set ?_ (IsS72.ge HI205.out)) | exact HB.out)) hb); clear HO_206000; clear HI205; clear HB; have HO_206000 := n0_; have HO211 := n1_; have HI205 := n2_; have HZ213 := n3_; have HB := n4_; clear n0_ n1_ n2_ n3_ n4_; (try clear hb); (try clear hb2); (try clear hk); (try clear hi); (try clear ho0); obtain ⟨g213, e_, hi_, hn0_⟩ := HZ213.out.1 rfl; subst e_; have HI213 := Aside0.mk hi_; clear hi_ HZ213; have NB205_213 := Aside0.mk hn0_; have NB213_205 := Aside0.mk (Ne.symm hn0_); clear hn0_))
            (try simp only [Act.put, List.setIfInBounds_toArray, List.set_cons_zero, List.set_cons_succ])
            go_cut [] (fun wc => ∃ (kq : Nat) (x206000_10 : List Int) (x214000_10 : List Int) (u206000 : Value) (u214000 : Value), Aside0 (gangwaylaw19_Both.j2 kq x206000_10 t204 x214000_10 t212 = some (r1, r2, r3, r4, r5, r6)) ∧ Aside0 (kq ≤ kj3) ∧ Aside0 (Kd.R (Kd.int .u8) 5 wc w.heap.size (fun k_ => some k_ ≠ (u214000 : Value).ownBlock) u206000 x206000_10) ∧ Aside0 (Kd.R (Kd.int .u8) 5 wc w.heap.size (fun k_ => some k_ ≠ (u206000 : Value).ownBlock) u214000 x214000_10) ∧ Aside0 (IsS72 w wc g205 u206000 t204) ∧ Aside0 (IsS59 w wc g213 u214000 t212) ∧ Aside0 (Below w.heap.size w wc))
            case first =>
              have H := HC11.out
              clear HC11
              have H' := Aside0.mk H
              clear H
              go_wp2
              go_loopg [7] kj3 (fun kq v7 w' => ∃ (x7_2 : Int) (x206000_2 : List Int) (x214000_2 : List Int) (u206000 : Value) (u214000 : Value), v7 = .int .i64 x7_2 ∧ Aside0 (gangwaylaw19_Both.l0 kq l0 x7_2 x206000_2 t204 x214000_2 t212 = some (r1, r2, r3, r4, r5, r6)) ∧ Aside0 (kq ≤ kj3) ∧ Aside0 (Kd.R (Kd.int .u8) 5 w' w.heap.size (fun k_ => some k_ ≠ (u214000 : Value).ownBlock) u206000 x206000_2) ∧ Aside0 (Kd.R (Kd.int .u8) 5 w' w.heap.size (fun k_ => some k_ ≠ (u206000 : Value).ownBlock) u214000 x214000_2) ∧ Aside0 (IsS72 w w' g205 u206000 t204) ∧ Aside0 (IsS59 w w' g213 u214000 t212) ∧ Aside0 (Below w.heap.size w w'))
              case atStart => exact ⟨(0), (t201), (t209), (v202), (v210), (by first | rfl | (simp; done) | (simp [*]; done)), H', ⟨Nat.le_refl _⟩, ⟨by (with_reducible repeat (first | apply Kd.R_alloc | apply Kd.R_drewN | apply Kd.R_drew)); exact Kd.R_mono HO_206000.out (fun _ hk => hk.2)⟩, ⟨by (with_reducible repeat (first | apply Kd.R_alloc | apply Kd.R_drewN | apply Kd.R_drew)); exact Kd.R_mono HO211.out (fun _ hk => hk.2)⟩, ⟨by repeat (first | (with_reducible first | exact HI205.out | apply IsS72.alloc | apply IsS72.drewN | apply IsS72.drew | apply IsS72.set_0 | apply IsS72.set_1) | exact HI205.out)⟩, ⟨by repeat (first | (with_reducible first | exact HI213.out | apply IsS59.alloc | apply IsS59.drewN | apply IsS59.drew | apply IsS59.set_0 | apply IsS59.set_1) | exact HI213.out)⟩, ⟨by repeat (first | (with_reducible first | exact HB.out | apply below_alloc | apply pw_below_drewN | apply below_drew1 | refine below_set ?_ (IsS72.ge HI205.out) | refine below_set ?_ (IsS59.ge HI213.out)) | exact HB.out)⟩⟩
              case round =>
                clear H'
                try clear c1
                try clear c2
                try clear p2
                try clear c3
                try clear c7
                try clear c7b0
                try clear c7b1
                try clear c8
                try clear c10
                try clear p2
                obtain ⟨x7_2, x206000_2, x214000_2, u206000, u214000, rfl, HA, HK2, HO_206000, HO_214000, HI205, HI213, HB⟩ := hrel
                cases gk with
                | zero => exact absurd HA.out (by simp [gangwaylaw19_Both.l0])
                | succ k2 =>
                  have H := HA.out
                  clear HA
                  simp only [gangwaylaw19_Both.l0] at H
                  by_cases c13 : x7_2 < (l0.length : Int)
                  · rw [if_pos c13] at H
                    have c13b0 : decide (x7_2 < (l0.length : Int)) = true := decide_eq_true c13
                    clear c13
                    (first | rw [c13b0] | (simp only [i64_w, i32_w]; rw [c13b0]) | skip)
                    by_cases c14 : x7_2 < (x214000_2.length : Int)
                    · rw [if_pos c14] at H
                      have c14b0 : decide (x7_2 < (x214000_2.length : Int)) = true := decide_eq_true c14
                      clear c14
                      by_cases c15 : 0 ≤ x7_2
                      · rw [if_pos c15] at H
                        have c15b0 : decide (0 ≤ x7_2) = true := decide_eq_true c15
                        clear c15
                        obtain ⟨y215, hy215⟩ : ∃ y_ : List Int, y_ = (x214000_2.set (x7_2 : Int).toNat (rd l0 x7_2)) := ⟨_, rfl⟩
                        replace H : (gangwaylaw19_Both.l0 k2 l0 (wrap64 (x7_2 + 1)) x206000_2 t204 y215 t212) = some (r1, r2, r3, r4, r5, r6) := by first | (rw [hy215]; with_reducible exact H) | (have H2_ := (Option.bind_some _ _).symm.trans H; rw [hy215]; with_reducible exact H2_) | (have H2_ := (Option.bind_some _ _).symm.trans H; with_reducible exact H2_) | with_reducible exact H | (rw [hy215]; exact H) | exact H
                        have Ny215 := Aside0.mk hy215
                        clear hy215
                        have H' := Aside0.mk H
                        clear H
                        obtain ⟨HGz17, hgz17⟩ := HI213.out
                        have hcz17_0 := cellS59_0 HGz17
                        have hcz17_1 := cellS59_1 HGz17
                        have hfz17_0 := blk_frozen HGz17 0
                        have hfz17_1 := blk_frozen HGz17 1
                        clear HGz17 hgz17
                        obtain ⟨Ao18, co18, eo18⟩ := Kd.R_slice HO_214000.out
                        subst eo18
                        try go_wp2
                        have n0_ := Aside0.mk (Kd.R_drew HO_206000.out)
                        have n1_ := Aside0.mk (Kd.R_drew HO_214000.out)
                        have n2_ := Aside0.mk (IsS72.drew HI205.out)
                        have n3_ := Aside0.mk (IsS59.drew HI213.out)
                        have n4_ := Aside0.mk (below_drew1 HB.out)
                        clear HO_206000
                        clear HO_214000
                        clear HI205
                        clear HI213
                        clear HB
                        have HO_206000 := n0_
                        have HO_214000 := n1_
                        have HI205 := n2_
                        have HI213 := n3_
                        have HB := n4_
                        clear n0_ n1_ n2_ n3_ n4_
                        have p214 : 0 ≤ (x7_2 : Int) := of_decide_eq_true (by first | (with_reducible assumption) | assumption)
                        have q214 : x7_2 < (l0.length : Int) := of_decide_eq_true (by first | (with_reducible assumption) | assumption)
                        obtain ⟨ad214, e214, hx214_0⟩ := Kd.at_int HR0.out x7_2 p214 q214
                        have hw214_0 := hx214_0
                        cases e214
                        replace hx214_0 := (HB.out.cell (World.block_lt_of_cell? w _ hx214_0)).trans hx214_0
                        replace p214 := eq_true p214
                        replace q214 := eq_true q214
                        have p16 : 0 ≤ (x7_2 : Int) := of_decide_eq_true (by first | (with_reducible assumption) | assumption)
                        have q16 : (x7_2 : Int) < ((x214000_2.length : Int) : Int) := of_decide_eq_true (by first | (with_reducible assumption) | assumption)
                        obtain ⟨go16, co16, eo16, gb16, gl16, cl16, HG16⟩ := Kd.R_form HO_214000.out (by omega)
                        (first | cases eo16 | (injection eo16 with ea_ en_ ec_; (first | subst ea_ | (injection ea_ with ea_; subst ea_)); subst ec_; clear en_))
                        have GB16 := Aside0.mk gb16
                        have GG16 := Aside0.mk HG16
                        clear gb16 gl16 HG16
                        obtain ⟨hx16_0, hf16_0⟩ := Kd.R_celln 0 HO_214000.out (x7_2 : Int) p16 q16
                        replace p16 := eq_true p16
                        replace q16 := eq_true q16
                        have HN205_go16 := Aside0.mk (show g205 ≠ go16 from by have h_ := IsS72.own_ne HI205.out HO_214000.out (by decide); intro e_; exact h_ (by rw [e_]; rfl))
                        have HN213_go16 := Aside0.mk (show g213 ≠ go16 from by have h_ := IsS59.own_ne HI213.out HO_214000.out (by decide); intro e_; exact h_ (by rw [e_]; rfl))
                        have HP20 := Kd.R_putn HO_214000.out (x7_2 : Int) (rd l0 x7_2)
                        rw [← Ny215.out] at HP20
                        have HQ20 := Aside0.mk HP20
                        clear HP20
                        refine start_ (n := 11) (S := fun w' => w'.cell? ⟨g213, 0, none⟩ = some (.slice (some ⟨go16, 0, none⟩) x214000_2.length co18) ∧ w'.cell? ⟨g213, 1, none⟩ = some (.int .i64 t212) ∧ w'.cell? (ad214.add (x7_2).toNat) = some (.int .u8 (rd l0 x7_2))) (ds := [10]) #[false, false, false, false, false, false, false, false, false, false, false] (by kernel_rfl) rfl rfl ⟨(blk_cell HI213.out.1 0).trans rfl, (blk_cell HI213.out.1 1).trans rfl, ((HB.out.cell (World.block_lt_of_cell? w _ hw214_0)).trans hw214_0)⟩ (fun hHeld => ?_); refine with_tabW gangwaylaw19_Both.tab8 gangwaylaw19_Both.bits8 (fun HT_ HW_ => ?_)
                        generalize wr.drew = w19 at HO_206000 HO_214000 HI205 HI213 HB GG16 HQ20 hf16_0 hx16_0 hx214_0 hHeld ⊢
                        refine pure_ (i := 0) (N := some 37) (v := ?_) (a' := ?_) #[true, false, false, false, false, false, false, false, false, false, false] rfl rfl (any_of HT_.out (by kernel_rfl)) (fun _ _ _ h => h) (Or.inl ⟨by rfl, ?_⟩) ?_ ?_
                        rotate_left
                        · intro w'
                          go_simp
                          with_reducible rfl
                        rotate_left
                        · simp only [Act.put, List.setIfInBounds_toArray, List.set_cons_zero, List.set_cons_succ, i64_w, i32_w]
                          rfl
                        refine pure_ (i := 1) (N := some 38) (v := ?_) (a' := ?_) #[true, true, false, false, false, false, false, false, false, false, false] rfl rfl (any_of HT_.out (by kernel_rfl)) (fun _ _ _ h => h) (Or.inl ⟨by rfl, ?_⟩) ?_ ?_
                        rotate_left
                        · intro w'
                          go_simp
                          with_reducible rfl
                        rotate_left
                        · simp only [Act.put, List.setIfInBounds_toArray, List.set_cons_zero, List.set_cons_succ, i64_w, i32_w]
                          rfl
                        refine pure_ (i := 2) (N := some 39) (v := ?_) (a' := ?_) #[true, true, true, false, false, false, false, false, false, false, false] rfl rfl (any_of HT_.out (by kernel_rfl)) (fun _ _ _ h => h) (Or.inl ⟨by rfl, ?_⟩) ?_ ?_
                        rotate_left
                        · intro w'
                          go_simp
                          with_reducible rfl
                        rotate_left
                        · simp only [Act.put, List.setIfInBounds_toArray, List.set_cons_zero, List.set_cons_succ, i64_w, i32_w]
                          rfl
                        refine pure_ (i := 4) (N := some 41) (v := ?_) (a' := ?_) #[true, true, true, false, true, false, false, false, false, false, false] rfl rfl (any_of HT_.out (by kernel_rfl)) (fun _ _ _ h => h) (Or.inl ⟨by rfl, ?_⟩) ?_ ?_
                        rotate_left
                        · intro w'
                          go_simp
                          with_reducible rfl
                        rotate_left
                        · simp only [Act.put, List.setIfInBounds_toArray, List.set_cons_zero, List.set_cons_succ, i64_w, i32_w]
                          rfl
                        refine pure_ (i := 5) (N := some 42) (v := ?_) (a' := ?_) #[true, true, true, false, true, true, false, false, false, false, false] rfl rfl (any_of HT_.out (by kernel_rfl)) (fun _ _ _ h => h) (Or.inl ⟨by rfl, ?_⟩) ?_ ?_
                        rotate_left
                        · intro w'
                          go_simp
                          with_reducible rfl
                        rotate_left
                        · simp only [Act.put, List.setIfInBounds_toArray, List.set_cons_zero, List.set_cons_succ, i64_w, i32_w]
                          rfl
                        refine pure_ (i := 6) (N := some 43) (v := ?_) (a' := ?_) #[true, true, true, false, true, true, true, false, false, false, false] rfl rfl (any_of HT_.out (by kernel_rfl)) (fun _ _ _ h => h) (Or.inl ⟨by rfl, ?_⟩) ?_ ?_
                        rotate_left
                        · intro w'
                          go_simp
                          with_reducible rfl
                        rotate_left
                        · simp only [Act.put, List.setIfInBounds_toArray, List.set_cons_zero, List.set_cons_succ, i64_w, i32_w]
                          rfl
                        refine pure_ (i := 7) (N := some 44) (v := ?_) (a' := ?_) #[true, true, true, false, true, true, true, true, false, false, false] rfl rfl (any_of HT_.out (by kernel_rfl)) (fun _ _ _ h => h) (Or.inl ⟨by rfl, ?_⟩) ?_ ?_
                        rotate_left
                        · intro w'
                          go_simp
                          with_reducible rfl
                        rotate_left
                        · simp only [Act.put, List.setIfInBounds_toArray, List.set_cons_zero, List.set_cons_succ, i64_w, i32_w]
                          rfl
                        refine take_ (i := 3) (N := some 40) (v := ?_) (a' := ?_) #[true, true, true, true, true, true, true, true, false, false, false] rfl rfl (take_ofW HT_.out HW_.out (by kernel_rfl)) (fun _ _ _ h => h) (Or.inl ⟨by rfl, ?_⟩) hHeld ?_ ?_
                        rotate_left
                        · rintro w' ⟨s0, s1, s2⟩
                          go_simp
                          with_reducible rfl
                        rotate_left
                        · simp only [Act.put, List.setIfInBounds_toArray, List.set_cons_zero, List.set_cons_succ, i64_w, i32_w]
                          rfl
                        refine take_ (i := 8) (N := some 45) (v := ?_) (a' := ?_) #[true, true, true, true, true, true, true, true, true, false, false] rfl rfl (take_ofW HT_.out HW_.out (by kernel_rfl)) (fun _ _ _ h => h) (Or.inl ⟨by rfl, ?_⟩) hHeld ?_ ?_
                        rotate_left
                        · rintro w' ⟨s0, s1, s2⟩
                          go_simp
                          with_reducible rfl
                        rotate_left
                        · simp only [Act.put, List.setIfInBounds_toArray, List.set_cons_zero, List.set_cons_succ, i64_w, i32_w]
                          rfl
                        refine pure_ (i := 9) (N := some 46) (v := ?_) (a' := ?_) #[true, true, true, true, true, true, true, true, true, true, false] rfl rfl (any_of HT_.out (by kernel_rfl)) (fun _ _ _ h => h) (Or.inl ⟨by rfl, ?_⟩) ?_ ?_
                        rotate_left
                        · intro w'
                          go_simp
                          with_reducible rfl
                        rotate_left
                        · simp only [Act.put, List.setIfInBounds_toArray, List.set_cons_zero, List.set_cons_succ, i64_w, i32_w]
                          rfl
                        refine last_ (i := 10) (N := none) #[true, true, true, true, true, true, true, true, true, true, true] rfl rfl (one_of HT_.out (by kernel_rfl)) (by decide) (fun K hK => ?_)
                        refine skip_ (w1 := ?_) (by rfl) rfl ?_ ?_
                        rotate_left
                        · go_simp
                          rfl
                        refine hK.out _ _ ?_
                        clear hK K
                        refine done_ (done_of HT_.out (by kernel_rfl)) ?_
                        try go_wp2
                        go_roundg k2
                        case measure => have := HJ3.out; have := HK2.out; omega
                        case rel => exact ⟨(wrap64 (x7_2 + 1)), (x206000_2), (y215), (u206000), (.slice (some ⟨go16, 0, none⟩) x214000_2.length co18), (by first | rfl | (simp; done) | (simp [*]; done)), H', ⟨by have := HJ3.out; have := HK2.out; omega⟩, ⟨by (with_reducible repeat (first | apply Kd.R_alloc | apply Kd.R_drewN | apply Kd.R_drew)); exact Kd.R_mono (Kd.R_far (p := ⟨go16, (x7_2 : Int).toNat, none⟩) (Kd.R_mono HO_206000.out (fun k_ hk => (⟨hk, fun e_ => hk (by rw [e_]; rfl)⟩ : _ ∧ k_ ≠ go16))) (fun _ hk => hk.2) (.int .u8 (rd l0 x7_2))) (fun _ hk => hk.1)⟩, ⟨by (with_reducible repeat (first | apply Kd.R_alloc | apply Kd.R_drewN | apply Kd.R_drew)); exact HQ20.out⟩, ⟨by repeat (first | (with_reducible first | exact HI205.out | apply IsS72.alloc | apply IsS72.drewN | apply IsS72.drew | apply IsS72.set_0 | apply IsS72.set_1 | refine IsS72.far ?_ HN205_go16.out _) | exact HI205.out)⟩, ⟨by repeat (first | (with_reducible first | exact HI213.out | apply IsS59.alloc | apply IsS59.drewN | apply IsS59.drew | apply IsS59.set_0 | apply IsS59.set_1 | refine IsS59.far ?_ HN213_go16.out _) | exact HI213.out)⟩, ⟨by repeat (first | (with_reducible first | exact HB.out | apply below_alloc | apply pw_below_drewN | apply below_drew1 | refine below_set ?_ GB16.out | refine below_set ?_ (IsS72.ge HI205.out) | refine below_set ?_ (IsS59.ge HI213.out)) | exact HB.out)⟩⟩
                      · rw [if_neg c15] at H
                        exact absurd H (by simp)
                    · rw [if_neg c14] at H
                      have c14b0 : decide (x7_2 < (x214000_2.length : Int)) = false := decide_eq_false c14
                      clear c14
                      have H' := Aside0.mk H
                      clear H
                      obtain ⟨HGz21, hgz21⟩ := HI213.out
                      have hcz21_0 := cellS59_0 HGz21
                      have hcz21_1 := cellS59_1 HGz21
                      have hfz21_0 := blk_frozen HGz21 0
                      have hfz21_1 := blk_frozen HGz21 1
                      clear HGz21 hgz21
                      obtain ⟨Ao22, co22, eo22⟩ := Kd.R_slice HO_214000.out
                      subst eo22
                      go_wp2
                      go_meet
                      case rel => exact ⟨_, (x206000_2), (x214000_2), (u206000), (.slice Ao22 x214000_2.length co22), H', ⟨by have := HJ3.out; have := HK2.out; first | omega | exact Nat.le_refl _⟩, ⟨by (with_reducible repeat (first | apply Kd.R_alloc | apply Kd.R_drewN | apply Kd.R_drew)); exact HO_206000.out⟩, ⟨by (with_reducible repeat (first | apply Kd.R_alloc | apply Kd.R_drewN | apply Kd.R_drew)); exact HO_214000.out⟩, ⟨by repeat (first | (with_reducible first | exact HI205.out | apply IsS72.alloc | apply IsS72.drewN | apply IsS72.drew | apply IsS72.set_0 | apply IsS72.set_1) | exact HI205.out)⟩, ⟨by repeat (first | (with_reducible first | exact HI213.out | apply IsS59.alloc | apply IsS59.drewN | apply IsS59.drew | apply IsS59.set_0 | apply IsS59.set_1) | exact HI213.out)⟩, ⟨by repeat (first | (with_reducible first | exact HB.out | apply below_alloc | apply pw_below_drewN | apply below_drew1 | refine below_set ?_ (IsS72.ge HI205.out) | refine below_set ?_ (IsS59.ge HI213.out)) | exact HB.out)⟩⟩
                  · rw [if_neg c13] at H
                    have c13b0 : decide (x7_2 < (l0.length : Int)) = false := decide_eq_false c13
                    clear c13
                    (first | rw [c13b0] | (simp only [i64_w, i32_w]; rw [c13b0]) | skip)
                    have H' := Aside0.mk H
                    clear H
                    go_wp2
                    go_meet
                    case rel => exact ⟨_, (x206000_2), (x214000_2), (u206000), (u214000), H', ⟨by have := HJ3.out; have := HK2.out; first | omega | exact Nat.le_refl _⟩, ⟨by (with_reducible repeat (first | apply Kd.R_alloc | apply Kd.R_drewN | apply Kd.R_drew)); exact HO_206000.out⟩, ⟨by (with_reducible repeat (first | apply Kd.R_alloc | apply Kd.R_drewN | apply Kd.R_drew)); exact HO_214000.out⟩, ⟨by repeat (first | (with_reducible first | exact HI205.out | apply IsS72.alloc | apply IsS72.drewN | apply IsS72.drew | apply IsS72.set_0 | apply IsS72.set_1) | exact HI205.out)⟩, ⟨by repeat (first | (with_reducible first | exact HI213.out | apply IsS59.alloc | apply IsS59.drewN | apply IsS59.drew | apply IsS59.set_0 | apply IsS59.set_1) | exact HI213.out)⟩, ⟨by repeat (first | (with_reducible first | exact HB.out | apply below_alloc | apply pw_below_drewN | apply below_drew1 | refine below_set ?_ (IsS72.ge HI205.out) | refine below_set ?_ (IsS59.ge HI213.out)) | exact HB.out)⟩⟩
            case rest =>
              clear HC11
              try clear c1
              try clear p1
              try clear q1
              try clear hx1
              try clear hf1
              try clear c2
              try clear p2
              try clear q2
              try clear hx2
              try clear c3
              try clear p6
              try clear c7
              try clear c7b0
              try clear c7b1
              try clear c8
              try clear c10
              try clear c13
              try clear c13b0
              try clear c14
              try clear c14b0
              try clear c15
              try clear c15b0
              try clear p16
              try clear q16
              try clear hx16
              try clear hf16
              try clear p21
              try clear q21
              try clear hx21
              try clear hcz17_0
              try clear hcz17_1
              try clear hcz21_0
              try clear hcz21_1
              try clear hfz17_0
              try clear hfz17_1
              try clear hfz21_0
              try clear hfz21_1
              try clear hx16_0
              try clear hx214_0
              try clear p16
              try clear p2
              try clear p214
              try clear q16
              try clear q214
              obtain ⟨kq, x206000_10, x214000_10, u206000, u214000, HA, HJ10, HO_206000, HO_214000, HI205, HI213, HB⟩ := hcut
              cases kq with
              | zero => exact absurd HA.out (by simp [gangwaylaw19_Both.j2])
              | succ kj10 =>
                have H := HA.out
                clear HA
                simp only [gangwaylaw19_Both.j2] at H
                replace H := Option.bind_eq_some_iff.mp H
                obtain ⟨⟨t216, t217, t220⟩, A230, H⟩ := H
                replace H : ((gangwaylaw19_num.f t216).bind fun t221 => (if t221 = 0 then (some (true, t217, t220, true, x214000_10, t212)) else (some (false, ([] : List Int), 0, false, ([] : List Int), 0)))) = some (r1, r2, r3, r4, r5, r6) := H
                have A23 := Aside0.mk A230
                clear A230
                replace H := Option.bind_eq_some_iff.mp H
                obtain ⟨t221, A240, H⟩ := H
                replace H : (if t221 = 0 then (some (true, t217, t220, true, x214000_10, t212)) else (some (false, ([] : List Int), 0, false, ([] : List Int), 0))) = some (r1, r2, r3, r4, r5, r6) := H
                have A24 := Aside0.mk A240
                clear A240
                by_cases c25 : t221 = 0
                · rw [if_pos c25] at H
                  have c25b0 : (t221 == 0) = true := beq_iff_eq.mpr c25
                  have c25b1 : (t221 != 0) = false := bne_eq_false_iff_eq.mpr c25
                  clear c25
                  simp only [Option.some.injEq, Prod.mk.injEq] at H
                  obtain ⟨rfl, rfl, rfl, rfl, rfl, rfl⟩ := H
                  obtain ⟨HGz26, hgz26⟩ := HI213.out
                  have hcz26_0 := cellS59_0 HGz26
                  have hcz26_1 := cellS59_1 HGz26
                  have hfz26_0 := blk_frozen HGz26 0
                  have hfz26_1 := blk_frozen HGz26 1
                  clear HGz26 hgz26
                  obtain ⟨Ao27, co27, eo27⟩ := Kd.R_slice HO_214000.out
                  subst eo27
                  go_wp2_with (first | ((with_reducible refine gate_callee (f := 26) rfl ?_); refine goesL_ (some 52) rfl rfl Try.func26 (by kernel_rfl) rfl #[.pointer (some ⟨g205, 0, none⟩), .int .i64 0, .slice Ao27 x214000_10.length co27] rfl (by (try simp only [List.map_toArray, List.map_cons, List.map_nil]); first | done | rfl | (simp only [List.length_drop, List.length_take]; rfl)) ?_; (with_reducible refine (mem_Memory_Write.calls g205 (fun k_ => some k_ = (u206000 : Value).ownBlock) u206000 x206000_10 t204 0 _ _ x214000_10 t216 t217 t220 w _ ?side1 ?side2 ?side3 ?side4 ?side5 A23.out).mono ?_); (case side1 => repeat (first | (with_reducible first | exact HI205.out | apply IsS72.alloc | apply IsS72.drewN | apply IsS72.drew | apply IsS72.set_0 | apply IsS72.set_1) | exact HI205.out)); (case side2 => repeat (first | (with_reducible first | exact HB.out | apply below_alloc | apply pw_below_drewN | apply below_drew1 | refine below_set ?_ (IsS72.ge HI205.out) | refine below_set ?_ (IsS59.ge HI213.out)) | exact HB.out)); (case side3 => exact Kd.R_tight rfl HO_206000.out); (case side4 => exact Kd.C_kept_own ((IsS72.apart HI205.out HO_214000.out (by decide))) (fun k_ hk_ hs_ => Or.elim hs_ (fun hs_ => (hk_.1) hs_) (fun e_ => (hk_.2) e_))); (case side5 => exact (Kd.R_reads' HO_214000.out).2.1); rintro e w28 ⟨v218, rfl, ho0, hi, hb, hkp⟩; refine ⟨_, rfl, ?_⟩; have n0_ := Aside0.mk (Kd.R_mono (ok' := fun k_ => some k_ ≠ (v218 : Value).ownBlock) (Kd.R_keptB ((IsS72.apart HI205.out HO_214000.out (by decide))) hkp (fun k_ hk_ hs_ => Or.elim hs_ (fun hs_ => (hk_.1) hs_) (fun e_ => (hk_.2) e_))) (fun k_ hk_ => fun e_ => Or.elim (ho0.1 k_ e_.symm) (fun hs_ => hk_.2.1 (.inl hs_)) (fun hn_ => Nat.not_le.2 hk_.2.2 hn_))); have n1_ := Aside0.mk (hi); have n2_ := Aside0.mk (IsS59.kept (by repeat (first | (with_reducible first | exact HI213.out | apply IsS59.alloc | apply IsS59.drewN | apply IsS59.drew | apply IsS59.set_0 | apply IsS59.set_1) | exact HI213.out)) hkp (fun hs_ => Or.elim hs_ (fun hs_ => (fun e_ => (IsS59.own_ne HI213.out HO_206000.out (by decide)) e_) hs_) (fun e_ => NB213_205.out e_))); have n3_ := Aside0.mk (Kd.R_mono (ok' := fun k_ => some k_ ≠ (.slice Ao27 x214000_10.length co27 : Value).ownBlock) ho0 (fun k_ hk_ => Or.elim hk_ (fun hs_ => fun e_ => ((((IsS72.apart HI205.out HO_214000.out (by decide))).1 k_ e_.symm).1) hs_) (fun hn_ => (Kd.fresh' (Kd.R_lt (by (with_reducible repeat (first | apply Kd.R_alloc | apply Kd.R_drewN | apply Kd.R_drew)); exact HO_214000.out)) k_ hn_)))); have n4_ := Aside0.mk (hb); clear HO_214000; clear HI205; clear HI213; clear HB; clear HO_206000; have HO_214000 := n0_; have HI205 := n1_; have HI213 := n2_; have HO219 := n3_; have HB := n4_; clear n0_ n1_ n2_ n3_ n4_; (try clear hb); (try clear hkp); (try clear ho0)) | ((with_reducible refine gate_callee (f := 24) rfl ?_); refine goesL_ (some 53) rfl rfl Try.func24 (by kernel_rfl) rfl #[.int .i64 t216] rfl (by (try simp only [List.map_toArray, List.map_cons, List.map_nil]); first | done | rfl | (simp only [List.length_drop, List.length_take]; rfl)) ?_; (with_reducible refine (gangwaylaw19_num.calls t216 t221 _ A24.out).mono ?_); rintro e w' ⟨rfl, ⟨nd, rfl⟩⟩; refine ⟨_, rfl, ?_⟩))
                  go_ret2
                  exact ⟨_, _, (.pointer (some ⟨g205, 0, none⟩)), (.pointer (some ⟨g213, 0, none⟩)), by first | rfl | (simp [errW_none, errW_some] <;> rfl) | (simp [*, errW_none, errW_some] <;> rfl), by (with_reducible repeat (first | apply Kd.R_alloc | apply Kd.R_drewN | apply Kd.R_drew)); exact HO219.out, by (with_reducible repeat (first | apply Kd.R_alloc | apply Kd.R_drewN | apply Kd.R_drew)); exact HO_214000.out, by first | exact ⟨fun _ => ⟨_, rfl, by repeat (first | (with_reducible first | exact HI205.out | apply IsS72.alloc | apply IsS72.drewN | apply IsS72.drew | apply IsS72.set_0 | apply IsS72.set_1) | exact HI205.out)⟩, fun h_ => absurd h_ (by decide)⟩ | exact ⟨_, rfl, by repeat (first | (with_reducible first | exact HI205.out | apply IsS72.alloc | apply IsS72.drewN | apply IsS72.drew | apply IsS72.set_0 | apply IsS72.set_1) | exact HI205.out)⟩, by first | exact ⟨fun _ => ⟨_, rfl, by repeat (first | (with_reducible first | exact HI213.out | apply IsS59.alloc | apply IsS59.drewN | apply IsS59.drew | apply IsS59.set_0 | apply IsS59.set_1) | exact HI213.out)⟩, fun h_ => absurd h_ (by decide)⟩ | exact ⟨_, rfl, by repeat (first | (with_reducible first | exact HI213.out | apply IsS59.alloc | apply IsS59.drewN | apply IsS59.drew | apply IsS59.set_0 | apply IsS59.set_1) | exact HI213.out)⟩, by repeat (first | (with_reducible first | exact HB.out | apply below_alloc | apply pw_below_drewN | apply below_drew1 | refine below_set ?_ (IsS72.ge HI205.out) | refine below_set ?_ (IsS59.ge HI213.out)) | exact HB.out)⟩
                · rw [if_neg c25] at H
                  have c25b0 : (t221 == 0) = false := beq_eq_false_iff_ne.mpr c25
                  have c25b1 : (t221 != 0) = true := bne_iff_ne.mpr c25
                  simp only [Option.some.injEq, Prod.mk.injEq] at H
                  obtain ⟨rfl, rfl, rfl, rfl, rfl, rfl⟩ := H
                  obtain ⟨HGz29, hgz29⟩ := HI213.out
                  have hcz29_0 := cellS59_0 HGz29
                  have hcz29_1 := cellS59_1 HGz29
                  have hfz29_0 := blk_frozen HGz29 0
                  have hfz29_1 := blk_frozen HGz29 1
                  clear HGz29 hgz29
                  obtain ⟨Ao30, co30, eo30⟩ := Kd.R_slice HO_214000.out
                  subst eo30
                  go_wp2_with (first | ((with_reducible refine gate_callee (f := 26) rfl ?_); refine goesL_ (some 52) rfl rfl Try.func26 (by kernel_rfl) rfl #[.pointer (some ⟨g205, 0, none⟩), .int .i64 0, .slice Ao30 x214000_10.length co30] rfl (by (try simp only [List.map_toArray, List.map_cons, List.map_nil]); first | done | rfl | (simp only [List.length_drop, List.length_take]; rfl)) ?_; (with_reducible refine (mem_Memory_Write.calls g205 (fun k_ => some k_ = (u206000 : Value).ownBlock) u206000 x206000_10 t204 0 _ _ x214000_10 t216 t217 t220 w _ ?side1 ?side2 ?side3 ?side4 ?side5 A23.out).mono ?_); (case side1 => repeat (first | (with_reducible first | exact HI205.out | apply IsS72.alloc | apply IsS72.drewN | apply IsS72.drew | apply IsS72.set_0 | apply IsS72.set_1) | exact HI205.out)); (case side2 => repeat (first | (with_reducible first | exact HB.out | apply below_alloc | apply pw_below_drewN | apply below_drew1 | refine below_set ?_ (IsS72.ge HI205.out) | refine below_set ?_ (IsS59.ge HI213.out)) | exact HB.out)); (case side3 => exact Kd.R_tight rfl HO_206000.out); (case side4 => exact Kd.C_kept_own ((IsS72.apart HI205.out HO_214000.out (by decide))) (fun k_ hk_ hs_ => Or.elim hs_ (fun hs_ => (hk_.1) hs_) (fun e_ => (hk_.2) e_))); (case side5 => exact (Kd.R_reads' HO_214000.out).2.1); rintro e w31 ⟨v218, rfl, ho0, hi, hb, hkp⟩; refine ⟨_, rfl, ?_⟩; have n0_ := Aside0.mk (Kd.R_mono (ok' := fun k_ => some k_ ≠ (v218 : Value).ownBlock) (Kd.R_keptB ((IsS72.apart HI205.out HO_214000.out (by decide))) hkp (fun k_ hk_ hs_ => Or.elim hs_ (fun hs_ => (hk_.1) hs_) (fun e_ => (hk_.2) e_))) (fun k_ hk_ => fun e_ => Or.elim (ho0.1 k_ e_.symm) (fun hs_ => hk_.2.1 (.inl hs_)) (fun hn_ => Nat.not_le.2 hk_.2.2 hn_))); have n1_ := Aside0.mk (hi); have n2_ := Aside0.mk (IsS59.kept (by repeat (first | (with_reducible first | exact HI213.out | apply IsS59.alloc | apply IsS59.drewN | apply IsS59.drew | apply IsS59.set_0 | apply IsS59.set_1) | exact HI213.out)) hkp (fun hs_ => Or.elim hs_ (fun hs_ => (fun e_ => (IsS59.own_ne HI213.out HO_206000.out (by decide)) e_) hs_) (fun e_ => NB213_205.out e_))); have n3_ := Aside0.mk (Kd.R_mono (ok' := fun k_ => some k_ ≠ (.slice Ao30 x214000_10.length co30 : Value).ownBlock) ho0 (fun k_ hk_ => Or.elim hk_ (fun hs_ => fun e_ => ((((IsS72.apart HI205.out HO_214000.out (by decide))).1 k_ e_.symm).1) hs_) (fun hn_ => (Kd.fresh' (Kd.R_lt (by (with_reducible repeat (first | apply Kd.R_alloc | apply Kd.R_drewN | apply Kd.R_drew)); exact HO_214000.out)) k_ hn_)))); have n4_ := Aside0.mk (hb); clear HO_214000; clear HI205; clear HI213; clear HB; clear HO_206000; have HO_214000 := n0_; have HI205 := n1_; have HI213 := n2_; have HO219 := n3_; have HB := n4_; clear n0_ n1_ n2_ n3_ n4_; (try clear hb); (try clear hkp); (try clear ho0)) | ((with_reducible refine gate_callee (f := 24) rfl ?_); refine goesL_ (some 53) rfl rfl Try.func24 (by kernel_rfl) rfl #[.int .i64 t216] rfl (by (try simp only [List.map_toArray, List.map_cons, List.map_nil]); first | done | rfl | (simp only [List.length_drop, List.length_take]; rfl)) ?_; (with_reducible refine (gangwaylaw19_num.calls t216 t221 _ A24.out).mono ?_); rintro e w' ⟨rfl, ⟨nd, rfl⟩⟩; refine ⟨_, rfl, ?_⟩))
                  go_ret2
                  exact ⟨_, _, (.pointer none), (.pointer none), by first | rfl | (simp [errW_none, errW_some] <;> rfl) | (simp [*, errW_none, errW_some] <;> rfl), by first | exact Kd.R_nil _ _ _ _ _ | exact Kd.N_nil _ _ _ _ _ | exact Kd.V_nil _ _ _ _ _ | exact Kd.Q_nil _ _ _ _ _ | exact Kd.S_nil _ _ _ _ _, by first | exact Kd.R_nil _ _ _ _ _ | exact Kd.N_nil _ _ _ _ _ | exact Kd.V_nil _ _ _ _ _ | exact Kd.Q_nil _ _ _ _ _ | exact Kd.S_nil _ _ _ _ _, by first | exact ⟨fun h_ => absurd h_ (by decide), fun _ => rfl⟩ | rfl | exact ⟨trivial, rfl⟩, by first | exact ⟨fun h_ => absurd h_ (by decide), fun _ => rfl⟩ | rfl | exact ⟨trivial, rfl⟩, by repeat (first | (with_reducible first | exact HB.out | apply below_alloc | apply pw_below_drewN | apply below_drew1 | refine below_set ?_ (IsS72.ge HI205.out) | refine below_set ?_ (IsS59.ge HI213.out)) | exact HB.out)⟩
          · replace c10 := Bool.eq_false_iff.mpr c10
            subst c10
            have H1 : (none) = some (r1, r2, r3, r4, r5, r6) := by rw [if_neg (show ¬ (false = true) by decide)] at H; exact H
            clear H
            have H := H1
            clear H1
            exact absurd H (by simp)
  · replace c3 := Bool.eq_false_iff.mpr c3
    subst c3
    have H1 : (none) = some (r1, r2, r3, r4, r5, r6) := by rw [if_neg (show ¬ (false = true) by decide)] at H; exact H
    clear H
    have H := H1
    clear H1
    exact absurd H (by simp)

/-! ### gangwayref9_Mem_Has: function 27 -/
def gangwayref9_Mem_Has.f (l0_0 : List Int) (s0_1 : Int) (a1 : Int) (a2 : Int) : Option (Bool × List Int × Int) := if a1 ≥ 0 then (if a2 ≥ 0 then (if a2 ≤ (l0_0.length : Int) then (some (decide (a1 ≤ (wrap64 ((l0_0.length : Int) - a2))), l0_0, s0_1)) else (some (false, l0_0, s0_1))) else (some (false, l0_0, s0_1))) else (some (false, l0_0, s0_1))
set_option maxHeartbeats 8000000 in
set_option maxRecDepth 100000 in
theorem gangwayref9_Mem_Has.calls (g : Nat) (P0_0_ : Nat → Prop) (u9000_ : Value) (l0_0 : List Int) (s0_1 : Int) (a1 : Int) (a2 : Int) (r1 : Bool) (r2 : List Int) (r3 : Int) (w0 w : World) (hI : IsS59 w0 w g u9000_ s0_1) (hB : Below w0.heap.size w0 w) (ho0_0 : Kd.R (Kd.int .u8) 5 w w0.heap.size P0_0_ u9000_ l0_0) (h : gangwayref9_Mem_Has.f l0_0 s0_1 a1 a2 = some (r1, r2, r3)) :
    Calls Try.prog 27 #[.pointer (some ⟨g, 0, none⟩), .int .i64 a1, .int .i64 a2] w fun e w' => ∃ v1_ : Value, e = .returned (.bool r1) ∧ Kd.R (Kd.int .u8) 5 w' w0.heap.size (fun k_ => (P0_0_ k_ ∨ w.heap.size ≤ k_)) v1_ r2 ∧ IsS59 w0 w' g v1_ r3 ∧ Below w0.heap.size w0 w' ∧ Kept w w' (fun k_ => (P0_0_ k_) ∨ k_ = g) := by
  have HO0_0 := Aside0.mk (show Kd.R (Kd.int .u8) 5 w w0.heap.size (fun k_ => (P0_0_ k_ ∨ w.heap.size ≤ k_)) u9000_ l0_0 from Kd.R_mono ho0_0 (fun k_ hk => (.inl hk)))
  have HI0 := Aside0.mk hI
  have HL := Aside0.mk hB.size
  clear hI
  have HK := Aside0.mk (Kept.refl w (fun k_ => (P0_0_ k_) ∨ k_ = g))
  have HW0 := Aside0.mk hB.size
  have HB := Aside0.mk hB
  clear hB
  have H : (if a1 ≥ 0 then (if a2 ≥ 0 then (if a2 ≤ (l0_0.length : Int) then (some (decide (a1 ≤ (wrap64 ((l0_0.length : Int) - a2))), l0_0, s0_1)) else (some (false, l0_0, s0_1))) else (some (false, l0_0, s0_1))) else (some (false, l0_0, s0_1))) = some (r1, r2, r3) := h
  clear h
  by_cases c4 : a1 ≥ 0
  · rw [if_pos c4] at H
    have c4b0 : decide (0 ≤ a1) = true := decide_eq_true c4
    clear c4
    by_cases c5 : a2 ≥ 0
    · rw [if_pos c5] at H
      have c5b0 : decide (0 ≤ a2) = true := decide_eq_true c5
      clear c5
      by_cases c6 : a2 ≤ (l0_0.length : Int)
      · rw [if_pos c6] at H
        have c6b0 : decide (a2 ≤ (l0_0.length : Int)) = true := decide_eq_true c6
        clear c6
        simp only [Option.some.injEq, Prod.mk.injEq] at H
        obtain ⟨rfl, rfl, rfl⟩ := H
        obtain ⟨HGz7, hgz7⟩ := HI0.out
        have hcz7_0 := cellS59_0 HGz7
        have hcz7_1 := cellS59_1 HGz7
        have hfz7_0 := blk_frozen HGz7 0
        have hfz7_1 := blk_frozen HGz7 1
        clear HGz7 hgz7
        obtain ⟨Ao8, co8, eo8⟩ := Kd.R_slice HO0_0.out
        subst eo8
        go_enter Try.func27, Try.ntmps27
        go_wp2
        go_ret
        exact ⟨_, by first | rfl | (simp [errW_none, errW_some] <;> rfl) | (simp [*, errW_none, errW_some] <;> rfl), by (with_reducible repeat (first | apply Kd.R_alloc | apply Kd.R_drewN | apply Kd.R_drew)); exact HO0_0.out, by repeat (first | (with_reducible first | exact HI0.out | apply IsS59.alloc | apply IsS59.drewN | apply IsS59.drew | apply IsS59.set_0 | apply IsS59.set_1) | exact HI0.out), by repeat (first | (with_reducible first | exact HB.out | apply below_alloc | apply pw_below_drewN | apply below_drew1 | refine below_set ?_ (IsS59.ge HI0.out)) | exact HB.out), by repeat (first | (with_reducible first | exact HK.out | apply Kept.alloc | apply Kept.drewN | apply Kept.drew | refine Kept.setCell ?_ (.inl (.inr rfl)) _) | exact HK.out)⟩
      · rw [if_neg c6] at H
        have c6b0 : decide (a2 ≤ (l0_0.length : Int)) = false := decide_eq_false c6
        clear c6
        simp only [Option.some.injEq, Prod.mk.injEq] at H
        obtain ⟨rfl, rfl, rfl⟩ := H
        obtain ⟨HGz9, hgz9⟩ := HI0.out
        have hcz9_0 := cellS59_0 HGz9
        have hcz9_1 := cellS59_1 HGz9
        have hfz9_0 := blk_frozen HGz9 0
        have hfz9_1 := blk_frozen HGz9 1
        clear HGz9 hgz9
        obtain ⟨Ao10, co10, eo10⟩ := Kd.R_slice HO0_0.out
        subst eo10
        go_enter Try.func27, Try.ntmps27
        go_wp2
        go_ret
        exact ⟨_, by first | rfl | (simp [errW_none, errW_some] <;> rfl) | (simp [*, errW_none, errW_some] <;> rfl), by (with_reducible repeat (first | apply Kd.R_alloc | apply Kd.R_drewN | apply Kd.R_drew)); exact HO0_0.out, by repeat (first | (with_reducible first | exact HI0.out | apply IsS59.alloc | apply IsS59.drewN | apply IsS59.drew | apply IsS59.set_0 | apply IsS59.set_1) | exact HI0.out), by repeat (first | (with_reducible first | exact HB.out | apply below_alloc | apply pw_below_drewN | apply below_drew1 | refine below_set ?_ (IsS59.ge HI0.out)) | exact HB.out), by repeat (first | (with_reducible first | exact HK.out | apply Kept.alloc | apply Kept.drewN | apply Kept.drew | refine Kept.setCell ?_ (.inl (.inr rfl)) _) | exact HK.out)⟩
    · rw [if_neg c5] at H
      have c5b0 : decide (0 ≤ a2) = false := decide_eq_false c5
      clear c5
      simp only [Option.some.injEq, Prod.mk.injEq] at H
      obtain ⟨rfl, rfl, rfl⟩ := H
      go_enter Try.func27, Try.ntmps27
      go_wp2
      go_ret
      exact ⟨_, by first | rfl | (simp [errW_none, errW_some] <;> rfl) | (simp [*, errW_none, errW_some] <;> rfl), by (with_reducible repeat (first | apply Kd.R_alloc | apply Kd.R_drewN | apply Kd.R_drew)); exact HO0_0.out, by repeat (first | (with_reducible first | exact HI0.out | apply IsS59.alloc | apply IsS59.drewN | apply IsS59.drew | apply IsS59.set_0 | apply IsS59.set_1) | exact HI0.out), by repeat (first | (with_reducible first | exact HB.out | apply below_alloc | apply pw_below_drewN | apply below_drew1 | refine below_set ?_ (IsS59.ge HI0.out)) | exact HB.out), by repeat (first | (with_reducible first | exact HK.out | apply Kept.alloc | apply Kept.drewN | apply Kept.drew | refine Kept.setCell ?_ (.inl (.inr rfl)) _) | exact HK.out)⟩
  · rw [if_neg c4] at H
    have c4b0 : decide (0 ≤ a1) = false := decide_eq_false c4
    clear c4
    simp only [Option.some.injEq, Prod.mk.injEq] at H
    obtain ⟨rfl, rfl, rfl⟩ := H
    go_enter Try.func27, Try.ntmps27
    go_wp2
    go_ret
    exact ⟨_, by first | rfl | (simp [errW_none, errW_some] <;> rfl) | (simp [*, errW_none, errW_some] <;> rfl), by (with_reducible repeat (first | apply Kd.R_alloc | apply Kd.R_drewN | apply Kd.R_drew)); exact HO0_0.out, by repeat (first | (with_reducible first | exact HI0.out | apply IsS59.alloc | apply IsS59.drewN | apply IsS59.drew | apply IsS59.set_0 | apply IsS59.set_1) | exact HI0.out), by repeat (first | (with_reducible first | exact HB.out | apply below_alloc | apply pw_below_drewN | apply below_drew1 | refine below_set ?_ (IsS59.ge HI0.out)) | exact HB.out), by repeat (first | (with_reducible first | exact HK.out | apply Kept.alloc | apply Kept.drewN | apply Kept.drew | refine Kept.setCell ?_ (.inl (.inr rfl)) _) | exact HK.out)⟩

/-! ### gangwayref20_put: function 28 -/
def gangwayref20_put.l0 : Nat → List Int → Int → List Int → Int → Option (List Int)
  | 0, _, _, _, _ => none
  | k + 1, x0, x1, x2, x6 => if x6 < (x2.length : Int) then (if 0 ≤ x6 then (if 0 ≤ (wrap64 (x1 + x6)) then (if (wrap64 (x1 + x6)) < (x0.length : Int) then (gangwayref20_put.l0 k (x0.set ((wrap64 (x1 + x6)) : Int).toNat (rd x2 x6)) x1 x2 (wrap64 (x6 + 1))) else (none)) else (none)) else (none)) else (some x0)
def gangwayref20_put.f (k : Nat) (l0 : List Int) (a1 : Int) (l2 : List Int) : Option (List Int) := gangwayref20_put.l0 k l0 a1 l2 0
theorem gangwayref20_put.mono_l : ∀ k, (∀ y0 y1 y2 y3, LeO (gangwayref20_put.l0 k y0 y1 y2 y3) (gangwayref20_put.l0 (k + 1) y0 y1 y2 y3))
  | 0 => fun _ _ _ _ r h => by simp [gangwayref20_put.l0] at h
  | k + 1 => by
    have ih0 := gangwayref20_put.mono_l k
    · intro y0 y1 y2 y3
      unfold gangwayref20_put.l0
      repeat' first
      | (with_reducible exact ih0 _ _ _ _)
      | (with_reducible exact LeO.refl _)
      | (with_reducible exact LeO.none _)
      | (with_reducible refine LeO.ite ?_ ?_)
      | (with_reducible refine LeO.bind ?_ (fun _ => ?_))
      | exact ih0 _ _ _ _
      | exact LeO.none _
      | refine LeO.ite ?_ ?_
      | refine LeO.bind ?_ (fun _ => ?_)
theorem gangwayref20_put.mono : ∀ a0 a1 a2 k, LeO (gangwayref20_put.f k a0 a1 a2) (gangwayref20_put.f (k + 1) a0 a1 a2) := by
  intro a0 a1 a2 k
  have ih0 := gangwayref20_put.mono_l k
  unfold gangwayref20_put.f
  repeat' first
      | (with_reducible exact ih0 _ _ _ _)
      | (with_reducible exact LeO.refl _)
      | (with_reducible exact LeO.none _)
      | (with_reducible refine LeO.ite ?_ ?_)
      | (with_reducible refine LeO.bind ?_ (fun _ => ?_))
      | exact ih0 _ _ _ _
      | exact LeO.none _
      | refine LeO.ite ?_ ?_
      | refine LeO.bind ?_ (fun _ => ?_)
set_option maxHeartbeats 8000000 in
set_option maxRecDepth 100000 in
theorem gangwayref20_put.calls (k : Nat) (P0_ : Nat → Prop) (u9000_ : Value) (l0 : List Int) (a1 : Int) (A2 : Option Addr) (c2 : Nat) (l2 : List Int) (r : List Int) (w0 w : World) (hB : Below w0.heap.size w0 w) (ho0 : Kd.R (Kd.int .u8) 5 w w0.heap.size P0_ u9000_ l0) (hr2 : ∀ W_, Kept w W_ (fun k_ => P0_ k_) → Kd.C (Kd.int .u8) W_ A2 l2.length l2) (hc2 : l2.length ≤ c2) (h : gangwayref20_put.f k l0 a1 l2 = some r) :
    Calls Try.prog 28 #[u9000_, .int .i64 a1, .slice A2 l2.length c2] w fun e w' => e = .returned (.tuple #[]) ∧ Kd.R (Kd.int .u8) 5 w' w0.heap.size (fun k_ => (P0_ k_ ∨ w.heap.size ≤ k_)) u9000_ r ∧ Below w0.heap.size w0 w' ∧ Kept w w' (fun k_ => P0_ k_) := by
  have HO0 := Aside0.mk (show Kd.R (Kd.int .u8) 5 w w0.heap.size (fun k_ => (P0_ k_ ∨ w.heap.size ≤ k_)) u9000_ l0 from Kd.R_mono ho0 (fun k_ hk => (.inl hk)))
  have HR2 := Aside0.mk hr2
  have HC2 := Aside0.mk hc2
  clear hr2 hc2
  have HK := Aside0.mk (Kept.refl w (fun k_ => P0_ k_))
  have HW0 := Aside0.mk hB.size
  have HB := Aside0.mk hB
  clear hB
  have H : (gangwayref20_put.l0 k l0 a1 l2 0) = some r := h
  clear h
  have H' := Aside0.mk H
  clear H
  go_enter Try.func28, Try.ntmps28
  go_wp2
  go_loopg [6] k (fun kq v6 w' => ∃ (x0_1 : List Int) (x6_1 : Int), v6 = .int .i64 x6_1 ∧ Aside0 (gangwayref20_put.l0 kq x0_1 a1 l2 x6_1 = some r) ∧ Aside0 (kq ≤ k) ∧ Aside0 (Kd.R (Kd.int .u8) 5 w' w0.heap.size (fun k_ => (P0_ k_ ∨ w.heap.size ≤ k_)) u9000_ x0_1) ∧ Aside0 (Kept w w' (fun k_ => P0_ k_)) ∧ Aside0 (Below w0.heap.size w0 w'))
  case atStart => exact ⟨(l0), (0), (by first | rfl | (simp; done) | (simp [*]; done)), H', ⟨Nat.le_refl _⟩, ⟨by (with_reducible repeat (first | apply Kd.R_alloc | apply Kd.R_drewN | apply Kd.R_drew)); exact HO0.out⟩, ⟨by repeat (first | (with_reducible first | exact HK.out | apply Kept.alloc | apply Kept.drewN | apply Kept.drew) | exact HK.out)⟩, ⟨by repeat (first | (with_reducible first | exact HB.out | apply below_alloc | apply pw_below_drewN | apply below_drew1) | exact HB.out)⟩⟩
  case round =>
    clear H'
    try clear c2
    try clear p2
    obtain ⟨x0_1, x6_1, rfl, HA, HK1, HO_0, HK, HB⟩ := hrel
    cases gk with
    | zero => exact absurd HA.out (by simp [gangwayref20_put.l0])
    | succ k1 =>
      have H := HA.out
      clear HA
      simp only [gangwayref20_put.l0] at H
      by_cases c4 : x6_1 < (l2.length : Int)
      · rw [if_pos c4] at H
        have c4b0 : decide (x6_1 < (l2.length : Int)) = true := decide_eq_true c4
        clear c4
        by_cases c5 : 0 ≤ x6_1
        · rw [if_pos c5] at H
          have c5b0 : decide (0 ≤ x6_1) = true := decide_eq_true c5
          clear c5
          obtain ⟨ji6, hji6⟩ : ∃ j_ : Int, (wrap64 (a1 + x6_1)) = j_ := ⟨_, rfl⟩
          replace H : (if 0 ≤ (ji6) then (if (ji6) < (x0_1.length : Int) then (gangwayref20_put.l0 k1 (x0_1.set ((ji6) : Int).toNat (rd l2 x6_1)) a1 l2 (wrap64 (x6_1 + 1))) else (none)) else (none)) = some r := by first | (rw [hji6] at H; exact H) | (simp only [hji6] at H ⊢; exact H)
          have hji6w : (IntKind.i64.wrap (a1 + x6_1)) = ji6 := (i64_w _).trans hji6
          by_cases c7 : 0 ≤ (ji6)
          · rw [if_pos c7] at H
            have c7b0 : decide (0 ≤ (ji6)) = true := decide_eq_true c7
            clear c7
            by_cases c8 : (ji6) < (x0_1.length : Int)
            · rw [if_pos c8] at H
              have c8b0 : decide ((ji6) < (x0_1.length : Int)) = true := decide_eq_true c8
              clear c8
              obtain ⟨y223, hy223⟩ : ∃ y_ : List Int, y_ = (x0_1.set ((ji6) : Int).toNat (rd l2 x6_1)) := ⟨_, rfl⟩
              replace H : (gangwayref20_put.l0 k1 y223 a1 l2 (wrap64 (x6_1 + 1))) = some r := by first | (rw [hy223]; with_reducible exact H) | (have H2_ := (Option.bind_some _ _).symm.trans H; rw [hy223]; with_reducible exact H2_) | (have H2_ := (Option.bind_some _ _).symm.trans H; with_reducible exact H2_) | with_reducible exact H | (rw [hy223]; exact H) | exact H
              have Ny223 := Aside0.mk hy223
              clear hy223
              have H' := Aside0.mk H
              clear H
              have p222 : 0 ≤ (x6_1 : Int) := of_decide_eq_true (by first | (with_reducible assumption) | assumption)
              have q222 : x6_1 < (l2.length : Int) := of_decide_eq_true (by first | (with_reducible assumption) | assumption)
              obtain ⟨ad222, e222, hx222_0⟩ := Kd.at_int (Kd.C_kept_now HR2.out HK.out) x6_1 p222 q222
              cases e222
              replace p222 := eq_true p222
              replace q222 := eq_true q222
              have p9 : 0 ≤ ((ji6) : Int) := of_decide_eq_true (by first | (with_reducible assumption) | assumption)
              have q9 : ((ji6) : Int) < ((x0_1.length : Int) : Int) := of_decide_eq_true (by first | (with_reducible assumption) | assumption)
              obtain ⟨go9, co9, eo9, gb9, gl9, cl9, HG9⟩ := Kd.R_form HO_0.out (by omega)
              (first | cases eo9 | (injection eo9 with ea_ en_ ec_; (first | subst ea_ | (injection ea_ with ea_; subst ea_)); subst ec_; clear en_))
              have GB9 := Aside0.mk gb9
              have GG9 := Aside0.mk HG9
              clear gb9 gl9 HG9
              have HMgo9 := Aside0.mk (show (P0_ go9 ∨ w.heap.size ≤ go9) from (HO_0.out.1 _ rfl))
              obtain ⟨hx9_0, hf9_0⟩ := Kd.R_celln 0 HO_0.out ((ji6) : Int) p9 q9
              replace p9 := eq_true p9
              replace q9 := eq_true q9
              have HP10 := Kd.R_putg HO_0.out ((ji6) : Int) (rd l2 x6_1)
              go_wp2_with (first | ((with_reducible refine gate_store (t := 5) (p := 21) rfl ?_); refine store_event (t := 5) (p := 21) (v := ?vo_w11) (w1 := (wr.setCell ⟨go9, ((ji6) : Int).toNat, none⟩ (.int .u8 (rd l2 x6_1)))) ?hg ?ho ?hn ?hr ?_; (case ho => rfl); (case hg => rfl); (case hn => rfl); (case hr => first | (go_simp; done) | (go_simp; rfl)); intro w11 hw; have hg : wr.grownBy w11 (some go9) := (by rw [hw]; exact HP10.2); have hp_ : Kd.R (Kd.int .u8) 5 w11 w0.heap.size (fun k_ => (P0_ k_ ∨ w.heap.size ≤ k_)) (.slice (some ⟨go9, 0, none⟩) x0_1.length co9) y223 := (by rw [hw, Ny223.out]; exact HP10.1); clear HP10; have n0_ := Aside0.mk (hp_); have n1_ := Aside0.mk ((by rw [hw]; exact below_set (HB.out) GB9.out : Below w0.heap.size w0 w11)); have n2_ := Aside0.mk (Kept.of_grown (S := (fun k_ => P0_ k_)) hg (by repeat (first | (with_reducible first | exact HK.out | apply Kept.alloc | apply Kept.drewN | apply Kept.drew) | exact HK.out)) (fun k_ e_ => (HO_0.out.1 k_ e_))); clear HO_0; clear HB; clear HK; have HO_0 := n0_; have HB := n1_; have HK := n2_; clear n0_ n1_ n2_; clear hg hw hp_))
              go_roundg k1
              case measure => have := HK1.out; omega
              case rel => exact ⟨(y223), (wrap64 (x6_1 + 1)), (by first | rfl | (simp; done) | (simp [*]; done)), H', ⟨by have := HK1.out; omega⟩, ⟨by (with_reducible repeat (first | apply Kd.R_alloc | apply Kd.R_drewN | apply Kd.R_drew)); exact HO_0.out⟩, ⟨by repeat (first | (with_reducible first | exact HK.out | apply Kept.alloc | apply Kept.drewN | apply Kept.drew) | exact HK.out)⟩, ⟨by repeat (first | (with_reducible first | exact HB.out | apply below_alloc | apply pw_below_drewN | apply below_drew1) | exact HB.out)⟩⟩
            · rw [if_neg c8] at H
              exact absurd H (by simp)
          · rw [if_neg c7] at H
            exact absurd H (by simp)
        · rw [if_neg c5] at H
          exact absurd H (by simp)
      · rw [if_neg c4] at H
        have c4b0 : decide (x6_1 < (l2.length : Int)) = false := decide_eq_false c4
        clear c4
        obtain rfl := Option.some.inj H
        go_wp2
        first | go_end0 | ((try simp only [Exit.inBlock, Exit.then]); refine bodyPost_ret (results_none rfl _ _ _) rfl ?_)
        exact ⟨by first | rfl | (simp [errW_none, errW_some] <;> rfl) | (simp [*, errW_none, errW_some] <;> rfl), by (with_reducible repeat (first | apply Kd.R_alloc | apply Kd.R_drewN | apply Kd.R_drew)); exact HO_0.out, by repeat (first | (with_reducible first | exact HB.out | apply below_alloc | apply pw_below_drewN | apply below_drew1) | exact HB.out), by repeat (first | (with_reducible first | exact HK.out | apply Kept.alloc | apply Kept.drewN | apply Kept.drew) | exact HK.out)⟩

end Go.Proofs.Ytpaodfhhnhbacaa.PAll
