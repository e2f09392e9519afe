/- Printed by a copy of the printer that was turned for this claim: functions as plain Lean functions, with proofs that their calls come to these; or words that such proofs use. -/
import Derived.Test.YtdoaininjfbemaaPAllx0
import Derived.Test.YtdoaininjfbemaaPAllx2
namespace Go.Proofs.Ytdoaininjfbemaa.PAll
open Go.RowKit Go.Proofs.YtdoaininjfbemaaW.PrintWords Go.Proofs.YtdoaininjfbemaaW.PrintLast Go.Proofs.YtdoaininjfbemaaW.PrintMore
attribute [local go_sem] max2_int min2_int max_two min_two max_three min_three max_four min_four   -- for this text's walks alone
set_option linter.unusedVariables false
set_option linter.unusedSimpArgs false

/-! ### mem_Memory_there: function 31 -/
abbrev mem_Memory_there.t : Bool := true
abbrev mem_Memory_there.f_ : Bool := false
theorem mem_Memory_there.bc {w : World} {g : Nat} {cs : Array Value} {t : TypeId} (h : Aside0 (w.heap[g]? = some (.cells cs t (0, 0)))) (i : Nat) {v : Value} (e : cs[i]? = some v := by rfl) : w.cell? ⟨g, i, none⟩ = some v := (blk_cell h.out i).trans e
theorem mem_Memory_there.bkept {W0 W W2 : World} {g : Nat} {o : Obj} {S : Nat → Prop} (_b : Aside0 (W0.heap[g]? = some o)) (h : W.heap[g]? = some o) (hk : Kept W W2 S) (hn : ¬ S g) : W2.heap[g]? = some o := blk_kept h hk hn
theorem mem_Memory_there.bbelow {W0 w w1 : World} {g : Nat} {o : Obj} (_b : Aside0 (W0.heap[g]? = some o)) (h : w.heap[g]? = some o) (hb : Below w.heap.size w w1) : w1.heap[g]? = some o := blk_below h hb
theorem mem_Memory_there.e1 {α : Type _} (xs : List α) (i : Nat) (a : α) : xs.toArray.setIfInBounds i a = (xs.set i a).toArray := by simp
theorem mem_Memory_there.e2 {α : Type _} (x a : α) (xs : List α) : (x :: xs).set 0 a = a :: xs := rfl
theorem mem_Memory_there.e3 {α : Type _} (x a : α) (xs : List α) (n : Nat) : (x :: xs).set (n + 1) a = x :: xs.set n a := rfl
def mem_Memory_there.f (l0_0 : List Int) (s0_1 : Int) (a1 : Int) (a2 : Int) : Option (Bool × List Int × Int) := if a1 ≥ 0 then (if a2 ≥ 0 then (if a1 ≤ (l0_0.length : Int) then (some (decide (a2 ≤ (wrap64 ((l0_0.length : Int) - a1))), l0_0, s0_1)) else (some (false, l0_0, s0_1))) else (some (false, l0_0, s0_1))) else (some (false, l0_0, s0_1))
theorem mem_Memory_there.am_ {p : Prop} (h : p) : Aside0 p := Aside0.mk h
theorem mem_Memory_there.bm_ {α β : Type _} {o : Option α} {f : α → Option β} {b : β} (h : o.bind f = some b) : ∃ a, o = some a ∧ f a = some b := Option.bind_eq_some_iff.mp h
set_option maxHeartbeats 8000000 in
set_option maxRecDepth 100000 in
theorem mem_Memory_there.calls (g : Nat) (P0_0_ : Nat → Prop) (u9000_ : Value) (l0_0 : List Int) (s0_1 : Int) (a1 : Int) (a2 : Int) (r1 : Bool) (r2 : List Int) (r3 : Int) (w0 w : World) (hI : IsS72 w0 w g u9000_ s0_1) (hB : Below w0.heap.size w0 w) (ho0_0 : Kd.R (Kd.int .u8) 5 w w0.heap.size P0_0_ u9000_ l0_0) (h : mem_Memory_there.f l0_0 s0_1 a1 a2 = some (r1, r2, r3)) :
  Calls Try.prog 31 #[.pointer (some ⟨g, 0, none⟩), .int .i64 a1, .int .i64 a2] w fun e w' => ∃ v1_ : Value, e = .returned (.bool r1) ∧ Kd.R (Kd.int .u8) 5 w' w0.heap.size (fun k_ => (P0_0_ k_ ∨ w.heap.size ≤ k_)) v1_ r2 ∧ IsS72 w0 w' g v1_ r3 ∧ Below w0.heap.size w0 w' ∧ Kept w w' (fun k_ => (P0_0_ k_) ∨ k_ = g) := by
 have HO0_0 := am_ (show Kd.R (Kd.int .u8) 5 w w0.heap.size (fun k_ => (P0_0_ k_ ∨ w.heap.size ≤ k_)) u9000_ l0_0 from Kd.R_mono ho0_0 (fun k_ hk => (.inl hk)))
 have HI0 := am_ hI
 have HL := am_ hB.size
 clear hI
 have HK := am_ (Kept.refl w (fun k_ => (P0_0_ k_) ∨ k_ = g))
 have HW0 := am_ hB.size
 have HB := am_ hB
 clear hB
 have H : (if a1 ≥ 0 then (if a2 ≥ 0 then (if a1 ≤ (l0_0.length : Int) then (some (decide (a2 ≤ (wrap64 ((l0_0.length : Int) - a1))), l0_0, s0_1)) else (some (false, l0_0, s0_1))) else (some (false, l0_0, s0_1))) else (some (false, l0_0, s0_1))) = some (r1, r2, r3) := h
 clear h
 by_cases c4 : a1 ≥ 0
 ·rw [if_pos c4] at H
  have c4b0 : decide (0 ≤ a1) = true := decide_eq_true c4
  clear c4
  by_cases c5 : a2 ≥ 0
  ·rw [if_pos c5] at H
   have c5b0 : decide (0 ≤ a2) = true := decide_eq_true c5
   clear c5
   by_cases c6 : a1 ≤ (l0_0.length : Int)
   ·rw [if_pos c6] at H
    have c6b0 : decide (a1 ≤ (l0_0.length : Int)) = true := decide_eq_true c6
    clear c6
    simp only [Option.some.injEq, Prod.mk.injEq] at H
    obtain ⟨rfl, rfl, rfl⟩ := H
    obtain ⟨HGz7, hgz7⟩ := HI0.out
    have hcz7_0 := cellS72_0 HGz7
    have hcz7_1 := cellS72_1 HGz7
    have hfz7_0 := blk_frozen HGz7 0
    have hfz7_1 := blk_frozen HGz7 1
    clear HGz7 hgz7
    obtain ⟨Ao8, co8, eo8⟩ := Kd.R_slice HO0_0.out
    subst eo8
    go_enter Try.func31, Try.ntmps31
    go_wp2
    go_ret
    exact ⟨_, by first | rfl | (simp [errW_none, errW_some] <;> rfl) | (simp [*, errW_none, errW_some] <;> rfl), by (with_reducible repeat (first | apply Kd.R_alloc | apply Kd.R_drewN | apply Kd.R_drew)); exact HO0_0.out, by repeat (first | (with_reducible first | exact HI0.out | apply IsS72.alloc | apply IsS72.drewN | apply IsS72.drew | apply IsS72.set_0 | apply IsS72.set_1) | exact HI0.out), by repeat (first | (with_reducible first | exact HB.out | apply below_alloc | apply pw_below_drewN | apply below_drew1 | refine below_set ?_ (IsS72.ge HI0.out)) | exact HB.out), by repeat (first | (with_reducible first | exact HK.out | apply Kept.alloc | apply Kept.drewN | apply Kept.drew | refine Kept.setCell ?_ (.inl (.inr rfl)) _) | exact HK.out)⟩
   ·rw [if_neg c6] at H
    have c6b0 : decide (a1 ≤ (l0_0.length : Int)) = false := decide_eq_false c6
    clear c6
    simp only [Option.some.injEq, Prod.mk.injEq] at H
    obtain ⟨rfl, rfl, rfl⟩ := H
    obtain ⟨HGz9, hgz9⟩ := HI0.out
    have hcz9_0 := cellS72_0 HGz9
    have hcz9_1 := cellS72_1 HGz9
    have hfz9_0 := blk_frozen HGz9 0
    have hfz9_1 := blk_frozen HGz9 1
    clear HGz9 hgz9
    obtain ⟨Ao10, co10, eo10⟩ := Kd.R_slice HO0_0.out
    subst eo10
    go_enter Try.func31, Try.ntmps31
    go_wp2
    go_ret
    exact ⟨_, by first | rfl | (simp [errW_none, errW_some] <;> rfl) | (simp [*, errW_none, errW_some] <;> rfl), by (with_reducible repeat (first | apply Kd.R_alloc | apply Kd.R_drewN | apply Kd.R_drew)); exact HO0_0.out, by repeat (first | (with_reducible first | exact HI0.out | apply IsS72.alloc | apply IsS72.drewN | apply IsS72.drew | apply IsS72.set_0 | apply IsS72.set_1) | exact HI0.out), by repeat (first | (with_reducible first | exact HB.out | apply below_alloc | apply pw_below_drewN | apply below_drew1 | refine below_set ?_ (IsS72.ge HI0.out)) | exact HB.out), by repeat (first | (with_reducible first | exact HK.out | apply Kept.alloc | apply Kept.drewN | apply Kept.drew | refine Kept.setCell ?_ (.inl (.inr rfl)) _) | exact HK.out)⟩
  ·rw [if_neg c5] at H
   have c5b0 : decide (0 ≤ a2) = false := decide_eq_false c5
   clear c5
   simp only [Option.some.injEq, Prod.mk.injEq] at H
   obtain ⟨rfl, rfl, rfl⟩ := H
   go_enter Try.func31, Try.ntmps31
   go_wp2
   go_ret
   exact ⟨_, by first | rfl | (simp [errW_none, errW_some] <;> rfl) | (simp [*, errW_none, errW_some] <;> rfl), by (with_reducible repeat (first | apply Kd.R_alloc | apply Kd.R_drewN | apply Kd.R_drew)); exact HO0_0.out, by repeat (first | (with_reducible first | exact HI0.out | apply IsS72.alloc | apply IsS72.drewN | apply IsS72.drew | apply IsS72.set_0 | apply IsS72.set_1) | exact HI0.out), by repeat (first | (with_reducible first | exact HB.out | apply below_alloc | apply pw_below_drewN | apply below_drew1 | refine below_set ?_ (IsS72.ge HI0.out)) | exact HB.out), by repeat (first | (with_reducible first | exact HK.out | apply Kept.alloc | apply Kept.drewN | apply Kept.drew | refine Kept.setCell ?_ (.inl (.inr rfl)) _) | exact HK.out)⟩
 ·rw [if_neg c4] at H
  have c4b0 : decide (0 ≤ a1) = false := decide_eq_false c4
  clear c4
  simp only [Option.some.injEq, Prod.mk.injEq] at H
  obtain ⟨rfl, rfl, rfl⟩ := H
  go_enter Try.func31, Try.ntmps31
  go_wp2
  go_ret
  exact ⟨_, by first | rfl | (simp [errW_none, errW_some] <;> rfl) | (simp [*, errW_none, errW_some] <;> rfl), by (with_reducible repeat (first | apply Kd.R_alloc | apply Kd.R_drewN | apply Kd.R_drew)); exact HO0_0.out, by repeat (first | (with_reducible first | exact HI0.out | apply IsS72.alloc | apply IsS72.drewN | apply IsS72.drew | apply IsS72.set_0 | apply IsS72.set_1) | exact HI0.out), by repeat (first | (with_reducible first | exact HB.out | apply below_alloc | apply pw_below_drewN | apply below_drew1 | refine below_set ?_ (IsS72.ge HI0.out)) | exact HB.out), by repeat (first | (with_reducible first | exact HK.out | apply Kept.alloc | apply Kept.drewN | apply Kept.drew | refine Kept.setCell ?_ (.inl (.inr rfl)) _) | exact HK.out)⟩


/-! ### mem_Memory_Write: function 24 (by hand) -/
def mem_Memory_Write.f (l0_0 : List Int) (s0_1 : Int) (a1 : Int) (l2 : List Int) : Option (Int × List Int × Int) :=
  some (if 0 ≤ a1 ∧ a1 + (l2.length : Int) ≤ (l0_0.length : Int) then (0, Go.Proofs.YtdoaininjfbemaaU.splice l0_0 a1.toNat l2, s0_1) else (21, l0_0, s0_1))
theorem mem_Memory_Write.there_ (l : List Int) (s a n : Int) (hl : l.length ≤ 9223372036854775807) (hn : 0 ≤ n) :
    mem_Memory_there.f l s a n = some (decide (0 ≤ a ∧ a + n ≤ (l.length : Int)), l, s) := by
  unfold mem_Memory_there.f
  by_cases h1 : a ≥ 0
  · rw [if_pos h1, if_pos hn]
    by_cases h2 : a ≤ (l.length : Int)
    · rw [if_pos h2]
      have : wrap64 ((l.length : Int) - a) = (l.length : Int) - a := by unfold wrap64; omega
      rw [this]
      congr 2
      simp only [decide_eq_decide]
      omega
    · rw [if_neg h2]
      congr 2
      simp
      omega
  · rw [if_neg h1]
    congr 2
    simp
    omega
set_option maxHeartbeats 8000000 in
set_option maxRecDepth 100000 in
theorem mem_Memory_Write.calls (g : Nat) (P0_0_ : Nat → Prop) (u9000_ : Value) (l0_0 : List Int) (s0_1 : Int) (a1 : Int) (A2 : Option Addr) (c2 : Nat) (l2 : List Int) (r1 : Int) (r2 : List Int) (r3 : Int) (w0 w : World) (hI : IsS72 w0 w g u9000_ s0_1) (hB : Below w0.heap.size w0 w) (ho0_0 : Kd.R (Kd.int .u8) 5 w w0.heap.size P0_0_ u9000_ l0_0) (hr2 : ∀ W_, Kept w W_ (fun k_ => (P0_0_ k_) ∨ k_ = g) → Kd.C (Kd.int .u8) W_ A2 l2.length l2) (hc2 : l2.length ≤ c2) (h : mem_Memory_Write.f l0_0 s0_1 a1 l2 = some (r1, r2, r3)) :
    Calls Try.prog 24 #[.pointer (some ⟨g, 0, none⟩), .int .i64 a1, .slice A2 l2.length c2] w fun e w' => ∃ v1_ : Value, e = .returned (.int .i64 r1) ∧ Kd.R (Kd.int .u8) 5 w' w0.heap.size (fun k_ => (P0_0_ k_ ∨ w.heap.size ≤ k_)) v1_ r2 ∧ IsS72 w0 w' g v1_ r3 ∧ Below w0.heap.size w0 w' ∧ Kept w w' (fun k_ => (P0_0_ k_) ∨ k_ = g) := by
  have hlen : l0_0.length ≤ 9223372036854775807 := by
    obtain ⟨A_, c_, rfl⟩ := Kd.R_slice ho0_0
    exact (Kd.R_reads' ho0_0).2.2.2.1
  have hT0 := mem_Memory_Write.there_ l0_0 s0_1 a1 (l2.length : Int) hlen (by omega)
  by_cases hc : 0 ≤ a1 ∧ a1 + (l2.length : Int) ≤ (l0_0.length : Int)
  · simp only [mem_Memory_Write.f, if_pos hc, Option.some.injEq, Prod.mk.injEq] at h
    obtain ⟨rfl, rfl, rfl⟩ := h
    rw [decide_eq_true hc] at hT0
    obtain ⟨hc0, hc1⟩ := hc
    have HC := Aside0.mk (show 0 ≤ a1 ∧ a1 + (l2.length : Int) ≤ (l0_0.length : Int) from ⟨hc0, hc1⟩)
    have HT := Aside0.mk hT0
    have HR2 := Aside0.mk hr2
    have HI := Aside0.mk hI
    have HB0 := Aside0.mk hB
    have HO := Aside0.mk ho0_0
    have HLEN := Aside0.mk hlen
    have HC2 := Aside0.mk hc2
    clear hT0 hr2 hI hB ho0_0 hlen hc0 hc1 hc2
    go_enter Try.func24, Try.ntmps24
    go_wp2_with (first
      | ((with_reducible refine gate_callee (f := 31) rfl ?_); refine goesL_ (some 11) rfl rfl Try.func31 (by kernel_rfl) rfl #[.pointer (some ⟨g, 0, none⟩), .int .i64 a1, .int .i64 (l2.length : Int)] rfl (by (try simp only [List.map_toArray, List.map_cons, List.map_nil]); first | done | rfl | (simp only [List.length_drop, List.length_take]; rfl)) ?_
         (with_reducible refine (mem_Memory_there.calls g P0_0_ u9000_ l0_0 s0_1 a1 (l2.length : Int) true l0_0 s0_1 w0 _ HI.out HB0.out HO.out HT.out).mono ?_)
         rintro e w10 ⟨v155, rfl, ho0, hi, hb, hkp⟩
         refine ⟨_, rfl, ?_⟩
         have HK1 := Aside0.mk hkp
         have HB1 := Aside0.mk hb
         have HI1 := Aside0.mk hi
         have HO1 := Aside0.mk ho0
         clear hkp hb hi ho0
         obtain ⟨HGz, _⟩ := HI1.out
         have hcz0 := cellS72_0 HGz
         have hcz1 := cellS72_1 HGz
         have hfz0 := blk_frozen HGz 0
         have hfz1 := blk_frozen HGz 1
         clear HGz
         obtain ⟨Ao, co, eo⟩ := Kd.R_slice HO1.out
         subst eo
         obtain ⟨i012, hi012, _, hsz12, _⟩ := info_parts info5
         have hcut := cut_from (P := Try.prog) 23 5 .i64 Try.underlying23 hi012 1 hsz12 Ao l0_0.length co a1 HC.out.1 (by have := HC.out.2; omega)
         obtain ⟨A12, hA12⟩ : ∃ A1, A1 = (if co = a1.toNat then Ao else (Ao : Option Addr).map (·.add (a1.toNat * 1))) := ⟨_, rfl⟩
         rw [← hA12] at hcut
         have HA12 := Aside0.mk hA12
         clear hi012 hsz12 hA12)
      | ((with_reducible refine gate_builtin (b := .copy) (xs := #[.tmp 18, .tmp 19]) rfl ?_)
         refine Go.Proofs.YtdoaininjfbemaaO.R_copy_cut (0 : Int) (w0 := w0) w0.heap.size rfl (.tmp 18) (.tmp 19) 23 23 5 rfl Try.underlying23 (by kernel_rfl) Ao l0_0.length co a1.toNat l0_0 l2 A2 l2.length c2 (fun k_ => (P0_0_ k_ ∨ w.heap.size ≤ k_)) (by rw [← HA12.out]; rfl) rfl HO1.out (HR2.out _ HK1.out) (by have := HC.out; omega) HB1.out (below_size HB1.out) ?_
         intro w12 ho hb hg
         have HO2 := Aside0.mk ho
         have HB2 := Aside0.mk hb
         have HI2 := Aside0.mk (HI1.out.grown hg (IsS72.own_ne HI1.out HO1.out (by decide)))
         have HK2 := Aside0.mk (Kept.of_grown (S := (fun k_ => (P0_0_ k_) ∨ k_ = g)) hg HK1.out (fun k_ e_ => Or.imp_left Or.inl (HO1.out.1 k_ e_)))
         clear ho hb hg))
    go_ret
    exact ⟨_, rfl, by have := HO2.out; rw [Go.Proofs.YtdoaininjfbemaaU.splice]; exact this, HI2.out, HB2.out, HK2.out⟩
  · simp only [mem_Memory_Write.f, if_neg hc, Option.some.injEq, Prod.mk.injEq] at h
    obtain ⟨rfl, rfl, rfl⟩ := h
    rw [decide_eq_false hc] at hT0
    have HT := Aside0.mk hT0
    have HI := Aside0.mk hI
    have HB0 := Aside0.mk hB
    have HO := Aside0.mk ho0_0
    clear hT0 hr2 hI hB ho0_0 hlen hc hc2
    go_enter Try.func24, Try.ntmps24
    go_wp2_with (first
      | ((with_reducible refine gate_callee (f := 31) rfl ?_); refine goesL_ (some 11) rfl rfl Try.func31 (by kernel_rfl) rfl #[.pointer (some ⟨g, 0, none⟩), .int .i64 a1, .int .i64 (l2.length : Int)] rfl (by (try simp only [List.map_toArray, List.map_cons, List.map_nil]); first | done | rfl | (simp only [List.length_drop, List.length_take]; rfl)) ?_
         (with_reducible refine (mem_Memory_there.calls g P0_0_ u9000_ l0_0 s0_1 a1 (l2.length : Int) false l0_0 s0_1 w0 _ HI.out HB0.out HO.out HT.out).mono ?_)
         rintro e w10 ⟨v155, rfl, ho0, hi, hb, hkp⟩
         refine ⟨_, rfl, ?_⟩
         have HK1 := Aside0.mk hkp
         have HB1 := Aside0.mk hb
         have HI1 := Aside0.mk hi
         have HO1 := Aside0.mk ho0
         clear hkp hb hi ho0))
    go_ret
    exact ⟨_, rfl, HO1.out, HI1.out, HB1.out, HK1.out⟩


/-! ### gangwaylaw19_Both: function 6 -/
abbrev gangwaylaw19_Both.t : Bool := true
abbrev gangwaylaw19_Both.f_ : Bool := false
def gangwaylaw19_Both.bb0_ : Array Bool := #[t, t, t, t, t, t, t, t, t, t, t]
def gangwaylaw19_Both.bb1_ : Array Bool := #[t, t, t, t, t, t, t, t, t, t, f_]
def gangwaylaw19_Both.bb2_ : Array Bool := #[t, t, t, t, t, t, t, t, t, f_, f_]
def gangwaylaw19_Both.bb3_ : Array Bool := #[t, t, t, t, t, t, t, t, f_, f_, f_]
def gangwaylaw19_Both.bb4_ : Array Bool := #[t, t, t, f_, t, t, t, t, f_, f_, f_]
def gangwaylaw19_Both.bb5_ : Array Bool := #[t, t, t, f_, t, t, t, f_, f_, f_, f_]
def gangwaylaw19_Both.bb6_ : Array Bool := #[t, t, t, f_, t, t, f_, f_, f_, f_, f_]
def gangwaylaw19_Both.bb7_ : Array Bool := #[t, t, t, f_, t, f_, f_, f_, f_, f_, f_]
def gangwaylaw19_Both.bb8_ : Array Bool := #[t, t, t, f_, f_, f_, f_, f_, f_, f_, f_]
def gangwaylaw19_Both.bb9_ : Array Bool := #[t, t, f_, f_, f_, f_, f_, f_, f_, f_, f_]
def gangwaylaw19_Both.bb10_ : Array Bool := #[t, f_, f_, f_, f_, f_, f_, f_, f_, f_, f_]
def gangwaylaw19_Both.bb11_ : Array Bool := #[f_, f_, f_, f_, f_, f_, f_, f_, f_, f_, f_]
theorem gangwaylaw19_Both.bc {w : World} {g : Nat} {cs : Array Value} {t : TypeId} (h : Aside0 (w.heap[g]? = some (.cells cs t (0, 0)))) (i : Nat) {v : Value} (e : cs[i]? = some v := by rfl) : w.cell? ⟨g, i, none⟩ = some v := (blk_cell h.out i).trans e
theorem gangwaylaw19_Both.bkept {W0 W W2 : World} {g : Nat} {o : Obj} {S : Nat → Prop} (_b : Aside0 (W0.heap[g]? = some o)) (h : W.heap[g]? = some o) (hk : Kept W W2 S) (hn : ¬ S g) : W2.heap[g]? = some o := blk_kept h hk hn
theorem gangwaylaw19_Both.bbelow {W0 w w1 : World} {g : Nat} {o : Obj} (_b : Aside0 (W0.heap[g]? = some o)) (h : w.heap[g]? = some o) (hb : Below w.heap.size w w1) : w1.heap[g]? = some o := blk_below h hb
theorem gangwaylaw19_Both.e1 {α : Type _} (xs : List α) (i : Nat) (a : α) : xs.toArray.setIfInBounds i a = (xs.set i a).toArray := by simp
theorem gangwaylaw19_Both.e2 {α : Type _} (x a : α) (xs : List α) : (x :: xs).set 0 a = a :: xs := rfl
theorem gangwaylaw19_Both.e3 {α : Type _} (x a : α) (xs : List α) (n : Nat) : (x :: xs).set (n + 1) a = x :: xs.set n a := rfl
theorem gangwaylaw19_Both.up {w w' : World} {a : Addr} {v : Value} (hb : Aside0 (Below w.heap.size w w')) (h : w.cell? a = some v) : w'.cell? a = some v := (hb.out.cell (World.block_lt_of_cell? w _ h)).trans h
mutual
def gangwaylaw19_Both.j0 : Nat → List Int → Bool → List Int → Int → Option (Bool × List Int × Int × Bool × List Int × Int)
 | 0, _, _, _, _ => none
 | k + 1, x0, x19, x0z, x1z => if x19 = true then (some (false, ([] : List Int), 0, false, ([] : List Int), 0)) else ((gangwayref9_NewMem.f 1 (-1) 1).bind fun bt126 => (if bt126.1 = true then (gangwaylaw19_Both.l0 k x0 0 x0z x1z bt126.2.1 bt126.2.2) else (none)))
def gangwaylaw19_Both.j2 : Nat → List Int → Int → List Int → Int → Option (Bool × List Int × Int × Bool × List Int × Int)
 | 0, _, _, _, _ => none
 | k + 1, x0z, x1z, x2z, x3z => (mem_Memory_Write.f x0z x1z 0 x2z).bind fun bt134 => ((gangwaylaw19_num.f bt134.1).bind fun t139 => (if t139 = 0 then (some (true, bt134.2.1, bt134.2.2, true, x2z, x3z)) else (some (false, ([] : List Int), 0, false, ([] : List Int), 0))))
def gangwaylaw19_Both.l0 : Nat → List Int → Int → List Int → Int → List Int → Int → Option (Bool × List Int × Int × Bool × List Int × Int)
 | 0, _, _, _, _, _, _ => none
 | k + 1, x0, x7, x0z, x1z, x2z, x3z => if x7 < (x0.length : Int) then (if x7 < (x2z.length : Int) then (if 0 ≤ x7 then (gangwaylaw19_Both.l0 k x0 (wrap64 (x7 + 1)) x0z x1z (x2z.set (x7 : Int).toNat (rd x0 x7)) x3z) else (none)) else (gangwaylaw19_Both.j2 k x0z x1z x2z x3z)) else (gangwaylaw19_Both.j2 k x0z x1z x2z x3z)
end
def gangwaylaw19_Both.f (k : Nat) (l0 : List Int) : Option (Bool × List Int × Int × Bool × List Int × Int) := (mem_New.f k 1 (-1) 1).bind fun bt118 => (if bt118.1 = true then ((gangwaylaw19_num.f bt118.2.2.2).bind fun t125 => (if t125 = 0 then (gangwaylaw19_Both.j0 k l0 false bt118.2.1 bt118.2.2.1) else (gangwaylaw19_Both.j0 k l0 true bt118.2.1 bt118.2.2.1))) else (none))
theorem gangwaylaw19_Both.mono_l : ∀ k, (∀ y0 y1 y2 y3, LeO (gangwaylaw19_Both.j0 k y0 y1 y2 y3) (gangwaylaw19_Both.j0 (k + 1) y0 y1 y2 y3)) ∧ (∀ y0 y1 y2 y3, LeO (gangwaylaw19_Both.j2 k y0 y1 y2 y3) (gangwaylaw19_Both.j2 (k + 1) y0 y1 y2 y3)) ∧ (∀ y0 y1 y2 y3 y4 y5, LeO (gangwaylaw19_Both.l0 k y0 y1 y2 y3 y4 y5) (gangwaylaw19_Both.l0 (k + 1) y0 y1 y2 y3 y4 y5))
 | 0 => ⟨fun _ _ _ _ r h => by simp [gangwaylaw19_Both.j0] at h, fun _ _ _ _ r h => by simp [gangwaylaw19_Both.j2] at h, fun _ _ _ _ _ _ r h => by simp [gangwaylaw19_Both.l0] at h⟩
 | k + 1 => by
  obtain ⟨ih0, ih1, ih2⟩ := gangwaylaw19_Both.mono_l k
  refine ⟨?_, ?_, ?_⟩
  ·intro y0 y1 y2 y3
   unfold gangwaylaw19_Both.j0
   repeat' first
   | (with_reducible apply ih0)
   | (with_reducible apply ih1)
   | (with_reducible apply ih2)
   | (with_reducible exact mem_New.mono _ _ _ _)
   | (with_reducible exact LeO.refl _)
   | (with_reducible exact LeO.none _)
   | (with_reducible refine LeO.ite ?_ ?_)
   | (with_reducible refine LeO.bind ?_ (fun _ => ?_))
   | apply ih0
   | apply ih1
   | apply ih2
   | exact mem_New.mono _ _ _ _
   | exact LeO.none _
   | refine LeO.ite ?_ ?_
   | refine LeO.bind ?_ (fun _ => ?_)
  ·intro y0 y1 y2 y3
   unfold gangwaylaw19_Both.j2
   repeat' first
   | (with_reducible apply ih0)
   | (with_reducible apply ih1)
   | (with_reducible apply ih2)
   | (with_reducible exact mem_New.mono _ _ _ _)
   | (with_reducible exact LeO.refl _)
   | (with_reducible exact LeO.none _)
   | (with_reducible refine LeO.ite ?_ ?_)
   | (with_reducible refine LeO.bind ?_ (fun _ => ?_))
   | apply ih0
   | apply ih1
   | apply ih2
   | exact mem_New.mono _ _ _ _
   | exact LeO.none _
   | refine LeO.ite ?_ ?_
   | refine LeO.bind ?_ (fun _ => ?_)
  ·intro y0 y1 y2 y3 y4 y5
   unfold gangwaylaw19_Both.l0
   repeat' first
   | (with_reducible apply ih0)
   | (with_reducible apply ih1)
   | (with_reducible apply ih2)
   | (with_reducible exact mem_New.mono _ _ _ _)
   | (with_reducible exact LeO.refl _)
   | (with_reducible exact LeO.none _)
   | (with_reducible refine LeO.ite ?_ ?_)
   | (with_reducible refine LeO.bind ?_ (fun _ => ?_))
   | apply ih0
   | apply ih1
   | apply ih2
   | exact mem_New.mono _ _ _ _
   | exact LeO.none _
   | refine LeO.ite ?_ ?_
   | refine LeO.bind ?_ (fun _ => ?_)
theorem gangwaylaw19_Both.mono : ∀ a0 k, LeO (gangwaylaw19_Both.f k a0) (gangwaylaw19_Both.f (k + 1) a0) := by
 intro a0 k
 obtain ⟨ih0, ih1, ih2⟩ := gangwaylaw19_Both.mono_l k
 unfold gangwaylaw19_Both.f
 repeat' first
   | (with_reducible apply ih0)
   | (with_reducible apply ih1)
   | (with_reducible apply ih2)
   | (with_reducible exact mem_New.mono _ _ _ _)
   | (with_reducible exact LeO.refl _)
   | (with_reducible exact LeO.none _)
   | (with_reducible refine LeO.ite ?_ ?_)
   | (with_reducible refine LeO.bind ?_ (fun _ => ?_))
   | apply ih0
   | apply ih1
   | apply ih2
   | exact mem_New.mono _ _ _ _
   | exact LeO.none _
   | refine LeO.ite ?_ ?_
   | refine LeO.bind ?_ (fun _ => ?_)
def gangwaylaw19_Both.T8 : Bool × List (List Nat × List Nat) := (true, [([], []), ([0], [0]), ([1], [1]), ([2], [2]), ([], []), ([], []), ([], []), ([5, 6], [5, 6]), ([7], [7]), ([3, 4, 0, 1, 2, 3, 4, 5, 6, 7, 8], [3, 4]), ([9, 8, 0, 1, 2, 3, 4, 5, 6, 7, 8], [8, 9])])
def gangwaylaw19_Both.B8 : List Nat := [0, 1, 3, 7, 0, 0, 0, 96, 224, 511, 1023]
theorem gangwaylaw19_Both.tab8 : rtab .any (opsOf Try.f6 8) = gangwaylaw19_Both.T8 := by kernel_rfl
theorem gangwaylaw19_Both.bits8 : waitsOk gangwaylaw19_Both.T8.2 gangwaylaw19_Both.B8 = true := by kernel_rfl
theorem gangwaylaw19_Both.aa_0 {p : Prop} (h : p := by (try simp only [List.map_toArray, List.map_cons, List.map_nil]); first | done | rfl | (simp only [List.length_drop, List.length_take]; rfl)) : p := h
theorem gangwaylaw19_Both.aa_1 {p : Prop} (h : p := by repeat (first | (with_reducible first | exact HB.out | apply below_alloc | apply pw_below_drewN | apply below_drew1 | refine below_set ?_ (IsS72.ge HI123.out)) | exact HB.out)) : p := h
theorem gangwaylaw19_Both.aa_2 {p : Prop} (h : p := by repeat (first | (with_reducible first | exact HI123.out | apply IsS72.alloc | apply IsS72.drewN | apply IsS72.drew | apply IsS72.set_0 | apply IsS72.set_1) | exact HI123.out)) : p := h
theorem gangwaylaw19_Both.aa_3 {p : Prop} (h : p := by repeat (first | (with_reducible first | exact HI131.out | apply IsS57.alloc | apply IsS57.drewN | apply IsS57.drew | apply IsS57.set_0 | apply IsS57.set_1) | exact HI131.out)) : p := h
theorem gangwaylaw19_Both.aa_4 {p : Prop} (h : p := by repeat (first | (with_reducible first | exact HB.out | apply below_alloc | apply pw_below_drewN | apply below_drew1 | refine below_set ?_ (IsS72.ge HI123.out) | refine below_set ?_ (IsS57.ge HI131.out)) | exact HB.out)) : p := h
theorem gangwaylaw19_Both.aa_5 {p : Prop} (h : p := by (with_reducible repeat (first | apply Kd.R_alloc | apply Kd.R_drewN | apply Kd.R_drew)); exact HO121.out) : p := h
theorem gangwaylaw19_Both.aa_6 {p : Prop} (h : p := by (with_reducible repeat (first | apply Kd.R_alloc | apply Kd.R_drewN | apply Kd.R_drew)); exact HO_0z.out) : p := h
theorem gangwaylaw19_Both.aa_7 {p : Prop} (h : p := by (with_reducible repeat (first | apply Kd.R_alloc | apply Kd.R_drewN | apply Kd.R_drew)); exact HO_2z.out) : p := h
theorem gangwaylaw19_Both.am_ {p : Prop} (h : p) : Aside0 p := Aside0.mk h
theorem gangwaylaw19_Both.bm_ {α β : Type _} {o : Option α} {f : α → Option β} {b : β} (h : o.bind f = some b) : ∃ a, o = some a ∧ f a = some b := Option.bind_eq_some_iff.mp h
set_option maxHeartbeats 8000000 in
set_option maxRecDepth 100000 in
theorem gangwaylaw19_Both.calls (k : Nat) (A0 : Option Addr) (c0 : Nat) (l0 : List Int) (r1 : Bool) (r2 : List Int) (r3 : Int) (r4 : Bool) (r5 : List Int) (r6 : Int) (w : World) (hr0 : Kd.C (Kd.int .u8) w A0 l0.length l0) (hc0 : l0.length ≤ c0) (h : gangwaylaw19_Both.f k l0 = some (r1, r2, r3, r4, r5, r6)) :
  Calls Try.prog 6 #[.slice A0 l0.length c0] w fun e w' => ∃ v1_ v4_ : Value, ∃ p0_ : Value, ∃ p1_ : Value, e = .returned (.tuple #[p0_, p1_]) ∧ Kd.R (Kd.int .u8) 5 w' w.heap.size (fun k_ => some k_ ≠ (v4_ : Value).ownBlock) v1_ r2 ∧ Kd.R (Kd.int .u8) 5 w' w.heap.size (fun k_ => some k_ ≠ (v1_ : Value).ownBlock) v4_ r5 ∧ ((r1 = true → ∃ g_ : Nat, p0_ = .pointer (some ⟨g_, 0, none⟩) ∧ IsS72 w w' g_ v1_ r3) ∧ (r1 = false → p0_ = .pointer none)) ∧ ((r4 = true → ∃ g_ : Nat, p1_ = .pointer (some ⟨g_, 0, none⟩) ∧ IsS57 w w' g_ v4_ r6) ∧ (r4 = false → p1_ = .pointer none)) ∧ Below w.heap.size w w' := by
 have hu61 := Try.underlying61
 have HR0 := am_ hr0
 have HC0 := am_ hc0
 clear hr0 hc0
 have HB := am_ (Below.refl w.heap.size w)
 have H : ((mem_New.f k 1 (-1) 1).bind fun bt118 => (if bt118.1 = true then ((gangwaylaw19_num.f bt118.2.2.2).bind fun t125 => (if t125 = 0 then (j0 k l0 false bt118.2.1 bt118.2.2.1) else (j0 k l0 true bt118.2.1 bt118.2.2.1))) else (none))) = some (r1, r2, r3, r4, r5, r6) := h
 clear h
 replace H := bm_ H
 obtain ⟨⟨t118, t119, t122, t124⟩, A20, H⟩ := H
 replace H : (if t118 = true then ((gangwaylaw19_num.f t124).bind fun t125 => (if t125 = 0 then (j0 k l0 false t119 t122) else (j0 k l0 true t119 t122))) else (none)) = some (r1, r2, r3, r4, r5, r6) := H
 have A2 := am_ A20
 clear A20
 by_cases c3 : t118 = true
 ·subst c3
  have H1 : ((gangwaylaw19_num.f t124).bind fun t125 => (if t125 = 0 then (j0 k l0 false t119 t122) else (j0 k l0 true t119 t122))) = some (r1, r2, r3, r4, r5, r6) := by rw [if_pos rfl] at H; exact H
  clear H
  have H := H1
  clear H1
  have HC4 := am_ H
  clear H
  go_enter Try.func6, Try.ntmps6
  go_upto_region 2 with (first | ((with_reducible refine gate_callee (f := 22) rfl ?_); refine goesL_ (some 10) rfl rfl Try.func22 (by kernel_rfl) rfl #[.agg #[.int .i64 1, .int .i64 (-1)], .int .i64 1] rfl aa_0 ?_; (with_reducible refine (mem_New.calls k 1 (-1) 1 true t119 t122 t124 _ A2.out).mono ?_); rintro e w5 ⟨v120, pz123, rfl, ho0, hz123, hb⟩; refine ⟨_, rfl, ?_⟩; have n0_ := am_ (Kd.R_lower ho0 (below_size (by repeat (first | (with_reducible first | exact HB.out | apply below_alloc | apply pw_below_drewN | apply below_drew1) | exact HB.out)))); have n1_ := am_ ((show (true = true → ∃ g_ : Nat, pz123 = .pointer (some ⟨g_, 0, none⟩) ∧ IsS72 w w5 g_ v120 t122) ∧ (true = false → pz123 = .pointer none) from ⟨fun h_ => (hz123.1 h_).elim fun g_ hg_ => ⟨g_, hg_.1, hg_.2.lower ((below_size (by repeat (first | (with_reducible first | exact HB.out | apply below_alloc | apply pw_below_drewN | apply below_drew1) | exact HB.out))))⟩, hz123.2⟩)); have n2_ := am_ (below_step (by repeat (first | (with_reducible first | exact HB.out | apply below_alloc | apply pw_below_drewN | apply below_drew1) | exact HB.out)) hb); clear HB; have HO121 := n0_; have HZ123 := n1_; have HB := n2_; clear n0_ n1_ n2_; (try clear hb); (try clear hb2); (try clear hk); (try clear hi); (try clear ho0); obtain ⟨g123, e_, hi_⟩ := HZ123.out.1 rfl; subst e_; have HI123 := am_ hi_; clear hi_ HZ123))
  (try simp only [Act.put, e1, e2, e3])
  go_cut [19] (fun v19 wc => ∃ (kq : Nat) (x19_3 : Bool), v19 = .bool x19_3 ∧ Aside0 (j0 kq l0 x19_3 t119 t122 = some (r1, r2, r3, r4, r5, r6)) ∧ Aside0 (kq ≤ k) ∧ Aside0 (Kd.R (Kd.int .u8) 5 wc w.heap.size (fun _ => True) v120 t119) ∧ Aside0 (IsS72 w wc g123 v120 t122) ∧ Aside0 (Below w.heap.size w wc))
  case first =>
   have H := HC4.out
   clear HC4
   replace H := bm_ H
   obtain ⟨t125, A60, H⟩ := H
   replace H : (if t125 = 0 then (j0 k l0 false t119 t122) else (j0 k l0 true t119 t122)) = some (r1, r2, r3, r4, r5, r6) := H
   have A6 := am_ A60
   clear A60
   by_cases c7 : t125 = 0
   ·rw [if_pos c7] at H
    have c7b0 : (t125 == 0) = true := beq_iff_eq.mpr c7
    have c7b1 : (t125 != 0) = false := bne_eq_false_iff_eq.mpr c7
    clear c7
    (first | rw [c7b0] | (simp only [i64_w, i32_w]; rw [c7b0]) | skip)
    have H' := am_ H
    clear H
    go_wp2_with (first | ((with_reducible refine gate_callee (f := 9) rfl ?_); refine goesL_ (some 14) rfl rfl Try.func9 (by kernel_rfl) rfl #[.int .i64 t124] rfl aa_0 ?_; (with_reducible refine (gangwaylaw19_num.calls t124 t125 _ A6.out).mono ?_); rintro e w' ⟨rfl, ⟨nd, rfl⟩⟩; refine ⟨_, rfl, ?_⟩))
    go_meet
    case rel => exact ⟨_, (false), (by first | rfl | (simp; done) | (simp [*]; done)), H', ⟨by first | omega | exact Nat.le_refl _⟩, ⟨aa_5⟩, ⟨aa_2⟩, ⟨aa_1⟩⟩
   ·rw [if_neg c7] at H
    have c7b0 : (t125 == 0) = false := beq_eq_false_iff_ne.mpr c7
    have c7b1 : (t125 != 0) = true := bne_iff_ne.mpr c7
    (first | rw [c7b0] | (simp only [i64_w, i32_w]; rw [c7b0]) | skip)
    have H' := am_ H
    clear H
    go_wp2_with (first | ((with_reducible refine gate_callee (f := 9) rfl ?_); refine goesL_ (some 14) rfl rfl Try.func9 (by kernel_rfl) rfl #[.int .i64 t124] rfl aa_0 ?_; (with_reducible refine (gangwaylaw19_num.calls t124 t125 _ A6.out).mono ?_); rintro e w' ⟨rfl, ⟨nd, rfl⟩⟩; refine ⟨_, rfl, ?_⟩))
    go_meet
    case rel => exact ⟨_, (true), (by first | rfl | (simp; done) | (simp [*]; done)), H', ⟨by first | omega | exact Nat.le_refl _⟩, ⟨aa_5⟩, ⟨aa_2⟩, ⟨aa_1⟩⟩
  case rest =>
   clear HC4
   try clear c2
   try clear p2
   try clear c3
   try clear c6
   try clear c7
   try clear c7b0
   try clear c7b1
   obtain ⟨kq, x19_3, rfl, HA, HJ3, HO_0z, HI123, HB⟩ := hcut
   cases kq with
   | zero => exact absurd HA.out (by simp [j0])
   | succ kj3 =>
    have H := HA.out
    clear HA
    simp only [j0] at H
    by_cases c8 : x19_3 = true
    ·subst c8
     have H1 : (some (false, ([] : List Int), 0, false, ([] : List Int), 0)) = some (r1, r2, r3, r4, r5, r6) := by rw [if_pos rfl] at H; exact H
     clear H
     have H := H1
     clear H1
     simp only [Option.some.injEq, Prod.mk.injEq] at H
     obtain ⟨rfl, rfl, rfl, rfl, rfl, rfl⟩ := H
     go_wp2
     go_ret2
     exact ⟨_, _, (.pointer none), (.pointer none), by first | rfl | (simp [errW_none, errW_some] <;> rfl) | (simp [*, errW_none, errW_some] <;> rfl), by first | exact Kd.R_nil _ _ _ _ _ | exact Kd.N_nil _ _ _ _ _ | exact Kd.V_nil _ _ _ _ _ | exact Kd.Q_nil _ _ _ _ _ | exact Kd.S_nil _ _ _ _ _, by first | exact Kd.R_nil _ _ _ _ _ | exact Kd.N_nil _ _ _ _ _ | exact Kd.V_nil _ _ _ _ _ | exact Kd.Q_nil _ _ _ _ _ | exact Kd.S_nil _ _ _ _ _, by first | exact ⟨fun h_ => absurd h_ (by decide), fun _ => rfl⟩ | rfl | exact ⟨trivial, rfl⟩, by first | exact ⟨fun h_ => absurd h_ (by decide), fun _ => rfl⟩ | rfl | exact ⟨trivial, rfl⟩, by repeat (first | (with_reducible first | exact HB.out | apply below_alloc | apply pw_below_drewN | apply below_drew1 | refine below_set ?_ (IsS72.ge HI123.out)) | exact HB.out)⟩
    ·replace c8 := Bool.eq_false_iff.mpr c8
     subst c8
     have H1 : ((gangwayref9_NewMem.f 1 (-1) 1).bind fun bt126 => (if bt126.1 = true then (gangwaylaw19_Both.l0 kj3 l0 0 t119 t122 bt126.2.1 bt126.2.2) else (none))) = some (r1, r2, r3, r4, r5, r6) := by rw [if_neg (show ¬ (false = true) by decide)] at H; exact H
     clear H
     have H := H1
     clear H1
     replace H := bm_ H
     obtain ⟨⟨t126, t127, t130⟩, A90, H⟩ := H
     replace H : (if t126 = true then (gangwaylaw19_Both.l0 kj3 l0 0 t119 t122 t127 t130) else (none)) = some (r1, r2, r3, r4, r5, r6) := H
     have A9 := am_ A90
     clear A90
     by_cases c10 : t126 = true
     ·subst c10
      have H1 : (gangwaylaw19_Both.l0 kj3 l0 0 t119 t122 t127 t130) = some (r1, r2, r3, r4, r5, r6) := by rw [if_pos rfl] at H; exact H
      clear H
      have H := H1
      clear H1
      have HC11 := am_ H
      clear H
      go_upto_block 0 with (first | ((with_reducible refine gate_callee (f := 23) rfl ?_); refine goesL_ (some 21) rfl rfl Try.func23 (by kernel_rfl) rfl #[.agg #[.int .i64 1, .int .i64 (-1)], .int .i64 1] rfl aa_0 ?_; (with_reducible refine (gangwayref9_NewMem.calls 1 (-1) 1 true t127 t130 _ A9.out).mono ?_); rintro e w12 ⟨v128, pz131, rfl, ho0, hz131, hb⟩; refine ⟨_, rfl, ?_⟩; have n0_ := am_ (Kd.R_elder' (by (with_reducible repeat (first | apply Kd.R_alloc | apply Kd.R_drewN | apply Kd.R_drew)); exact HO_0z.out) (Kd.R_base ho0) hb); have n1_ := am_ (Kd.R_lower (Kd.R_new' ho0 (Kd.R_lt (by (with_reducible repeat (first | apply Kd.R_alloc | apply Kd.R_drewN | apply Kd.R_drew)); exact HO_0z.out))) (below_size aa_1)); have n2_ := am_ (IsS72.below (by repeat (first | (with_reducible first | exact HI123.out | apply IsS72.alloc | apply IsS72.drewN | apply IsS72.drew | apply IsS72.set_0 | apply IsS72.set_1) | exact HI123.out)) hb); have n3_ := am_ ((show (true = true → ∃ g_ : Nat, pz131 = .pointer (some ⟨g_, 0, none⟩) ∧ IsS57 w w12 g_ v128 t130 ∧ g123 ≠ g_) ∧ (true = false → pz131 = .pointer none) from ⟨fun h_ => (hz131.1 h_).elim fun g_ hg_ => ⟨g_, hg_.1, hg_.2.lower ((below_size aa_1)), Nat.ne_of_lt (Nat.lt_of_lt_of_le (IsS72.lt (show IsS72 w _ g123 v120 t122 from by repeat (first | (with_reducible first | exact HI123.out | apply IsS72.alloc | apply IsS72.drewN | apply IsS72.drew | apply IsS72.set_0 | apply IsS72.set_1) | exact HI123.out))) hg_.2.ge)⟩, hz131.2⟩)); have n4_ := am_ (below_step aa_1 hb); clear HO_0z; clear HI123; clear HB; have HO_0z := n0_; have HO129 := n1_; have HI123 := n2_; have HZ131 := n3_; have HB := n4_; clear n0_ n1_ n2_ n3_ n4_; (try clear hb); (try clear hb2); (try clear hk); (try clear hi); (try clear ho0); obtain ⟨g131, e_, hi_, hn0_⟩ := HZ131.out.1 rfl; subst e_; have HI131 := am_ hi_; clear hi_ HZ131; have NB123_131 := am_ hn0_; have NB131_123 := am_ (Ne.symm hn0_); clear hn0_))
      (try simp only [Act.put, e1, e2, e3])
      go_cut [] (fun wc => ∃ (kq : Nat) (x0z_10 : List Int) (x2z_10 : List Int) (u0z : Value) (u2z : Value), Aside0 (j2 kq x0z_10 t122 x2z_10 t130 = some (r1, r2, r3, r4, r5, r6)) ∧ Aside0 (kq ≤ kj3) ∧ Aside0 (Kd.R (Kd.int .u8) 5 wc w.heap.size (fun k_ => some k_ ≠ (u2z : Value).ownBlock) u0z x0z_10) ∧ Aside0 (Kd.R (Kd.int .u8) 5 wc w.heap.size (fun k_ => some k_ ≠ (u0z : Value).ownBlock) u2z x2z_10) ∧ Aside0 (IsS72 w wc g123 u0z t122) ∧ Aside0 (IsS57 w wc g131 u2z t130) ∧ Aside0 (Below w.heap.size w wc))
      case first =>
       have H := HC11.out
       clear HC11
       have H' := am_ H
       clear H
       go_wp2
       go_loopg [7] kj3 (fun kq v7 w' => ∃ (x7_2 : Int) (x0z_2 : List Int) (x2z_2 : List Int) (u0z : Value) (u2z : Value), v7 = .int .i64 x7_2 ∧ Aside0 (gangwaylaw19_Both.l0 kq l0 x7_2 x0z_2 t122 x2z_2 t130 = some (r1, r2, r3, r4, r5, r6)) ∧ Aside0 (kq ≤ kj3) ∧ Aside0 (Kd.R (Kd.int .u8) 5 w' w.heap.size (fun k_ => some k_ ≠ (u2z : Value).ownBlock) u0z x0z_2) ∧ Aside0 (Kd.R (Kd.int .u8) 5 w' w.heap.size (fun k_ => some k_ ≠ (u0z : Value).ownBlock) u2z x2z_2) ∧ Aside0 (IsS72 w w' g123 u0z t122) ∧ Aside0 (IsS57 w w' g131 u2z t130) ∧ Aside0 (Below w.heap.size w w'))
       case atStart => exact ⟨(0), (t119), (t127), (v120), (v128), (by first | rfl | (simp; done) | (simp [*]; done)), H', ⟨Nat.le_refl _⟩, ⟨by (with_reducible repeat (first | apply Kd.R_alloc | apply Kd.R_drewN | apply Kd.R_drew)); exact Kd.R_mono HO_0z.out (fun _ hk => hk.2)⟩, ⟨by (with_reducible repeat (first | apply Kd.R_alloc | apply Kd.R_drewN | apply Kd.R_drew)); exact Kd.R_mono HO129.out (fun _ hk => hk.2)⟩, ⟨aa_2⟩, ⟨aa_3⟩, ⟨aa_4⟩⟩
       case round =>
        clear H'
        try clear c1
        try clear c2
        try clear p2
        try clear c3
        try clear c6
        try clear c7
        try clear c7b0
        try clear c7b1
        try clear c8
        try clear c9
        try clear c10
        try clear p2
        obtain ⟨x7_2, x0z_2, x2z_2, u0z, u2z, rfl, HA, HK2, HO_0z, HO_2z, HI123, HI131, HB⟩ := hrel
        cases gk with
        | zero => exact absurd HA.out (by simp [gangwaylaw19_Both.l0])
        | succ k2 =>
         have H := HA.out
         clear HA
         simp only [gangwaylaw19_Both.l0] at H
         by_cases c13 : x7_2 < (l0.length : Int)
         ·rw [if_pos c13] at H
          have c13b0 : decide (x7_2 < (l0.length : Int)) = true := decide_eq_true c13
          clear c13
          (first | rw [c13b0] | (simp only [i64_w, i32_w]; rw [c13b0]) | skip)
          by_cases c14 : x7_2 < (x2z_2.length : Int)
          ·rw [if_pos c14] at H
           have c14b0 : decide (x7_2 < (x2z_2.length : Int)) = true := decide_eq_true c14
           clear c14
           by_cases c15 : 0 ≤ x7_2
           ·rw [if_pos c15] at H
            have c15b0 : decide (0 ≤ x7_2) = true := decide_eq_true c15
            clear c15
            obtain ⟨y133, hy133⟩ : ∃ y_ : List Int, y_ = (x2z_2.set (x7_2 : Int).toNat (rd l0 x7_2)) := ⟨_, rfl⟩
            replace H : (gangwaylaw19_Both.l0 k2 l0 (wrap64 (x7_2 + 1)) x0z_2 t122 y133 t130) = some (r1, r2, r3, r4, r5, r6) := by first | (rw [hy133]; with_reducible exact H) | (have H2_ := (Option.bind_some _ _).symm.trans H; rw [hy133]; with_reducible exact H2_) | (have H2_ := (Option.bind_some _ _).symm.trans H; with_reducible exact H2_) | with_reducible exact H | (rw [hy133]; exact H) | exact H
            have Ny133 := am_ hy133
            clear hy133
            have H' := am_ H
            clear H
            obtain ⟨HGz17, hgz17⟩ := HI131.out
            have hcz17_0 := cellS57_0 HGz17
            have hcz17_1 := cellS57_1 HGz17
            have hfz17_0 := blk_frozen HGz17 0
            have hfz17_1 := blk_frozen HGz17 1
            clear HGz17 hgz17
            obtain ⟨Ao18, co18, eo18⟩ := Kd.R_slice HO_2z.out
            subst eo18
            try go_wp2
            have n0_ := am_ (Kd.R_drew HO_0z.out)
            have n1_ := am_ (Kd.R_drew HO_2z.out)
            have n2_ := am_ (IsS72.drew HI123.out)
            have n3_ := am_ (IsS57.drew HI131.out)
            have n4_ := am_ (below_drew1 HB.out)
            clear HO_0z
            clear HO_2z
            clear HI123
            clear HI131
            clear HB
            have HO_0z := n0_
            have HO_2z := n1_
            have HI123 := n2_
            have HI131 := n3_
            have HB := n4_
            clear n0_ n1_ n2_ n3_ n4_
            have p132 : 0 ≤ (x7_2 : Int) := of_decide_eq_true (by first | (with_reducible assumption) | assumption)
            have q132 : x7_2 < (l0.length : Int) := of_decide_eq_true (by first | (with_reducible assumption) | assumption)
            obtain ⟨ad132, e132, hx132_0⟩ := Kd.at_int HR0.out x7_2 p132 q132
            have hw132_0 := hx132_0
            cases e132
            replace hx132_0 := up HB hx132_0
            replace p132 := eq_true p132
            replace q132 := eq_true q132
            have p16 : 0 ≤ (x7_2 : Int) := of_decide_eq_true (by first | (with_reducible assumption) | assumption)
            have q16 : (x7_2 : Int) < ((x2z_2.length : Int) : Int) := of_decide_eq_true (by first | (with_reducible assumption) | assumption)
            obtain ⟨go16, co16, eo16, gb16, gl16, cl16, HG16⟩ := Kd.R_form HO_2z.out (by omega)
            (first | cases eo16 | (injection eo16 with ea_ en_ ec_; (first | subst ea_ | (injection ea_ with ea_; subst ea_)); subst ec_; clear en_))
            have GB16 := am_ gb16
            have GG16 := am_ HG16
            clear gb16 gl16 HG16
            obtain ⟨hx16_0, hf16_0⟩ := Kd.R_celln 0 HO_2z.out (x7_2 : Int) p16 q16
            replace p16 := eq_true p16
            replace q16 := eq_true q16
            have HN123_go16 := am_ (show g123 ≠ go16 from by have h_ := IsS72.own_ne HI123.out HO_2z.out (by decide); intro e_; exact h_ (by rw [e_]; rfl))
            have HN131_go16 := am_ (show g131 ≠ go16 from by have h_ := IsS57.own_ne HI131.out HO_2z.out (by decide); intro e_; exact h_ (by rw [e_]; rfl))
            have HP20 := Kd.R_putn HO_2z.out (x7_2 : Int) (rd l0 x7_2)
            rw [← Ny133.out] at HP20
            have HQ20 := am_ HP20
            clear HP20
            refine start_ (n := 11) (S := fun w' => w'.cell? ⟨g131, 0, none⟩ = some (.slice (some ⟨go16, 0, none⟩) x2z_2.length co18) ∧ w'.cell? ⟨g131, 1, none⟩ = some (.int .i64 t130) ∧ w'.cell? (ad132.add (x7_2).toNat) = some (.int .u8 (rd l0 x7_2))) (ds := [10]) bb11_ (by kernel_rfl) rfl rfl ⟨(blk_cell HI131.out.1 0).trans rfl, (blk_cell HI131.out.1 1).trans rfl, (up HB hw132_0 :)⟩ (fun hHeld => ?_); refine with_tabW gangwaylaw19_Both.tab8 gangwaylaw19_Both.bits8 (fun HT_ HW_ => ?_)
            generalize wr.drew = w19 at HO_0z HO_2z HI123 HI131 HB GG16 HQ20 hf16_0 hx132_0 hx16_0 hHeld ⊢
            refine pure_ (i := 0) (N := some 37) (v := ?_) (a' := ?_) bb10_ rfl rfl (any_of HT_.out (by kernel_rfl)) (fun _ _ _ h => h) (Or.inl ⟨by rfl, ?_⟩) ?_ ?_
            rotate_left; · intro w'; go_simp; with_reducible rfl
            rotate_left; · simp only [Act.put, e1, e2, e3, i64_w, i32_w]; rfl
            refine pure_ (i := 1) (N := some 38) (v := ?_) (a' := ?_) bb9_ rfl rfl (any_of HT_.out (by kernel_rfl)) (fun _ _ _ h => h) (Or.inl ⟨by rfl, ?_⟩) ?_ ?_
            rotate_left; · intro w'; go_simp; with_reducible rfl
            rotate_left; · simp only [Act.put, e1, e2, e3, i64_w, i32_w]; rfl
            refine pure_ (i := 2) (N := some 39) (v := ?_) (a' := ?_) bb8_ rfl rfl (any_of HT_.out (by kernel_rfl)) (fun _ _ _ h => h) (Or.inl ⟨by rfl, ?_⟩) ?_ ?_
            rotate_left; · intro w'; go_simp; with_reducible rfl
            rotate_left; · simp only [Act.put, e1, e2, e3, i64_w, i32_w]; rfl
            refine pure_ (i := 4) (N := some 41) (v := ?_) (a' := ?_) bb7_ rfl rfl (any_of HT_.out (by kernel_rfl)) (fun _ _ _ h => h) (Or.inl ⟨by rfl, ?_⟩) ?_ ?_
            rotate_left; · intro w'; go_simp; with_reducible rfl
            rotate_left; · simp only [Act.put, e1, e2, e3, i64_w, i32_w]; rfl
            refine pure_ (i := 5) (N := some 42) (v := ?_) (a' := ?_) bb6_ rfl rfl (any_of HT_.out (by kernel_rfl)) (fun _ _ _ h => h) (Or.inl ⟨by rfl, ?_⟩) ?_ ?_
            rotate_left; · intro w'; go_simp; with_reducible rfl
            rotate_left; · simp only [Act.put, e1, e2, e3, i64_w, i32_w]; rfl
            refine pure_ (i := 6) (N := some 43) (v := ?_) (a' := ?_) bb5_ rfl rfl (any_of HT_.out (by kernel_rfl)) (fun _ _ _ h => h) (Or.inl ⟨by rfl, ?_⟩) ?_ ?_
            rotate_left; · intro w'; go_simp; with_reducible rfl
            rotate_left; · simp only [Act.put, e1, e2, e3, i64_w, i32_w]; rfl
            refine pure_ (i := 7) (N := some 44) (v := ?_) (a' := ?_) bb4_ rfl rfl (any_of HT_.out (by kernel_rfl)) (fun _ _ _ h => h) (Or.inl ⟨by rfl, ?_⟩) ?_ ?_
            rotate_left; · intro w'; go_simp; with_reducible rfl
            rotate_left; · simp only [Act.put, e1, e2, e3, i64_w, i32_w]; rfl
            refine take_ (i := 3) (N := some 40) (v := ?_) (a' := ?_) bb3_ rfl rfl (take_ofW HT_.out HW_.out (by kernel_rfl)) (fun _ _ _ h => h) (Or.inl ⟨by rfl, ?_⟩) hHeld ?_ ?_
            rotate_left; · rintro w' ⟨s0, s1, s2⟩; go_simp; with_reducible rfl
            rotate_left; · simp only [Act.put, e1, e2, e3, i64_w, i32_w]; rfl
            refine take_ (i := 8) (N := some 45) (v := ?_) (a' := ?_) bb2_ rfl rfl (take_ofW HT_.out HW_.out (by kernel_rfl)) (fun _ _ _ h => h) (Or.inl ⟨by rfl, ?_⟩) hHeld ?_ ?_
            rotate_left; · rintro w' ⟨s0, s1, s2⟩; go_simp; with_reducible rfl
            rotate_left; · simp only [Act.put, e1, e2, e3, i64_w, i32_w]; rfl
            refine pure_ (i := 9) (N := some 46) (v := ?_) (a' := ?_) bb1_ rfl rfl (any_of HT_.out (by kernel_rfl)) (fun _ _ _ h => h) (Or.inl ⟨by rfl, ?_⟩) ?_ ?_
            rotate_left; · intro w'; go_simp; with_reducible rfl
            rotate_left; · simp only [Act.put, e1, e2, e3, i64_w, i32_w]; rfl
            refine last_ (i := 10) (N := none) bb0_ rfl rfl (one_of HT_.out (by kernel_rfl)) (by decide) (fun K hK => ?_)
            refine skip_ (w1 := ?_) (by rfl) rfl ?_ ?_
            rotate_left
            ·go_simp
             rfl
            refine hK.out _ _ ?_
            clear hK K
            refine done_ (done_of HT_.out (by kernel_rfl)) ?_
            try go_wp2
            go_roundg k2
            case measure => have := HJ3.out; have := HK2.out; omega
            case rel => exact ⟨(wrap64 (x7_2 + 1)), (x0z_2), (y133), (u0z), (.slice (some ⟨go16, 0, none⟩) x2z_2.length co18), (by first | rfl | (simp; done) | (simp [*]; done)), H', ⟨by have := HJ3.out; have := HK2.out; omega⟩, ⟨by (with_reducible repeat (first | apply Kd.R_alloc | apply Kd.R_drewN | apply Kd.R_drew)); exact Kd.R_mono (Kd.R_far (p := ⟨go16, (x7_2 : Int).toNat, none⟩) (Kd.R_mono HO_0z.out (fun k_ hk => (⟨hk, fun e_ => hk (by rw [e_]; rfl)⟩ : _ ∧ k_ ≠ go16))) (fun _ hk => hk.2) (.int .u8 (rd l0 x7_2))) (fun _ hk => hk.1)⟩, ⟨by (with_reducible repeat (first | apply Kd.R_alloc | apply Kd.R_drewN | apply Kd.R_drew)); exact HQ20.out⟩, ⟨by repeat (first | (with_reducible first | exact HI123.out | apply IsS72.alloc | apply IsS72.drewN | apply IsS72.drew | apply IsS72.set_0 | apply IsS72.set_1 | refine IsS72.far ?_ HN123_go16.out _) | exact HI123.out)⟩, ⟨by repeat (first | (with_reducible first | exact HI131.out | apply IsS57.alloc | apply IsS57.drewN | apply IsS57.drew | apply IsS57.set_0 | apply IsS57.set_1 | refine IsS57.far ?_ HN131_go16.out _) | exact HI131.out)⟩, ⟨by repeat (first | (with_reducible first | exact HB.out | apply below_alloc | apply pw_below_drewN | apply below_drew1 | refine below_set ?_ GB16.out | refine below_set ?_ (IsS72.ge HI123.out) | refine below_set ?_ (IsS57.ge HI131.out)) | exact HB.out)⟩⟩
           ·rw [if_neg c15] at H
            exact absurd H (by simp)
          ·rw [if_neg c14] at H
           have c14b0 : decide (x7_2 < (x2z_2.length : Int)) = false := decide_eq_false c14
           clear c14
           have H' := am_ H
           clear H
           obtain ⟨HGz21, hgz21⟩ := HI131.out
           have hcz21_0 := cellS57_0 HGz21
           have hcz21_1 := cellS57_1 HGz21
           have hfz21_0 := blk_frozen HGz21 0
           have hfz21_1 := blk_frozen HGz21 1
           clear HGz21 hgz21
           obtain ⟨Ao22, co22, eo22⟩ := Kd.R_slice HO_2z.out
           subst eo22
           go_wp2
           go_meet
           case rel => exact ⟨_, (x0z_2), (x2z_2), (u0z), (.slice Ao22 x2z_2.length co22), H', ⟨by have := HJ3.out; have := HK2.out; first | omega | exact Nat.le_refl _⟩, ⟨aa_6⟩, ⟨aa_7⟩, ⟨aa_2⟩, ⟨aa_3⟩, ⟨aa_4⟩⟩
         ·rw [if_neg c13] at H
          have c13b0 : decide (x7_2 < (l0.length : Int)) = false := decide_eq_false c13
          clear c13
          (first | rw [c13b0] | (simp only [i64_w, i32_w]; rw [c13b0]) | skip)
          have H' := am_ H
          clear H
          go_wp2
          go_meet
          case rel => exact ⟨_, (x0z_2), (x2z_2), (u0z), (u2z), H', ⟨by have := HJ3.out; have := HK2.out; first | omega | exact Nat.le_refl _⟩, ⟨aa_6⟩, ⟨aa_7⟩, ⟨aa_2⟩, ⟨aa_3⟩, ⟨aa_4⟩⟩
      case rest =>
       clear HC11
       try clear c1
       try clear p1
       try clear q1
       try clear hx1
       try clear hf1
       try clear c2
       try clear p2
       try clear c3
       try clear c6
       try clear p6
       try clear c7
       try clear c7b0
       try clear c7b1
       try clear c8
       try clear c9
       try clear c10
       try clear c13
       try clear c13b0
       try clear p13
       try clear q13
       try clear hx13
       try clear c14
       try clear c14b0
       try clear c15
       try clear c15b0
       try clear p16
       try clear q16
       try clear hx16
       try clear hf16
       try clear c22
       try clear hcz17_0
       try clear hcz17_1
       try clear hcz21_0
       try clear hcz21_1
       try clear hfz17_0
       try clear hfz17_1
       try clear hfz21_0
       try clear hfz21_1
       try clear hx132_0
       try clear hx16_0
       try clear p132
       try clear p16
       try clear p2
       try clear q132
       try clear q16
       obtain ⟨kq, x0z_10, x2z_10, u0z, u2z, HA, HJ10, HO_0z, HO_2z, HI123, HI131, HB⟩ := hcut
       cases kq with
       | zero => exact absurd HA.out (by simp [j2])
       | succ kj10 =>
        have H := HA.out
        clear HA
        simp only [j2] at H
        replace H := bm_ H
        obtain ⟨⟨t134, t135, t138⟩, A230, H⟩ := H
        replace H : ((gangwaylaw19_num.f t134).bind fun t139 => (if t139 = 0 then (some (true, t135, t138, true, x2z_10, t130)) else (some (false, ([] : List Int), 0, false, ([] : List Int), 0)))) = some (r1, r2, r3, r4, r5, r6) := H
        have A23 := am_ A230
        clear A230
        replace H := bm_ H
        obtain ⟨t139, A240, H⟩ := H
        replace H : (if t139 = 0 then (some (true, t135, t138, true, x2z_10, t130)) else (some (false, ([] : List Int), 0, false, ([] : List Int), 0))) = some (r1, r2, r3, r4, r5, r6) := H
        have A24 := am_ A240
        clear A240
        by_cases c25 : t139 = 0
        ·rw [if_pos c25] at H
         have c25b0 : (t139 == 0) = true := beq_iff_eq.mpr c25
         have c25b1 : (t139 != 0) = false := bne_eq_false_iff_eq.mpr c25
         clear c25
         simp only [Option.some.injEq, Prod.mk.injEq] at H
         obtain ⟨rfl, rfl, rfl, rfl, rfl, rfl⟩ := H
         obtain ⟨HGz26, hgz26⟩ := HI131.out
         have hcz26_0 := cellS57_0 HGz26
         have hcz26_1 := cellS57_1 HGz26
         have hfz26_0 := blk_frozen HGz26 0
         have hfz26_1 := blk_frozen HGz26 1
         clear HGz26 hgz26
         obtain ⟨Ao27, co27, eo27⟩ := Kd.R_slice HO_2z.out
         subst eo27
         go_wp2_with (first | ((with_reducible refine gate_callee (f := 24) rfl ?_); refine goesL_ (some 52) rfl rfl Try.func24 (by kernel_rfl) rfl #[.pointer (some ⟨g123, 0, none⟩), .int .i64 0, .slice Ao27 x2z_10.length co27] rfl aa_0 ?_; (with_reducible refine (mem_Memory_Write.calls g123 (fun k_ => some k_ = (u0z : Value).ownBlock) u0z x0z_10 t122 0 _ _ x2z_10 t134 t135 t138 w _ ?side1 ?side2 ?side3 ?side4 ?side5 A23.out).mono ?_); (case side1 => exact aa_2); (case side2 => exact aa_4); (case side3 => exact Kd.R_tight rfl HO_0z.out); (case side4 => exact Kd.C_kept_own ((IsS72.apart HI123.out HO_2z.out (by decide))) (fun k_ hk_ hs_ => Or.elim hs_ (fun hs_ => (hk_.1) hs_) (fun e_ => (hk_.2) e_))); (case side5 => exact (Kd.R_reads' HO_2z.out).2.1); rintro e w28 ⟨v136, rfl, ho0, hi, hb, hkp⟩; refine ⟨_, rfl, ?_⟩; have n0_ := am_ (Kd.R_mono (ok' := fun k_ => some k_ ≠ (v136 : Value).ownBlock) (Kd.R_keptB ((IsS72.apart HI123.out HO_2z.out (by decide))) hkp (fun k_ hk_ hs_ => Or.elim hs_ (fun hs_ => (hk_.1) hs_) (fun e_ => (hk_.2) e_))) (fun k_ hk_ => fun e_ => Or.elim (ho0.1 k_ e_.symm) (fun hs_ => hk_.2.1 (.inl hs_)) (fun hn_ => Nat.not_le.2 hk_.2.2 hn_))); have n1_ := am_ (hi); have n2_ := am_ (IsS57.kept (by repeat (first | (with_reducible first | exact HI131.out | apply IsS57.alloc | apply IsS57.drewN | apply IsS57.drew | apply IsS57.set_0 | apply IsS57.set_1) | exact HI131.out)) hkp (fun hs_ => Or.elim hs_ (fun hs_ => (fun e_ => (IsS57.own_ne HI131.out HO_0z.out (by decide)) e_) hs_) (fun e_ => NB131_123.out e_))); have n3_ := am_ (Kd.R_mono (ok' := fun k_ => some k_ ≠ (.slice Ao27 x2z_10.length co27 : Value).ownBlock) ho0 (fun k_ hk_ => Or.elim hk_ (fun hs_ => fun e_ => ((((IsS72.apart HI123.out HO_2z.out (by decide))).1 k_ e_.symm).1) hs_) (fun hn_ => (Kd.fresh' (Kd.R_lt (by (with_reducible repeat (first | apply Kd.R_alloc | apply Kd.R_drewN | apply Kd.R_drew)); exact HO_2z.out)) k_ hn_)))); have n4_ := am_ (hb); clear HO_2z; clear HI123; clear HI131; clear HB; clear HO_0z; have HO_2z := n0_; have HI123 := n1_; have HI131 := n2_; have HO137 := n3_; have HB := n4_; clear n0_ n1_ n2_ n3_ n4_; (try clear hb); (try clear hkp); (try clear ho0)) | ((with_reducible refine gate_callee (f := 9) rfl ?_); refine goesL_ (some 53) rfl rfl Try.func9 (by kernel_rfl) rfl #[.int .i64 t134] rfl aa_0 ?_; (with_reducible refine (gangwaylaw19_num.calls t134 t139 _ A24.out).mono ?_); rintro e w' ⟨rfl, ⟨nd, rfl⟩⟩; refine ⟨_, rfl, ?_⟩))
         go_ret2
         exact ⟨_, _, (.pointer (some ⟨g123, 0, none⟩)), (.pointer (some ⟨g131, 0, none⟩)), by first | rfl | (simp [errW_none, errW_some] <;> rfl) | (simp [*, errW_none, errW_some] <;> rfl), by (with_reducible repeat (first | apply Kd.R_alloc | apply Kd.R_drewN | apply Kd.R_drew)); exact HO137.out, by (with_reducible repeat (first | apply Kd.R_alloc | apply Kd.R_drewN | apply Kd.R_drew)); exact HO_2z.out, by first | exact ⟨fun _ => ⟨_, rfl, by repeat (first | (with_reducible first | exact HI123.out | apply IsS72.alloc | apply IsS72.drewN | apply IsS72.drew | apply IsS72.set_0 | apply IsS72.set_1) | exact HI123.out)⟩, fun h_ => absurd h_ (by decide)⟩ | exact ⟨_, rfl, by repeat (first | (with_reducible first | exact HI123.out | apply IsS72.alloc | apply IsS72.drewN | apply IsS72.drew | apply IsS72.set_0 | apply IsS72.set_1) | exact HI123.out)⟩, by first | exact ⟨fun _ => ⟨_, rfl, by repeat (first | (with_reducible first | exact HI131.out | apply IsS57.alloc | apply IsS57.drewN | apply IsS57.drew | apply IsS57.set_0 | apply IsS57.set_1) | exact HI131.out)⟩, fun h_ => absurd h_ (by decide)⟩ | exact ⟨_, rfl, by repeat (first | (with_reducible first | exact HI131.out | apply IsS57.alloc | apply IsS57.drewN | apply IsS57.drew | apply IsS57.set_0 | apply IsS57.set_1) | exact HI131.out)⟩, by repeat (first | (with_reducible first | exact HB.out | apply below_alloc | apply pw_below_drewN | apply below_drew1 | refine below_set ?_ (IsS72.ge HI123.out) | refine below_set ?_ (IsS57.ge HI131.out)) | exact HB.out)⟩
        ·rw [if_neg c25] at H
         have c25b0 : (t139 == 0) = false := beq_eq_false_iff_ne.mpr c25
         have c25b1 : (t139 != 0) = true := bne_iff_ne.mpr c25
         simp only [Option.some.injEq, Prod.mk.injEq] at H
         obtain ⟨rfl, rfl, rfl, rfl, rfl, rfl⟩ := H
         obtain ⟨HGz29, hgz29⟩ := HI131.out
         have hcz29_0 := cellS57_0 HGz29
         have hcz29_1 := cellS57_1 HGz29
         have hfz29_0 := blk_frozen HGz29 0
         have hfz29_1 := blk_frozen HGz29 1
         clear HGz29 hgz29
         obtain ⟨Ao30, co30, eo30⟩ := Kd.R_slice HO_2z.out
         subst eo30
         go_wp2_with (first | ((with_reducible refine gate_callee (f := 24) rfl ?_); refine goesL_ (some 52) rfl rfl Try.func24 (by kernel_rfl) rfl #[.pointer (some ⟨g123, 0, none⟩), .int .i64 0, .slice Ao30 x2z_10.length co30] rfl aa_0 ?_; (with_reducible refine (mem_Memory_Write.calls g123 (fun k_ => some k_ = (u0z : Value).ownBlock) u0z x0z_10 t122 0 _ _ x2z_10 t134 t135 t138 w _ ?side1 ?side2 ?side3 ?side4 ?side5 A23.out).mono ?_); (case side1 => exact aa_2); (case side2 => exact aa_4); (case side3 => exact Kd.R_tight rfl HO_0z.out); (case side4 => exact Kd.C_kept_own ((IsS72.apart HI123.out HO_2z.out (by decide))) (fun k_ hk_ hs_ => Or.elim hs_ (fun hs_ => (hk_.1) hs_) (fun e_ => (hk_.2) e_))); (case side5 => exact (Kd.R_reads' HO_2z.out).2.1); rintro e w31 ⟨v136, rfl, ho0, hi, hb, hkp⟩; refine ⟨_, rfl, ?_⟩; have n0_ := am_ (Kd.R_mono (ok' := fun k_ => some k_ ≠ (v136 : Value).ownBlock) (Kd.R_keptB ((IsS72.apart HI123.out HO_2z.out (by decide))) hkp (fun k_ hk_ hs_ => Or.elim hs_ (fun hs_ => (hk_.1) hs_) (fun e_ => (hk_.2) e_))) (fun k_ hk_ => fun e_ => Or.elim (ho0.1 k_ e_.symm) (fun hs_ => hk_.2.1 (.inl hs_)) (fun hn_ => Nat.not_le.2 hk_.2.2 hn_))); have n1_ := am_ (hi); have n2_ := am_ (IsS57.kept (by repeat (first | (with_reducible first | exact HI131.out | apply IsS57.alloc | apply IsS57.drewN | apply IsS57.drew | apply IsS57.set_0 | apply IsS57.set_1) | exact HI131.out)) hkp (fun hs_ => Or.elim hs_ (fun hs_ => (fun e_ => (IsS57.own_ne HI131.out HO_0z.out (by decide)) e_) hs_) (fun e_ => NB131_123.out e_))); have n3_ := am_ (Kd.R_mono (ok' := fun k_ => some k_ ≠ (.slice Ao30 x2z_10.length co30 : Value).ownBlock) ho0 (fun k_ hk_ => Or.elim hk_ (fun hs_ => fun e_ => ((((IsS72.apart HI123.out HO_2z.out (by decide))).1 k_ e_.symm).1) hs_) (fun hn_ => (Kd.fresh' (Kd.R_lt (by (with_reducible repeat (first | apply Kd.R_alloc | apply Kd.R_drewN | apply Kd.R_drew)); exact HO_2z.out)) k_ hn_)))); have n4_ := am_ (hb); clear HO_2z; clear HI123; clear HI131; clear HB; clear HO_0z; have HO_2z := n0_; have HI123 := n1_; have HI131 := n2_; have HO137 := n3_; have HB := n4_; clear n0_ n1_ n2_ n3_ n4_; (try clear hb); (try clear hkp); (try clear ho0)) | ((with_reducible refine gate_callee (f := 9) rfl ?_); refine goesL_ (some 53) rfl rfl Try.func9 (by kernel_rfl) rfl #[.int .i64 t134] rfl aa_0 ?_; (with_reducible refine (gangwaylaw19_num.calls t134 t139 _ A24.out).mono ?_); rintro e w' ⟨rfl, ⟨nd, rfl⟩⟩; refine ⟨_, rfl, ?_⟩))
         go_ret2
         exact ⟨_, _, (.pointer none), (.pointer none), by first | rfl | (simp [errW_none, errW_some] <;> rfl) | (simp [*, errW_none, errW_some] <;> rfl), by first | exact Kd.R_nil _ _ _ _ _ | exact Kd.N_nil _ _ _ _ _ | exact Kd.V_nil _ _ _ _ _ | exact Kd.Q_nil _ _ _ _ _ | exact Kd.S_nil _ _ _ _ _, by first | exact Kd.R_nil _ _ _ _ _ | exact Kd.N_nil _ _ _ _ _ | exact Kd.V_nil _ _ _ _ _ | exact Kd.Q_nil _ _ _ _ _ | exact Kd.S_nil _ _ _ _ _, by first | exact ⟨fun h_ => absurd h_ (by decide), fun _ => rfl⟩ | rfl | exact ⟨trivial, rfl⟩, by first | exact ⟨fun h_ => absurd h_ (by decide), fun _ => rfl⟩ | rfl | exact ⟨trivial, rfl⟩, by repeat (first | (with_reducible first | exact HB.out | apply below_alloc | apply pw_below_drewN | apply below_drew1 | refine below_set ?_ (IsS72.ge HI123.out) | refine below_set ?_ (IsS57.ge HI131.out)) | exact HB.out)⟩
     ·replace c10 := Bool.eq_false_iff.mpr c10
      subst c10
      have H1 : (none) = some (r1, r2, r3, r4, r5, r6) := by rw [if_neg (show ¬ (false = true) by decide)] at H; exact H
      clear H
      have H := H1
      clear H1
      exact absurd H (by simp)
 ·replace c3 := Bool.eq_false_iff.mpr c3
  subst c3
  have H1 : (none) = some (r1, r2, r3, r4, r5, r6) := by rw [if_neg (show ¬ (false = true) by decide)] at H; exact H
  clear H
  have H := H1
  clear H1
  exact absurd H (by simp)

/-! ### iov_Total: function 19 -/
abbrev iov_Total.t : Bool := true
abbrev iov_Total.f_ : Bool := false
theorem iov_Total.bc {w : World} {g : Nat} {cs : Array Value} {t : TypeId} (h : Aside0 (w.heap[g]? = some (.cells cs t (0, 0)))) (i : Nat) {v : Value} (e : cs[i]? = some v := by rfl) : w.cell? ⟨g, i, none⟩ = some v := (blk_cell h.out i).trans e
theorem iov_Total.bkept {W0 W W2 : World} {g : Nat} {o : Obj} {S : Nat → Prop} (_b : Aside0 (W0.heap[g]? = some o)) (h : W.heap[g]? = some o) (hk : Kept W W2 S) (hn : ¬ S g) : W2.heap[g]? = some o := blk_kept h hk hn
theorem iov_Total.bbelow {W0 w w1 : World} {g : Nat} {o : Obj} (_b : Aside0 (W0.heap[g]? = some o)) (h : w.heap[g]? = some o) (hb : Below w.heap.size w w1) : w1.heap[g]? = some o := blk_below h hb
theorem iov_Total.e1 {α : Type _} (xs : List α) (i : Nat) (a : α) : xs.toArray.setIfInBounds i a = (xs.set i a).toArray := by simp
theorem iov_Total.e2 {α : Type _} (x a : α) (xs : List α) : (x :: xs).set 0 a = a :: xs := rfl
theorem iov_Total.e3 {α : Type _} (x a : α) (xs : List α) (n : Nat) : (x :: xs).set (n + 1) a = x :: xs.set n a := rfl
theorem iov_Total.up {w w' : World} {a : Addr} {v : Value} (hb : Aside0 (Below w.heap.size w w')) (h : w.cell? a = some v) : w'.cell? a = some v := (hb.out.cell (World.block_lt_of_cell? w _ h)).trans h
def iov_Total.l0 : Nat → Int → List (S50) → Int → Int → Option (Int × Int)
 | 0, _, _, _, _ => none
 | k + 1, x4, x7, x8, x9 => if x9 < x8 then (if 0 ≤ x9 then (if x9 < (x7.length : Int) then (if ((rd_T50 x7 x9).f1) < 0 then (some (0, 100)) else (if ((rd_T50 x7 x9).f1) > (wrap64 (1099511627776 - x4)) then (some (0, 100)) else (iov_Total.l0 k (wrap64 (x4 + ((rd_T50 x7 x9).f1))) x7 x8 (wrap64 (x9 + 1))))) else (none)) else (none)) else (some (x4, 0))
def iov_Total.f (k : Nat) (l0 : List (S50)) : Option (Int × Int) := iov_Total.l0 k 0 l0 (l0.length : Int) 0
theorem iov_Total.mono_l : ∀ k, (∀ y0 y1 y2 y3, LeO (iov_Total.l0 k y0 y1 y2 y3) (iov_Total.l0 (k + 1) y0 y1 y2 y3))
 | 0 => fun _ _ _ _ r h => by simp [iov_Total.l0] at h
 | k + 1 => by
  have ih0 := iov_Total.mono_l k
  ·intro y0 y1 y2 y3
   unfold iov_Total.l0
   repeat' first
   | (with_reducible apply ih0)
   | (with_reducible exact LeO.refl _)
   | (with_reducible exact LeO.none _)
   | (with_reducible refine LeO.ite ?_ ?_)
   | (with_reducible refine LeO.bind ?_ (fun _ => ?_))
   | apply ih0
   | exact LeO.none _
   | refine LeO.ite ?_ ?_
   | refine LeO.bind ?_ (fun _ => ?_)
theorem iov_Total.mono : ∀ a0 k, LeO (iov_Total.f k a0) (iov_Total.f (k + 1) a0) := by
 intro a0 k
 have ih0 := iov_Total.mono_l k
 unfold iov_Total.f
 repeat' first
   | (with_reducible apply ih0)
   | (with_reducible exact LeO.refl _)
   | (with_reducible exact LeO.none _)
   | (with_reducible refine LeO.ite ?_ ?_)
   | (with_reducible refine LeO.bind ?_ (fun _ => ?_))
   | apply ih0
   | exact LeO.none _
   | refine LeO.ite ?_ ?_
   | refine LeO.bind ?_ (fun _ => ?_)
theorem iov_Total.aa_0 {p : Prop} (h : p := by repeat (first | (with_reducible first | exact HB.out | apply below_alloc | apply pw_below_drewN | apply below_drew1) | exact HB.out)) : p := h
theorem iov_Total.am_ {p : Prop} (h : p) : Aside0 p := Aside0.mk h
theorem iov_Total.bm_ {α β : Type _} {o : Option α} {f : α → Option β} {b : β} (h : o.bind f = some b) : ∃ a, o = some a ∧ f a = some b := Option.bind_eq_some_iff.mp h
set_option maxHeartbeats 8000000 in
set_option maxRecDepth 100000 in
theorem iov_Total.calls (k : Nat) (A0 : Option Addr) (c0 : Nat) (l0 : List (S50)) (r1 : Int) (r2 : Int) (w : World) (hr0 : Kd.C k50 w A0 l0.length l0) (hc0 : l0.length ≤ c0) (h : iov_Total.f k l0 = some (r1, r2)) :
  Calls Try.prog 19 #[.slice A0 l0.length c0] w fun e w' => e = .returned (.tuple #[.int .i64 r1, .int .i64 r2]) ∧ Below w.heap.size w w' := by
 have hu50 := Try.underlying50
 have HR0 := am_ hr0
 have HC0 := am_ hc0
 clear hr0 hc0
 have HB := am_ (Below.refl w.heap.size w)
 have H : (iov_Total.l0 k 0 l0 (l0.length : Int) 0) = some (r1, r2) := h
 clear h
 have H' := am_ H
 clear H
 go_enter Try.func19, Try.ntmps19
 go_wp2
 go_loopg [4, 9] k (fun kq v4 v9 w' => ∃ (x4_1 : Int) (x9_1 : Int), v4 = .int .i64 x4_1 ∧ v9 = .int .i64 x9_1 ∧ Aside0 (iov_Total.l0 kq x4_1 l0 (l0.length : Int) x9_1 = some (r1, r2)) ∧ Aside0 (kq ≤ k) ∧ Aside0 (Below w.heap.size w w'))
 case atStart => exact ⟨(0), (0), (by first | rfl | (simp; done) | (simp [*]; done)), (by first | rfl | (simp; done) | (simp [*]; done)), H', ⟨Nat.le_refl _⟩, ⟨aa_0⟩⟩
 case round =>
  clear H'
  try clear c1
  obtain ⟨x4_1, x9_1, rfl, rfl, HA, HK1, HB⟩ := hrel
  cases gk with
  | zero => exact absurd HA.out (by simp [iov_Total.l0])
  | succ k1 =>
   have H := HA.out
   clear HA
   simp only [iov_Total.l0] at H
   by_cases c2 : x9_1 < (l0.length : Int)
   ·rw [if_pos c2] at H
    have c2b0 : decide (x9_1 < (l0.length : Int)) = true := decide_eq_true c2
    clear c2
    by_cases c3 : 0 ≤ x9_1
    ·rw [if_pos c3] at H
     have c3b0 : decide (0 ≤ x9_1) = true := decide_eq_true c3
     clear c3
     by_cases c4 : x9_1 < (l0.length : Int)
     ·rw [if_pos c4] at H
      have c4b0 : decide (x9_1 < (l0.length : Int)) = true := decide_eq_true c4
      clear c4
      by_cases c5 : ((rd_T50 l0 x9_1).f1) < 0
      ·rw [if_pos c5] at H
       have c5b0 : decide (((rd_T50 l0 x9_1).f1) < 0) = true := decide_eq_true c5
       clear c5
       simp only [Option.some.injEq, Prod.mk.injEq] at H
       obtain ⟨rfl, rfl⟩ := H
       have p140 : 0 ≤ (x9_1 : Int) := of_decide_eq_true (by first | (with_reducible assumption) | assumption)
       have q140 : x9_1 < (l0.length : Int) := of_decide_eq_true (by first | (with_reducible assumption) | assumption)
       obtain ⟨ad140, e140, hx140_0, hx140_1⟩ := at_T50 HR0.out x9_1 p140 q140
       cases e140
       replace hx140_0 := up HB hx140_0
       replace hx140_1 := up HB hx140_1
       replace p140 := eq_true p140
       replace q140 := eq_true q140
       go_wp2_with (first | ((with_reducible refine gate_dst (N := 6) rfl ?_); refine box_event ?hg (N := 6) ?hd (cs := #[.int .i64 0, .int .i64 0]) (t := 50) ?hr ?_; (case hd => rfl); (case hg => rfl); (case hr => first | (go_simp; done) | (go_simp; rfl)); intro gb141 hg w6 hbox hb; have n0_ := am_ (below_step aa_0 hb); have n1_ := am_ (hbox); have n2_ := am_ ((by rw [hg]; exact (below_size aa_0) : w.heap.size ≤ gb141)); have n3_ := am_ ((by rw [hg]; exact (below_size aa_0) : w.heap.size ≤ gb141)); clear HB; have HB := n0_; have BK141 := n1_; have GW141 := n2_; have GE141 := n3_; clear n0_ n1_ n2_ n3_; clear hb hbox hg; have hcz7_0 : w6.cell? ⟨gb141, 0, none⟩ = some (.int .i64 0) := (bc BK141 0); have hcz7_1 : w6.cell? ⟨gb141, 1, none⟩ = some (.int .i64 0) := (bc BK141 1); have hfz7_0 := blk_frozen BK141.out 0; have hfz7_1 := blk_frozen BK141.out 1))
       go_ret2
       exact ⟨by first | rfl | (simp [errW_none, errW_some] <;> rfl) | (simp [*, errW_none, errW_some] <;> rfl), by repeat (first | (with_reducible first | exact HB.out | apply below_alloc | apply pw_below_drewN | apply below_drew1 | refine below_set ?_ GE141.out) | exact HB.out)⟩
      ·rw [if_neg c5] at H
       have c5b0 : decide (((rd_T50 l0 x9_1).f1) < 0) = false := decide_eq_false c5
       clear c5
       by_cases c8 : ((rd_T50 l0 x9_1).f1) > (wrap64 (1099511627776 - x4_1))
       ·rw [if_pos c8] at H
        have c8b0 : decide ((wrap64 (1099511627776 - x4_1)) < ((rd_T50 l0 x9_1).f1)) = true := decide_eq_true c8
        clear c8
        simp only [Option.some.injEq, Prod.mk.injEq] at H
        obtain ⟨rfl, rfl⟩ := H
        have p140 : 0 ≤ (x9_1 : Int) := of_decide_eq_true (by first | (with_reducible assumption) | assumption)
        have q140 : x9_1 < (l0.length : Int) := of_decide_eq_true (by first | (with_reducible assumption) | assumption)
        obtain ⟨ad140, e140, hx140_0, hx140_1⟩ := at_T50 HR0.out x9_1 p140 q140
        cases e140
        replace hx140_0 := up HB hx140_0
        replace hx140_1 := up HB hx140_1
        replace p140 := eq_true p140
        replace q140 := eq_true q140
        go_wp2_with (first | ((with_reducible refine gate_dst (N := 6) rfl ?_); refine box_event ?hg (N := 6) ?hd (cs := #[.int .i64 0, .int .i64 0]) (t := 50) ?hr ?_; (case hd => rfl); (case hg => rfl); (case hr => first | (go_simp; done) | (go_simp; rfl)); intro gb141 hg w9 hbox hb; have n0_ := am_ (below_step aa_0 hb); have n1_ := am_ (hbox); have n2_ := am_ ((by rw [hg]; exact (below_size aa_0) : w.heap.size ≤ gb141)); have n3_ := am_ ((by rw [hg]; exact (below_size aa_0) : w.heap.size ≤ gb141)); clear HB; have HB := n0_; have BK141 := n1_; have GW141 := n2_; have GE141 := n3_; clear n0_ n1_ n2_ n3_; clear hb hbox hg; have hcz10_0 : w9.cell? ⟨gb141, 0, none⟩ = some (.int .i64 0) := (bc BK141 0); have hcz10_1 : w9.cell? ⟨gb141, 1, none⟩ = some (.int .i64 0) := (bc BK141 1); have hfz10_0 := blk_frozen BK141.out 0; have hfz10_1 := blk_frozen BK141.out 1))
        go_ret2
        exact ⟨by first | rfl | (simp [errW_none, errW_some] <;> rfl) | (simp [*, errW_none, errW_some] <;> rfl), by repeat (first | (with_reducible first | exact HB.out | apply below_alloc | apply pw_below_drewN | apply below_drew1 | refine below_set ?_ GE141.out) | exact HB.out)⟩
       ·rw [if_neg c8] at H
        have c8b0 : decide ((wrap64 (1099511627776 - x4_1)) < ((rd_T50 l0 x9_1).f1)) = false := decide_eq_false c8
        clear c8
        have H' := am_ H
        clear H
        have p140 : 0 ≤ (x9_1 : Int) := of_decide_eq_true (by first | (with_reducible assumption) | assumption)
        have q140 : x9_1 < (l0.length : Int) := of_decide_eq_true (by first | (with_reducible assumption) | assumption)
        obtain ⟨ad140, e140, hx140_0, hx140_1⟩ := at_T50 HR0.out x9_1 p140 q140
        cases e140
        replace hx140_0 := up HB hx140_0
        replace hx140_1 := up HB hx140_1
        replace p140 := eq_true p140
        replace q140 := eq_true q140
        go_wp2_with (first | ((with_reducible refine gate_dst (N := 6) rfl ?_); refine box_event ?hg (N := 6) ?hd (cs := #[.int .i64 0, .int .i64 0]) (t := 50) ?hr ?_; (case hd => rfl); (case hg => rfl); (case hr => first | (go_simp; done) | (go_simp; rfl)); intro gb141 hg w11 hbox hb; have n0_ := am_ (below_step aa_0 hb); have n1_ := am_ (hbox); have n2_ := am_ ((by rw [hg]; exact (below_size aa_0) : w.heap.size ≤ gb141)); have n3_ := am_ ((by rw [hg]; exact (below_size aa_0) : w.heap.size ≤ gb141)); clear HB; have HB := n0_; have BK141 := n1_; have GW141 := n2_; have GE141 := n3_; clear n0_ n1_ n2_ n3_; clear hb hbox hg; have hcz12_0 : w11.cell? ⟨gb141, 0, none⟩ = some (.int .i64 0) := (bc BK141 0); have hcz12_1 : w11.cell? ⟨gb141, 1, none⟩ = some (.int .i64 0) := (bc BK141 1); have hfz12_0 := blk_frozen BK141.out 0; have hfz12_1 := blk_frozen BK141.out 1))
        go_roundg k1
        case measure => have := HK1.out; omega
        case rel => exact ⟨(wrap64 (x4_1 + ((rd_T50 l0 x9_1).f1))), (wrap64 (x9_1 + 1)), (by first | rfl | (simp; done) | (simp [*]; done)), (by first | rfl | (simp; done) | (simp [*]; done)), H', ⟨by have := HK1.out; omega⟩, ⟨by repeat (first | (with_reducible first | exact HB.out | apply below_alloc | apply pw_below_drewN | apply below_drew1 | refine below_set ?_ GE141.out) | exact HB.out)⟩⟩
     ·rw [if_neg c4] at H
      exact absurd H (by simp)
    ·rw [if_neg c3] at H
     exact absurd H (by simp)
   ·rw [if_neg c2] at H
    have c2b0 : decide (x9_1 < (l0.length : Int)) = false := decide_eq_false c2
    clear c2
    simp only [Option.some.injEq, Prod.mk.injEq] at H
    obtain ⟨rfl, rfl⟩ := H
    go_wp2
    go_ret2
    exact ⟨by first | rfl | (simp [errW_none, errW_some] <;> rfl) | (simp [*, errW_none, errW_some] <;> rfl), by repeat (first | (with_reducible first | exact HB.out | apply below_alloc | apply pw_below_drewN | apply below_drew1) | exact HB.out)⟩

/-! ### mem_Memory_Has: function 25 -/
def mem_Memory_Has.f (l0_0 : List Int) (s0_1 : Int) (a1 : Int) (a2 : Int) : Option (Bool × List Int × Int) := (mem_Memory_there.f l0_0 s0_1 a1 a2).bind fun bt142 => (some (bt142.1, bt142.2.1, bt142.2.2))
set_option maxHeartbeats 8000000 in
set_option maxRecDepth 100000 in
theorem mem_Memory_Has.calls (g : Nat) (P0_0_ : Nat → Prop) (u9000_ : Value) (l0_0 : List Int) (s0_1 : Int) (a1 : Int) (a2 : Int) (r1 : Bool) (r2 : List Int) (r3 : Int) (w0 w : World) (hI : IsS72 w0 w g u9000_ s0_1) (hB : Below w0.heap.size w0 w) (ho0_0 : Kd.R (Kd.int .u8) 5 w w0.heap.size P0_0_ u9000_ l0_0) (h : mem_Memory_Has.f l0_0 s0_1 a1 a2 = some (r1, r2, r3)) :
    Calls Try.prog 25 #[.pointer (some ⟨g, 0, none⟩), .int .i64 a1, .int .i64 a2] w fun e w' => ∃ v1_ : Value, e = .returned (.bool r1) ∧ Kd.R (Kd.int .u8) 5 w' w0.heap.size (fun k_ => (P0_0_ k_ ∨ w.heap.size ≤ k_)) v1_ r2 ∧ IsS72 w0 w' g v1_ r3 ∧ Below w0.heap.size w0 w' ∧ Kept w w' (fun k_ => (P0_0_ k_) ∨ k_ = g) := by
  have HO0_0 := Aside0.mk (show Kd.R (Kd.int .u8) 5 w w0.heap.size (fun k_ => (P0_0_ k_ ∨ w.heap.size ≤ k_)) u9000_ l0_0 from Kd.R_mono ho0_0 (fun k_ hk => (.inl hk)))
  have HI0 := Aside0.mk hI
  have HL := Aside0.mk hB.size
  clear hI
  have HK := Aside0.mk (Kept.refl w (fun k_ => (P0_0_ k_) ∨ k_ = g))
  have HW0 := Aside0.mk hB.size
  have HB := Aside0.mk hB
  clear hB
  have H : ((mem_Memory_there.f l0_0 s0_1 a1 a2).bind fun bt142 => (some (bt142.1, bt142.2.1, bt142.2.2))) = some (r1, r2, r3) := h
  clear h
  replace H := Option.bind_eq_some_iff.mp H
  obtain ⟨⟨t142, t143, t146⟩, A40, H⟩ := H
  replace H : (some (t142, t143, t146)) = some (r1, r2, r3) := H
  have A4 := Aside0.mk A40
  clear A40
  simp only [Option.some.injEq, Prod.mk.injEq] at H
  obtain ⟨rfl, rfl, rfl⟩ := H
  go_enter Try.func25, Try.ntmps25
  go_wp2_with (first | ((with_reducible refine gate_callee (f := 31) rfl ?_); refine goesL_ (some 10) rfl rfl Try.func31 (by kernel_rfl) rfl #[.pointer (some ⟨g, 0, none⟩), .int .i64 a1, .int .i64 a2] rfl (by (try simp only [List.map_toArray, List.map_cons, List.map_nil]); first | done | rfl | (simp only [List.length_drop, List.length_take]; rfl)) ?_; (with_reducible refine (mem_Memory_there.calls g (fun k_ => some k_ = (u9000_ : Value).ownBlock) u9000_ l0_0 s0_1 a1 a2 t142 t143 t146 w0 _ ?side1 ?side2 ?side3 A4.out).mono ?_); (case side1 => repeat (first | (with_reducible first | exact HI0.out | apply IsS72.alloc | apply IsS72.drewN | apply IsS72.drew | apply IsS72.set_0 | apply IsS72.set_1) | exact HI0.out)); (case side2 => repeat (first | (with_reducible first | exact HB.out | apply below_alloc | apply pw_below_drewN | apply below_drew1 | refine below_set ?_ (IsS72.ge HI0.out)) | exact HB.out)); (case side3 => exact Kd.R_tight rfl HO0_0.out); rintro e w5 ⟨v144, rfl, ho0, hi, hb, hkp⟩; refine ⟨_, rfl, ?_⟩; have n0_ := Aside0.mk (hi); have n1_ := Aside0.mk (Kd.R_mono (ok' := fun k_ => (P0_0_ k_ ∨ w.heap.size ≤ k_)) ho0 (fun k_ hk_ => Or.elim hk_ (fun hs_ => (HO0_0.out.1 k_ (hs_).symm)) (fun hn_ => (.inr (Nat.le_trans (by first | exact HK.out.1 | exact (show Kept w _ (fun k_ => (P0_0_ k_) ∨ k_ = g) from by repeat (first | (with_reducible first | exact HK.out | apply Kept.alloc | apply Kept.drewN | apply Kept.drew | refine Kept.setCell ?_ (.inl (.inr rfl)) _) | exact HK.out)).1) hn_))))); have n2_ := Aside0.mk (Kept.then_ (S := (fun k_ => (P0_0_ k_) ∨ k_ = g)) (by repeat (first | (with_reducible first | exact HK.out | apply Kept.alloc | apply Kept.drewN | apply Kept.drew | refine Kept.setCell ?_ (.inl (.inr rfl)) _) | exact HK.out)) hkp (fun k_ hs_ => Or.elim hs_ (fun hs_ => (fun e_ => Or.imp_left Or.inl ((HO0_0.out.1 k_ e_.symm))) hs_) (fun e_ => .inl (.inr e_)))); have n3_ := Aside0.mk (hb); clear HI0; clear HK; clear HB; clear HO0_0; have HI0 := n0_; have HO145 := n1_; have HK := n2_; have HB := n3_; clear n0_ n1_ n2_ n3_; (try clear hb); (try clear hkp); (try clear ho0)))
  go_ret
  exact ⟨_, by first | rfl | (simp [errW_none, errW_some] <;> rfl) | (simp [*, errW_none, errW_some] <;> rfl), by (with_reducible repeat (first | apply Kd.R_alloc | apply Kd.R_drewN | apply Kd.R_drew)); exact HO145.out, by repeat (first | (with_reducible first | exact HI0.out | apply IsS72.alloc | apply IsS72.drewN | apply IsS72.drew | apply IsS72.set_0 | apply IsS72.set_1) | exact HI0.out), by repeat (first | (with_reducible first | exact HB.out | apply below_alloc | apply pw_below_drewN | apply below_drew1 | refine below_set ?_ (IsS72.ge HI0.out)) | exact HB.out), by repeat (first | (with_reducible first | exact HK.out | apply Kept.alloc | apply Kept.drewN | apply Kept.drew | refine Kept.setCell ?_ (.inl (.inr rfl)) _) | exact HK.out)⟩

end Go.Proofs.Ytdoaininjfbemaa.PAll
