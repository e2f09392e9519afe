/- Printed by a copy of the printer that was turned for this claim: functions as plain Lean functions, with proofs that their calls come to these; or words that such proofs use. -/
import Derived.Test.YtjpnjbpbajaloaaPAllx0
import Derived.Test.YtjpnjbpbajaloaaPAllx1
import Derived.Test.YtjpnjbpbajaloaaPAllx2
import Derived.Test.YtjpnjbpbajaloaaPAllx4
import Derived.Test.YtjpnjbpbajaloaaPAllx5
namespace Go.Proofs.Ytjpnjbpbajaloaa.PAll
open Go.RowKit Go.Proofs.YtjpnjbpbajaloaaW.PrintWords Go.Proofs.YtjpnjbpbajaloaaW.PrintLast Go.Proofs.YtjpnjbpbajaloaaW.PrintMore
attribute [local go_sem] max2_int min2_int max_two min_two max_three min_three max_four min_four   -- for this text's walks alone
set_option linter.unusedVariables false
set_option linter.unusedSimpArgs false


/-! ### feed_Feed_Stdin: function 22 (by hand) -/
def feed_Feed_Stdin.f (l0_0 : List Int) (l0_1 : List Int) (l0_2 : List Int) (a1 : Int) : Option (List Int × Int × List Int × List Int × List Int) :=
  if 0 ≤ a1 ∧ a1 ≤ 1048576 then some (l0_2.take a1.toNat, 0, l0_0, l0_1, l0_2.drop (min a1.toNat l0_2.length)) else some ([], 100, l0_0, l0_1, l0_2)
set_option maxHeartbeats 8000000 in
set_option maxRecDepth 100000 in
theorem feed_Feed_Stdin.next_ (j g : Nat) (n : Int) (A : Option Addr) (l : List Int) (c : Nat) (cs : Array Value) (base : Nat) (ok : Nat → Prop) (w : World) (hg : w.heap[g]? = some (.cells cs 55 (0, 0))) (hj : cs[j]? = some (.slice A l.length c)) (ho : Kd.Q (Kd.int .u8) 5 w base ok (.slice A l.length c) l) (h0 : 0 ≤ n) (h1 : n < 140737488355328) :
    Calls Try.prog 31 #[.pointer (some ⟨g, j, none⟩), .int .i64 n] w fun e w' => ∃ (v v1 : Value) (w1 : World), e = .returned v ∧ Below w.heap.size w w1 ∧ Kd.R (Kd.int .u8) 5 w1 w.heap.size (fun _ => True) v (l.take n.toNat) ∧ Kd.Q (Kd.int .u8) 5 w1 base ok v1 (l.drop (min n.toNat l.length)) ∧ v1.ownBlock = (.slice A l.length c : Value).ownBlock ∧ w' = w1.setCell ⟨g, j, none⟩ v1 := by
  obtain ⟨m, hm⟩ : ∃ m : Int, (if (l.length : Int) < n then (l.length : Int) else n) = m := ⟨_, rfl⟩
  have hm0 : 0 ≤ m := by rw [← hm]; split <;> omega
  have hm1 : m ≤ (l.length : Int) := by rw [← hm]; split <;> omega
  have hmn : m.toNat = min n.toNat l.length := by rw [← hm]; split <;> omega
  have hc0 : w.cell? ⟨g, j, none⟩ = some (.slice A l.length c) := (blk_cell hg j).trans hj
  have hf0 := blk_frozen hg j
  obtain ⟨i5, hi5, _, hsz5, _⟩ := info_parts info5
  have hq := Kd.Q_reads' ho
  have hcut1 := cut_to (P := Try.prog) 23 5 .i64 Try.underlying23 hi5 A l.length c m hm0 hm1 hq.2.1
  have hcut2 := cut_from (P := Try.prog) 23 5 .i64 Try.underlying23 hi5 1 hsz5 A l.length c m hm0 hm1
  obtain ⟨y, hy⟩ : ∃ y : List Int, y = l.take m.toNat := ⟨_, rfl⟩
  have hyl : y.length = m.toNat := by rw [hy, List.length_take]; omega
  have hyt : y = l.take n.toNat := by
    rw [hy, hmn]
    rcases Nat.le_total n.toNat l.length with h | h
    · rw [Nat.min_eq_left h]
    · rw [Nat.min_eq_right h, List.take_of_length_le (Nat.le_refl _), List.take_of_length_le h]
  rw [← hyl] at hcut1
  have hC : Kd.C (Kd.int .u8) w A y.length y := by rw [hy]; exact Kd.C_take hq.2.2 (by omega)
  have hyc : y.length ≤ c := by omega
  have hcl : slices_Clone_byte_byte.f y = some y := by
    unfold slices_Clone_byte_byte.f
    simp only [Option.bind_some, List.length_nil, Nat.zero_add, List.nil_append]
    exact if_pos (by omega)
  have hd := Kd.Q_drop (k := m.toNat) ho (by omega)
  obtain ⟨A1, hA1⟩ : ∃ A1, A1 = (if c = m.toNat then A else (A : Option Addr).map (·.add (m.toNat * 1))) := ⟨_, rfl⟩
  obtain ⟨n1, hn1⟩ : ∃ n1, n1 = l.length - m.toNat := ⟨_, rfl⟩
  obtain ⟨c1, hc1⟩ : ∃ c1, c1 = c - m.toNat := ⟨_, rfl⟩
  rw [← hA1, ← hn1, ← hc1] at hcut2
  have hd1 : Kd.Q (Kd.int .u8) 5 w base ok (.slice A1 n1 c1) (l.drop m.toNat) := by rw [hA1, hn1, hc1]; exact hd
  have hob : (.slice A1 n1 c1 : Value).ownBlock = (.slice A l.length c : Value).ownBlock := by
    rw [hA1]
    split
    · cases A <;> rfl
    · cases A with
      | none => rfl
      | some z => simp [Value.ownBlock, add_block]
  have HC := Aside0.mk hC
  have HY := Aside0.mk hyc
  have HL := Aside0.mk hcl
  have HG := Aside0.mk hg
  have HD := Aside0.mk hd1
  have HT := Aside0.mk hyt
  have HB := Aside0.mk hob
  have HJ := Aside0.mk hj
  have HM := Aside0.mk hmn
  clear hyl hC hyc hcl hg hd1 hd hyt hob hA1 hn1 hc1 hq hy hj hmn hi5 hsz5 ho
  go_enter Try.func31, Try.ntmps31
  go_wp2_with (first
    | ((with_reducible refine gate_callee (f := 26) rfl ?_); refine goesL_ (some 17) rfl rfl Try.func26 (by kernel_rfl) rfl #[.slice A y.length c] rfl (by (try simp only [List.map_toArray, List.map_cons, List.map_nil]); first | done | rfl | (simp only [List.length_drop, List.length_take]; rfl)) ?_
       (with_reducible refine (slices_Clone_byte_byte.calls A c y y _ HC.out HY.out HL.out).mono ?_)
       rintro e w1 ⟨v, rfl, hr, hb⟩
       refine ⟨_, rfl, ?_⟩
       have hg1 := blk_below (o := .cells cs 55 (0, 0)) HG.out hb
       have hcz1 : w1.cell? ⟨g, j, none⟩ = some (.slice A l.length c) := (blk_cell hg1 j).trans HJ.out
       have hf1 := blk_frozen hg1 j
       have HR := Aside0.mk hr
       have HBL := Aside0.mk hb
       have HD1 := Aside0.mk (Kd.Q_below HD.out hb)
       clear hr hb hg1))

  go_ret
  exact ⟨_, .slice A1 n1 c1, _, rfl, HBL.out, by rw [← HT.out]; exact HR.out, by rw [← HM.out]; exact HD1.out, HB.out, rfl⟩
theorem feed_Feed_Stdin.tight2_ {α : Type} {d : Kd α} {e base : Nat} {ok : Nat → Prop} {W : World} {v : Value} {xs : List α} (h : d.Q e W base ok v xs) (hE : d.E = [] := by rfl) : d.Q e W base (fun k => some k = v.ownBlock ∧ ok k) v xs := Kd.Q_mono (Kd.Q_tight hE h) (fun k hk => ⟨hk, h.1 k hk.symm⟩)
set_option maxHeartbeats 4000000 in
theorem feed_Feed_Stdin.nextf_ (g : Nat) (P0_0_ : Nat → Prop) (u9000_ : Value) (l0_0 : List Int) (P0_1_ : Nat → Prop) (u9001_ : Value) (l0_1 : List Int) (P0_2_ : Nat → Prop) (u9002_ : Value) (l0_2 : List Int) (a1 : Int) (w0 w : World) (hI : IsS55 w0 w g u9000_ u9001_ u9002_) (hB : Below w0.heap.size w0 w) (ho0_0 : Kd.Q (Kd.int .i64) 2 w w0.heap.size P0_0_ u9000_ l0_0) (ho0_1 : Kd.Q (Kd.int .u8) 5 w w0.heap.size P0_1_ u9001_ l0_1) (hp0_1_0_2 : ∀ k_, P0_1_ k_ → ¬ P0_2_ k_) (ho0_2 : Kd.Q (Kd.int .u8) 5 w w0.heap.size P0_2_ u9002_ l0_2) (hp0_2_0_1 : ∀ k_, P0_2_ k_ → ¬ P0_1_ k_) (h0 : 0 ≤ a1) (h1 : a1 < 140737488355328) :
    Calls Try.prog 31 #[.pointer (some ⟨g, 2, none⟩), .int .i64 a1] w fun e w' => ∃ v0_ v2_ v3_ v4_ : Value, e = .returned (v0_) ∧ Kd.R (Kd.int .u8) 5 w' w0.heap.size (fun k_ => ((P0_0_ k_ ∨ P0_1_ k_ ∨ P0_2_ k_) ∨ w.heap.size ≤ k_) ∧ some k_ ≠ (v3_ : Value).ownBlock ∧ some k_ ≠ (v4_ : Value).ownBlock) v0_ (l0_2.take a1.toNat) ∧ Kd.Q (Kd.int .i64) 2 w' w0.heap.size (fun k_ => ((P0_0_ k_ ∨ P0_1_ k_ ∨ P0_2_ k_) ∨ w.heap.size ≤ k_)) v2_ l0_0 ∧ Kd.Q (Kd.int .u8) 5 w' w0.heap.size (fun k_ => ((P0_0_ k_ ∨ P0_1_ k_ ∨ P0_2_ k_) ∨ w.heap.size ≤ k_) ∧ some k_ ≠ (v0_ : Value).ownBlock ∧ some k_ ≠ (v4_ : Value).ownBlock) v3_ l0_1 ∧ Kd.Q (Kd.int .u8) 5 w' w0.heap.size (fun k_ => ((P0_0_ k_ ∨ P0_1_ k_ ∨ P0_2_ k_) ∨ w.heap.size ≤ k_) ∧ some k_ ≠ (v0_ : Value).ownBlock ∧ some k_ ≠ (v3_ : Value).ownBlock) v4_ (l0_2.drop (min a1.toNat l0_2.length)) ∧ IsS55 w0 w' g v2_ v3_ v4_ ∧ Below w0.heap.size w0 w' ∧ Kept w w' (fun k_ => (P0_0_ k_ ∨ P0_1_ k_ ∨ P0_2_ k_) ∨ k_ = g) := by
  obtain ⟨A, c, rfl, _⟩ := Kd.Q_slice ho0_2
  have hlt0 := Kd.Q_lt ho0_0
  have hlt1 := Kd.Q_lt ho0_1
  have hlt2 := Kd.Q_lt ho0_2
  have hgl := hI.lt
  refine (feed_Feed_Stdin.next_ 2 g a1 A l0_2 c _ w0.heap.size P0_2_ w hI.1 rfl ho0_2 h0 h1).mono ?_
  rintro e w' ⟨v, v1, w1, rfl, hb, hr, hq, hob, rfl⟩
  have hI1 := hI.below hb
  have hbase := Kd.R_base hr
  have q0 := Kd.Q_below ho0_0 hb
  have q1 := Kd.Q_below ho0_1 hb
  have q2 := hq
  have hne : ∀ (x : Value), (∀ k, x.ownBlock = some k → k < w.heap.size) → ∀ k, x.ownBlock = some k → some k ≠ v.ownBlock := fun x hx k hk e => by
    have := hbase k e.symm
    have := hx k hk
    omega
  have lt1 : ∀ k, (u9001_ : Value).ownBlock = some k → k < w.heap.size := hlt1
  have lt2 : ∀ k, (v1 : Value).ownBlock = some k → k < w.heap.size := by rw [hob]; exact hlt2
  have t1 := feed_Feed_Stdin.tight2_ q1
  have t2 := feed_Feed_Stdin.tight2_ q2
  refine ⟨v, u9000_, u9001_, v1, rfl, ?_, ?_, ?_, ?_, ?_, ?_, ?_⟩
  · refine Kd.R_lower (Kd.R_mono (Kd.R_far (p := ⟨g, 2, none⟩) (Kd.R_mono (ok' := fun k => w.heap.size ≤ k) (Kd.R_bound hr) (fun k hk => hk.2.1)) (fun k hk e => by have : k = g := e; omega) v1) (fun k hk => ⟨.inr hk, fun e => ?_, fun e => ?_⟩)) hB.size
    · have := lt1 k e.symm; omega
    · have := lt2 k e.symm; omega
  · exact Kd.Q_mono (Kd.Q_far (p := ⟨g, 2, none⟩) (IsS55.apartQ hI1 q0 (by decide)) (fun _ hk => hk.2) v1) (fun k hk => .inl (.inl hk.1))
  · exact Kd.Q_mono (Kd.Q_far (p := ⟨g, 2, none⟩) (IsS55.apartQ hI1 t1 (by decide)) (fun _ hk => hk.2) v1) (fun k hk => ⟨.inl (.inr (.inl hk.1.2)), hne _ lt1 k hk.1.1.symm, fun e => hp0_1_0_2 k hk.1.2 (q2.1 k e.symm)⟩)
  · exact Kd.Q_mono (Kd.Q_far (p := ⟨g, 2, none⟩) (IsS55.apartQ hI1 t2 (by decide)) (fun _ hk => hk.2) v1) (fun k hk => ⟨.inl (.inr (.inr hk.1.2)), hne _ lt2 k hk.1.1.symm, fun e => hp0_2_0_1 k hk.1.2 (q1.1 k e.symm)⟩)
  · exact IsS55.set_2 hI1 v1
  · exact below_set (below_step hB hb) hI1.ge
  · exact Kept.setCell (Kept.of_below hb _) (.inl (.inr rfl)) v1
set_option maxHeartbeats 8000000 in
set_option maxRecDepth 100000 in
theorem feed_Feed_Stdin.calls (g : Nat) (P0_0_ : Nat → Prop) (u9000_ : Value) (l0_0 : List Int) (P0_1_ : Nat → Prop) (u9001_ : Value) (l0_1 : List Int) (P0_2_ : Nat → Prop) (u9002_ : Value) (l0_2 : List Int) (a1 : Int) (r1 : List Int) (r2 : Int) (r3 : List Int) (r4 : List Int) (r5 : List Int) (w0 w : World) (hI : IsS55 w0 w g u9000_ u9001_ u9002_) (hB : Below w0.heap.size w0 w) (ho0_0 : Kd.Q (Kd.int .i64) 2 w w0.heap.size P0_0_ u9000_ l0_0) (ho0_1 : Kd.Q (Kd.int .u8) 5 w w0.heap.size P0_1_ u9001_ l0_1) (hp0_1_0_2 : ∀ k_, P0_1_ k_ → ¬ P0_2_ k_) (ho0_2 : Kd.Q (Kd.int .u8) 5 w w0.heap.size P0_2_ u9002_ l0_2) (hp0_2_0_1 : ∀ k_, P0_2_ k_ → ¬ P0_1_ k_) (h : feed_Feed_Stdin.f l0_0 l0_1 l0_2 a1 = some (r1, r2, r3, r4, r5)) :
    Calls Try.prog 22 #[.pointer (some ⟨g, 0, none⟩), .int .i64 a1] w fun e w' => ∃ v0_ v2_ v3_ v4_ : Value, e = .returned (.tuple #[v0_, .int .i64 r2]) ∧ Kd.R (Kd.int .u8) 5 w' w0.heap.size (fun k_ => ((P0_0_ k_ ∨ P0_1_ k_ ∨ P0_2_ k_) ∨ w.heap.size ≤ k_) ∧ some k_ ≠ (v3_ : Value).ownBlock ∧ some k_ ≠ (v4_ : Value).ownBlock) v0_ r1 ∧ Kd.Q (Kd.int .i64) 2 w' w0.heap.size (fun k_ => ((P0_0_ k_ ∨ P0_1_ k_ ∨ P0_2_ k_) ∨ w.heap.size ≤ k_)) v2_ r3 ∧ Kd.Q (Kd.int .u8) 5 w' w0.heap.size (fun k_ => ((P0_0_ k_ ∨ P0_1_ k_ ∨ P0_2_ k_) ∨ w.heap.size ≤ k_) ∧ some k_ ≠ (v0_ : Value).ownBlock ∧ some k_ ≠ (v4_ : Value).ownBlock) v3_ r4 ∧ Kd.Q (Kd.int .u8) 5 w' w0.heap.size (fun k_ => ((P0_0_ k_ ∨ P0_1_ k_ ∨ P0_2_ k_) ∨ w.heap.size ≤ k_) ∧ some k_ ≠ (v0_ : Value).ownBlock ∧ some k_ ≠ (v3_ : Value).ownBlock) v4_ r5 ∧ IsS55 w0 w' g v2_ v3_ v4_ ∧ Below w0.heap.size w0 w' ∧ Kept w w' (fun k_ => (P0_0_ k_ ∨ P0_1_ k_ ∨ P0_2_ k_) ∨ k_ = g) := by
  by_cases hc : 0 ≤ a1 ∧ a1 ≤ 1048576
  · simp only [feed_Feed_Stdin.f, if_pos hc, Option.some.injEq, Prod.mk.injEq] at h
    obtain ⟨rfl, rfl, rfl, rfl, rfl⟩ := h
    have hgd : feed_good.f a1 = some true := by
      unfold feed_good.f
      rw [if_pos hc.1]
      congr 1
      exact decide_eq_true hc.2
    have HGd := Aside0.mk hgd
    have HC := Aside0.mk (show 0 ≤ a1 ∧ a1 ≤ 1048576 from hc)
    have HN := Aside0.mk (fun W1 (hI1 : IsS55 w0 W1 g u9000_ u9001_ u9002_) (hB1 : Below w0.heap.size w0 W1) (h0 : Kd.Q (Kd.int .i64) 2 W1 w0.heap.size P0_0_ u9000_ l0_0) (h1 : Kd.Q (Kd.int .u8) 5 W1 w0.heap.size P0_1_ u9001_ l0_1) (h2 : Kd.Q (Kd.int .u8) 5 W1 w0.heap.size P0_2_ u9002_ l0_2) => feed_Feed_Stdin.nextf_ g P0_0_ u9000_ l0_0 P0_1_ u9001_ l0_1 P0_2_ u9002_ l0_2 a1 w0 W1 hI1 hB1 h0 h1 hp0_1_0_2 h2 hp0_2_0_1 hc.1 (by omega))
    have X0 := Aside0.mk ho0_0
    have X1 := Aside0.mk ho0_1
    have X2 := Aside0.mk ho0_2
    have HI := Aside0.mk hI
    have HB := Aside0.mk hB
    clear hI hB ho0_0 ho0_1 ho0_2 hp0_1_0_2 hp0_2_0_1 hgd hc
    go_enter Try.func22, Try.ntmps22
    go_wp2_with (first
      | ((with_reducible refine gate_callee (f := 30) rfl ?_); refine goesL_ (some 7) rfl rfl Try.func30 (by kernel_rfl) rfl #[.int .i64 a1] rfl (by (try simp only [List.map_toArray, List.map_cons, List.map_nil]); first | done | rfl | (simp only [List.length_drop, List.length_take]; rfl)) ?_
         (with_reducible refine (feed_good.calls a1 true _ HGd.out).mono ?_)
         rintro e w1 ⟨rfl, ⟨nd, rfl⟩⟩
         refine ⟨_, rfl, ?_⟩
         obtain ⟨HGz, _⟩ := (show IsS55 w0 (w.drewN nd) g u9000_ u9001_ u9002_ from HI.out)
         have hcz0 := cellS55_0 HGz
         have hcz1 := cellS55_1 HGz
         have hcz2 := cellS55_2 HGz
         clear HGz)
      | ((with_reducible refine gate_callee (f := 31) rfl ?_); refine goesL_ (some 13) rfl rfl Try.func31 (by kernel_rfl) rfl #[.pointer (some ⟨g, 2, none⟩), .int .i64 a1] rfl (by (try simp only [List.map_toArray, List.map_cons, List.map_nil]); first | done | rfl | (simp only [List.length_drop, List.length_take]; rfl)) ?_
         (with_reducible refine (HN.out _ ?i1 ?i2 ?i3 ?i4 ?i5).mono ?_)
         (case i1 => repeat (first | (with_reducible first | exact HI.out | apply IsS55.alloc | apply IsS55.drewN | apply IsS55.drew) | exact HI.out))
         (case i2 => repeat (first | (with_reducible first | exact HB.out | apply below_alloc | apply pw_below_drewN | apply below_drew1) | exact HB.out))
         (case i3 => (with_reducible repeat (first | apply Kd.Q_alloc | apply Kd.Q_drewN | apply Kd.Q_drew)); exact X0.out)
         (case i4 => (with_reducible repeat (first | apply Kd.Q_alloc | apply Kd.Q_drewN | apply Kd.Q_drew)); exact X1.out)
         (case i5 => (with_reducible repeat (first | apply Kd.Q_alloc | apply Kd.Q_drewN | apply Kd.Q_drew)); exact X2.out)
         rintro e w2 ⟨v0, v2, v3, v4, rfl, hr, hc, hx, hy, hi, hb, hk⟩
         refine ⟨_, rfl, ?_⟩
         have Y := Aside0.mk (And.intro hr (And.intro hc (And.intro hx (And.intro hy (And.intro hi (And.intro hb hk))))))
         clear hr hc hx hy hi hb hk))
    go_ret2
    exact ⟨_, _, _, _, rfl, Y.out.1, Y.out.2.1, Y.out.2.2.1, Y.out.2.2.2.1, Y.out.2.2.2.2.1, Y.out.2.2.2.2.2.1, Y.out.2.2.2.2.2.2⟩
  · simp only [feed_Feed_Stdin.f, if_neg hc, Option.some.injEq, Prod.mk.injEq] at h
    obtain ⟨rfl, rfl, rfl, rfl, rfl⟩ := h
    have hgd : feed_good.f a1 = some false := by
      unfold feed_good.f
      by_cases h1 : a1 ≥ 0
      · rw [if_pos h1]
        congr 1
        exact decide_eq_false (by omega)
      · rw [if_neg h1]
    have HGd := Aside0.mk hgd
    have hx0 : Kd.Q (Kd.int .i64) 2 w w0.heap.size (fun k_ => ((P0_0_ k_ ∨ P0_1_ k_ ∨ P0_2_ k_) ∨ w.heap.size ≤ k_)) u9000_ l0_0 := Kd.Q_mono ho0_0 (fun k hk => .inl (.inl hk))
    have hx1 : Kd.Q (Kd.int .u8) 5 w w0.heap.size (fun k_ => ((P0_0_ k_ ∨ P0_1_ k_ ∨ P0_2_ k_) ∨ w.heap.size ≤ k_) ∧ some k_ ≠ (Value.slice none 0 0).ownBlock ∧ some k_ ≠ (u9002_ : Value).ownBlock) u9001_ l0_1 := Kd.Q_mono ho0_1 (fun k hk => ⟨.inl (.inr (.inl hk)), by simp [Value.ownBlock], fun e => hp0_1_0_2 k hk (ho0_2.1 k e.symm)⟩)
    have hx2 : Kd.Q (Kd.int .u8) 5 w w0.heap.size (fun k_ => ((P0_0_ k_ ∨ P0_1_ k_ ∨ P0_2_ k_) ∨ w.heap.size ≤ k_) ∧ some k_ ≠ (Value.slice none 0 0).ownBlock ∧ some k_ ≠ (u9001_ : Value).ownBlock) u9002_ l0_2 := Kd.Q_mono ho0_2 (fun k hk => ⟨.inl (.inr (.inr hk)), by simp [Value.ownBlock], fun e => hp0_2_0_1 k hk (ho0_1.1 k e.symm)⟩)
    have X0 := Aside0.mk hx0
    have X1 := Aside0.mk hx1
    have X2 := Aside0.mk hx2
    have HI := Aside0.mk hI
    have HB := Aside0.mk hB
    clear hx0 hx1 hx2 hI hB ho0_0 ho0_1 ho0_2 hp0_1_0_2 hp0_2_0_1 hgd hc
    go_enter Try.func22, Try.ntmps22
    go_wp2_with (first
      | ((with_reducible refine gate_callee (f := 30) rfl ?_); refine goesL_ (some 7) rfl rfl Try.func30 (by kernel_rfl) rfl #[.int .i64 a1] rfl (by (try simp only [List.map_toArray, List.map_cons, List.map_nil]); first | done | rfl | (simp only [List.length_drop, List.length_take]; rfl)) ?_
         (with_reducible refine (feed_good.calls a1 false _ HGd.out).mono ?_)
         rintro e w1 ⟨rfl, ⟨nd, rfl⟩⟩
         refine ⟨_, rfl, ?_⟩))
    go_ret2
    exact ⟨_, _, _, _, rfl, Kd.R_nil _ _ _ _ _, by (with_reducible repeat (first | apply Kd.Q_alloc | apply Kd.Q_drewN | apply Kd.Q_drew)); exact X0.out, by (with_reducible repeat (first | apply Kd.Q_alloc | apply Kd.Q_drewN | apply Kd.Q_drew)); exact X1.out, by (with_reducible repeat (first | apply Kd.Q_alloc | apply Kd.Q_drewN | apply Kd.Q_drew)); exact X2.out, by repeat (first | (with_reducible first | exact HI.out | apply IsS55.alloc | apply IsS55.drewN | apply IsS55.drew) | exact HI.out), by repeat (first | (with_reducible first | exact HB.out | apply below_alloc | apply pw_below_drewN | apply below_drew1) | exact HB.out), by repeat (first | (with_reducible first | exact Kept.refl _ _ | apply Kept.alloc | apply Kept.drewN | apply Kept.drew) | exact Kept.refl _ _)⟩


/-! ### feed_Feed_rest: function 32 -/
def feed_Feed_rest.f (l0_0 : List Int) (l0_1 : List Int) (l0_2 : List Int) : Option (Int × List Int × List Int × List Int) := some ((l0_2.length : Int), l0_0, l0_1, l0_2)
set_option maxHeartbeats 8000000 in
set_option maxRecDepth 100000 in
theorem feed_Feed_rest.calls (g : Nat) (P0_0_ : Nat → Prop) (u9000_ : Value) (l0_0 : List Int) (P0_1_ : Nat → Prop) (u9001_ : Value) (l0_1 : List Int) (P0_2_ : Nat → Prop) (u9002_ : Value) (l0_2 : List Int) (r1 : Int) (r2 : List Int) (r3 : List Int) (r4 : List Int) (w0 w : World) (hI : IsS55 w0 w g u9000_ u9001_ u9002_) (hB : Below w0.heap.size w0 w) (ho0_0 : Kd.Q (Kd.int .i64) 2 w w0.heap.size P0_0_ u9000_ l0_0) (ho0_1 : Kd.Q (Kd.int .u8) 5 w w0.heap.size P0_1_ u9001_ l0_1) (hp0_1_0_2 : ∀ k_, P0_1_ k_ → ¬ P0_2_ k_) (ho0_2 : Kd.Q (Kd.int .u8) 5 w w0.heap.size P0_2_ u9002_ l0_2) (hp0_2_0_1 : ∀ k_, P0_2_ k_ → ¬ P0_1_ k_) (h : feed_Feed_rest.f l0_0 l0_1 l0_2 = some (r1, r2, r3, r4)) :
    Calls Try.prog 32 #[.pointer (some ⟨g, 0, none⟩)] w fun e w' => ∃ v1_ v2_ v3_ : Value, e = .returned (.int .i64 r1) ∧ Kd.Q (Kd.int .i64) 2 w' w0.heap.size (fun k_ => ((P0_0_ k_ ∨ P0_1_ k_ ∨ P0_2_ k_) ∨ w.heap.size ≤ k_)) v1_ r2 ∧ Kd.Q (Kd.int .u8) 5 w' w0.heap.size (fun k_ => ((P0_0_ k_ ∨ P0_1_ k_ ∨ P0_2_ k_) ∨ w.heap.size ≤ k_) ∧ some k_ ≠ (v3_ : Value).ownBlock) v2_ r3 ∧ Kd.Q (Kd.int .u8) 5 w' w0.heap.size (fun k_ => ((P0_0_ k_ ∨ P0_1_ k_ ∨ P0_2_ k_) ∨ w.heap.size ≤ k_) ∧ some k_ ≠ (v2_ : Value).ownBlock) v3_ r4 ∧ IsS55 w0 w' g v1_ v2_ v3_ ∧ Below w0.heap.size w0 w' ∧ Kept w w' (fun k_ => (P0_0_ k_ ∨ P0_1_ k_ ∨ P0_2_ k_) ∨ k_ = g) := by
  have HO0_0 := Aside0.mk (show Kd.Q (Kd.int .i64) 2 w w0.heap.size (fun k_ => ((P0_0_ k_ ∨ P0_1_ k_ ∨ P0_2_ k_) ∨ w.heap.size ≤ k_)) u9000_ l0_0 from Kd.Q_mono ho0_0 (fun k_ hk => (.inl (.inl hk))))
  have HO0_1 := Aside0.mk (show Kd.Q (Kd.int .u8) 5 w w0.heap.size (fun k_ => ((P0_0_ k_ ∨ P0_1_ k_ ∨ P0_2_ k_) ∨ w.heap.size ≤ k_) ∧ some k_ ≠ (u9002_ : Value).ownBlock) u9001_ l0_1 from Kd.Q_mono ho0_1 (fun k_ hk => ⟨(.inl (.inr (.inl hk))), fun e_ => hp0_1_0_2 k_ hk (ho0_2.1 k_ e_.symm)⟩))
  have HO0_2 := Aside0.mk (show Kd.Q (Kd.int .u8) 5 w w0.heap.size (fun k_ => ((P0_0_ k_ ∨ P0_1_ k_ ∨ P0_2_ k_) ∨ w.heap.size ≤ k_) ∧ some k_ ≠ (u9001_ : Value).ownBlock) u9002_ l0_2 from Kd.Q_mono ho0_2 (fun k_ hk => ⟨(.inl (.inr (.inr hk))), fun e_ => hp0_2_0_1 k_ hk (ho0_1.1 k_ e_.symm)⟩))
  have HI0 := Aside0.mk hI
  have HL := Aside0.mk hB.size
  clear hI
  have HK := Aside0.mk (Kept.refl w (fun k_ => (P0_0_ k_ ∨ P0_1_ k_ ∨ P0_2_ k_) ∨ k_ = g))
  have HW0 := Aside0.mk hB.size
  have HB := Aside0.mk hB
  clear hB
  have H : (some ((l0_2.length : Int), l0_0, l0_1, l0_2)) = some (r1, r2, r3, r4) := h
  clear h
  simp only [Option.some.injEq, Prod.mk.injEq] at H
  obtain ⟨rfl, rfl, rfl, rfl⟩ := H
  obtain ⟨HGz2, hgz2⟩ := HI0.out
  have hcz2_0 := cellS55_0 HGz2
  have hcz2_1 := cellS55_1 HGz2
  have hcz2_2 := cellS55_2 HGz2
  have hfz2_0 := blk_frozen HGz2 0
  have hfz2_1 := blk_frozen HGz2 1
  have hfz2_2 := blk_frozen HGz2 2
  clear HGz2 hgz2
  obtain ⟨Ao3, co3, eo3, _⟩ := Kd.Q_slice HO0_2.out
  subst eo3
  go_enter Try.func32, Try.ntmps32
  go_wp2
  go_ret
  exact ⟨_, _, _, by first | rfl | (simp [errW_none, errW_some] <;> rfl) | (simp [*, errW_none, errW_some] <;> rfl), by (with_reducible repeat (first | apply Kd.Q_alloc | apply Kd.Q_drewN | apply Kd.Q_drew)); exact HO0_0.out, by (with_reducible repeat (first | apply Kd.Q_alloc | apply Kd.Q_drewN | apply Kd.Q_drew)); exact HO0_1.out, by (with_reducible repeat (first | apply Kd.Q_alloc | apply Kd.Q_drewN | apply Kd.Q_drew)); exact HO0_2.out, by repeat (first | (with_reducible first | exact HI0.out | apply IsS55.alloc | apply IsS55.drewN | apply IsS55.drew | apply IsS55.set_0 | apply IsS55.set_1 | apply IsS55.set_2) | exact HI0.out), by repeat (first | (with_reducible first | exact HB.out | apply below_alloc | apply pw_below_drewN | apply below_drew1 | refine below_set ?_ (IsS55.ge HI0.out)) | exact HB.out), by repeat (first | (with_reducible first | exact HK.out | apply Kept.alloc | apply Kept.drewN | apply Kept.drew | refine Kept.setCell ?_ (.inl (.inr rfl)) _) | exact HK.out)⟩

/-! ### feed_Feed_Left: function 23 -/
def feed_Feed_Left.f (l0_0 : List Int) (l0_1 : List Int) (l0_2 : List Int) : Option (Int × List Int × List Int × List Int) := (feed_Feed_rest.f l0_0 l0_1 l0_2).bind fun bt303 => (some (bt303.1, bt303.2.1, bt303.2.2.1, bt303.2.2.2))
set_option maxHeartbeats 8000000 in
set_option maxRecDepth 100000 in
theorem feed_Feed_Left.calls (g : Nat) (P0_0_ : Nat → Prop) (u9000_ : Value) (l0_0 : List Int) (P0_1_ : Nat → Prop) (u9001_ : Value) (l0_1 : List Int) (P0_2_ : Nat → Prop) (u9002_ : Value) (l0_2 : List Int) (r1 : Int) (r2 : List Int) (r3 : List Int) (r4 : List Int) (w0 w : World) (hI : IsS55 w0 w g u9000_ u9001_ u9002_) (hB : Below w0.heap.size w0 w) (ho0_0 : Kd.Q (Kd.int .i64) 2 w w0.heap.size P0_0_ u9000_ l0_0) (ho0_1 : Kd.Q (Kd.int .u8) 5 w w0.heap.size P0_1_ u9001_ l0_1) (hp0_1_0_2 : ∀ k_, P0_1_ k_ → ¬ P0_2_ k_) (ho0_2 : Kd.Q (Kd.int .u8) 5 w w0.heap.size P0_2_ u9002_ l0_2) (hp0_2_0_1 : ∀ k_, P0_2_ k_ → ¬ P0_1_ k_) (h : feed_Feed_Left.f l0_0 l0_1 l0_2 = some (r1, r2, r3, r4)) :
    Calls Try.prog 23 #[.pointer (some ⟨g, 0, none⟩)] w fun e w' => ∃ v1_ v2_ v3_ : Value, e = .returned (.int .i64 r1) ∧ Kd.Q (Kd.int .i64) 2 w' w0.heap.size (fun k_ => ((P0_0_ k_ ∨ P0_1_ k_ ∨ P0_2_ k_) ∨ w.heap.size ≤ k_)) v1_ r2 ∧ Kd.Q (Kd.int .u8) 5 w' w0.heap.size (fun k_ => ((P0_0_ k_ ∨ P0_1_ k_ ∨ P0_2_ k_) ∨ w.heap.size ≤ k_) ∧ some k_ ≠ (v3_ : Value).ownBlock) v2_ r3 ∧ Kd.Q (Kd.int .u8) 5 w' w0.heap.size (fun k_ => ((P0_0_ k_ ∨ P0_1_ k_ ∨ P0_2_ k_) ∨ w.heap.size ≤ k_) ∧ some k_ ≠ (v2_ : Value).ownBlock) v3_ r4 ∧ IsS55 w0 w' g v1_ v2_ v3_ ∧ Below w0.heap.size w0 w' ∧ Kept w w' (fun k_ => (P0_0_ k_ ∨ P0_1_ k_ ∨ P0_2_ k_) ∨ k_ = g) := by
  have HO0_0 := Aside0.mk (show Kd.Q (Kd.int .i64) 2 w w0.heap.size (fun k_ => ((P0_0_ k_ ∨ P0_1_ k_ ∨ P0_2_ k_) ∨ w.heap.size ≤ k_)) u9000_ l0_0 from Kd.Q_mono ho0_0 (fun k_ hk => (.inl (.inl hk))))
  have HO0_1 := Aside0.mk (show Kd.Q (Kd.int .u8) 5 w w0.heap.size (fun k_ => ((P0_0_ k_ ∨ P0_1_ k_ ∨ P0_2_ k_) ∨ w.heap.size ≤ k_) ∧ some k_ ≠ (u9002_ : Value).ownBlock) u9001_ l0_1 from Kd.Q_mono ho0_1 (fun k_ hk => ⟨(.inl (.inr (.inl hk))), fun e_ => hp0_1_0_2 k_ hk (ho0_2.1 k_ e_.symm)⟩))
  have HO0_2 := Aside0.mk (show Kd.Q (Kd.int .u8) 5 w w0.heap.size (fun k_ => ((P0_0_ k_ ∨ P0_1_ k_ ∨ P0_2_ k_) ∨ w.heap.size ≤ k_) ∧ some k_ ≠ (u9001_ : Value).ownBlock) u9002_ l0_2 from Kd.Q_mono ho0_2 (fun k_ hk => ⟨(.inl (.inr (.inr hk))), fun e_ => hp0_2_0_1 k_ hk (ho0_1.1 k_ e_.symm)⟩))
  have HI0 := Aside0.mk hI
  have HL := Aside0.mk hB.size
  clear hI
  have HK := Aside0.mk (Kept.refl w (fun k_ => (P0_0_ k_ ∨ P0_1_ k_ ∨ P0_2_ k_) ∨ k_ = g))
  have HW0 := Aside0.mk hB.size
  have HB := Aside0.mk hB
  clear hB
  have H : ((feed_Feed_rest.f l0_0 l0_1 l0_2).bind fun bt303 => (some (bt303.1, bt303.2.1, bt303.2.2.1, bt303.2.2.2))) = some (r1, r2, r3, r4) := h
  clear h
  replace H := Option.bind_eq_some_iff.mp H
  obtain ⟨⟨t303, t304, t307, t310⟩, A20, H⟩ := H
  replace H : (some (t303, t304, t307, t310)) = some (r1, r2, r3, r4) := H
  have A2 := Aside0.mk A20
  clear A20
  simp only [Option.some.injEq, Prod.mk.injEq] at H
  obtain ⟨rfl, rfl, rfl, rfl⟩ := H
  go_enter Try.func23, Try.ntmps23
  go_wp2_with (first | ((with_reducible refine Go.Proofs.YtjpnjbpbajaloaaO.gate_value (F := .tmp 6) rfl ?_); refine Go.Proofs.YtjpnjbpbajaloaaO.goesM_ (some 7) rfl rfl Try.func32 (by kernel_rfl) rfl #[.pointer (some ⟨g, 0, none⟩)] rfl rfl (by (try simp only [List.map_toArray, List.map_cons, List.map_nil]); first | done | rfl | (simp; done) | rfl | (simp only [List.length_drop, List.length_take]; rfl)) ?_; (with_reducible refine (feed_Feed_rest.calls g (fun k_ => some k_ = (u9000_ : Value).ownBlock) u9000_ l0_0 (fun k_ => some k_ = (u9001_ : Value).ownBlock) u9001_ l0_1 (fun k_ => some k_ = (u9002_ : Value).ownBlock) u9002_ l0_2 t303 t304 t307 t310 w0 _ ?side1 ?side2 ?side3 ?side4 ?side5 ?side6 ?side7 A2.out).mono ?_); (case side1 => repeat (first | (with_reducible first | exact HI0.out | apply IsS55.alloc | apply IsS55.drewN | apply IsS55.drew | apply IsS55.set_0 | apply IsS55.set_1 | apply IsS55.set_2) | exact HI0.out)); (case side2 => repeat (first | (with_reducible first | exact HB.out | apply below_alloc | apply pw_below_drewN | apply below_drew1 | refine below_set ?_ (IsS55.ge HI0.out)) | exact HB.out)); (case side3 => exact Kd.Q_tight rfl HO0_0.out); (case side4 => exact Kd.Q_tight rfl HO0_1.out); (case side5 => exact fun k_ e_ => (HO0_1.out.1 k_ e_.symm).2); (case side6 => exact Kd.Q_tight rfl HO0_2.out); (case side7 => exact fun k_ e_ => (HO0_2.out.1 k_ e_.symm).2); rintro e w3 ⟨v305, v308, v311, rfl, ho0, ho1, ho2, hi, hb, hkp⟩; refine ⟨_, rfl, ?_⟩; have n0_ := Aside0.mk (hi); have n1_ := Aside0.mk (Kd.Q_mono (ok' := fun k_ => ((P0_0_ k_ ∨ P0_1_ k_ ∨ P0_2_ k_) ∨ w.heap.size ≤ k_)) ho0 (fun k_ hk_ => Or.elim hk_ (fun hs_ => Or.elim hs_ (fun hs_ => (HO0_0.out.1 k_ (hs_).symm)) (fun hs_ => Or.elim hs_ (fun hs_ => (HO0_1.out.1 k_ (hs_).symm).1) (fun hs_ => (HO0_2.out.1 k_ (hs_).symm).1))) (fun hn_ => (.inr (Nat.le_trans (by first | exact HK.out.1 | exact (show Kept w _ (fun k_ => (P0_0_ k_ ∨ P0_1_ k_ ∨ P0_2_ k_) ∨ k_ = g) from by repeat (first | (with_reducible first | exact HK.out | apply Kept.alloc | apply Kept.drewN | apply Kept.drew | refine Kept.setCell ?_ (.inl (.inr rfl)) _) | exact HK.out)).1) hn_))))); have n2_ := Aside0.mk (Kd.Q_mono (ok' := fun k_ => ((P0_0_ k_ ∨ P0_1_ k_ ∨ P0_2_ k_) ∨ w.heap.size ≤ k_) ∧ some k_ ≠ (v311 : Value).ownBlock) ho1 (fun k_ hk_ => ⟨Or.elim hk_.1 (fun hs_ => Or.elim hs_ (fun hs_ => (HO0_0.out.1 k_ (hs_).symm)) (fun hs_ => Or.elim hs_ (fun hs_ => (HO0_1.out.1 k_ (hs_).symm).1) (fun hs_ => (HO0_2.out.1 k_ (hs_).symm).1))) (fun hn_ => (.inr (Nat.le_trans (by first | exact HK.out.1 | exact (show Kept w _ (fun k_ => (P0_0_ k_ ∨ P0_1_ k_ ∨ P0_2_ k_) ∨ k_ = g) from by repeat (first | (with_reducible first | exact HK.out | apply Kept.alloc | apply Kept.drewN | apply Kept.drew | refine Kept.setCell ?_ (.inl (.inr rfl)) _) | exact HK.out)).1) hn_))), hk_.2⟩)); have n3_ := Aside0.mk (Kd.Q_mono (ok' := fun k_ => ((P0_0_ k_ ∨ P0_1_ k_ ∨ P0_2_ k_) ∨ w.heap.size ≤ k_) ∧ some k_ ≠ (v308 : Value).ownBlock) ho2 (fun k_ hk_ => ⟨Or.elim hk_.1 (fun hs_ => Or.elim hs_ (fun hs_ => (HO0_0.out.1 k_ (hs_).symm)) (fun hs_ => Or.elim hs_ (fun hs_ => (HO0_1.out.1 k_ (hs_).symm).1) (fun hs_ => (HO0_2.out.1 k_ (hs_).symm).1))) (fun hn_ => (.inr (Nat.le_trans (by first | exact HK.out.1 | exact (show Kept w _ (fun k_ => (P0_0_ k_ ∨ P0_1_ k_ ∨ P0_2_ k_) ∨ k_ = g) from by repeat (first | (with_reducible first | exact HK.out | apply Kept.alloc | apply Kept.drewN | apply Kept.drew | refine Kept.setCell ?_ (.inl (.inr rfl)) _) | exact HK.out)).1) hn_))), hk_.2⟩)); have n4_ := Aside0.mk (Kept.then_ (S := (fun k_ => (P0_0_ k_ ∨ P0_1_ k_ ∨ P0_2_ k_) ∨ k_ = g)) (by repeat (first | (with_reducible first | exact HK.out | apply Kept.alloc | apply Kept.drewN | apply Kept.drew | refine Kept.setCell ?_ (.inl (.inr rfl)) _) | exact HK.out)) hkp (fun k_ hs_ => Or.elim hs_ (fun hs_ => Or.elim hs_ (fun e_ => (fun e_ => Or.imp_left Or.inl ((HO0_0.out.1 k_ e_.symm))) e_) (fun e_ => Or.elim e_ (fun e_ => (fun e_ => Or.imp_left Or.inl ((HO0_1.out.1 k_ e_.symm).1)) e_) (fun e_ => (fun e_ => Or.imp_left Or.inl ((HO0_2.out.1 k_ e_.symm).1)) e_))) (fun e_ => .inl (.inr e_)))); have n5_ := Aside0.mk (hb); clear HI0; clear HK; clear HB; clear HO0_0; clear HO0_1; clear HO0_2; have HI0 := n0_; have HO306 := n1_; have HO309 := n2_; have HO312 := n3_; have HK := n4_; have HB := n5_; clear n0_ n1_ n2_ n3_ n4_ n5_; (try clear hb); (try clear hkp); (try clear ho0); (try clear ho1); (try clear ho2)))
  go_ret
  exact ⟨_, _, _, by first | rfl | (simp [errW_none, errW_some] <;> rfl) | (simp [*, errW_none, errW_some] <;> rfl), by (with_reducible repeat (first | apply Kd.Q_alloc | apply Kd.Q_drewN | apply Kd.Q_drew)); exact HO306.out, by (with_reducible repeat (first | apply Kd.Q_alloc | apply Kd.Q_drewN | apply Kd.Q_drew)); exact HO309.out, by (with_reducible repeat (first | apply Kd.Q_alloc | apply Kd.Q_drewN | apply Kd.Q_drew)); exact HO312.out, by repeat (first | (with_reducible first | exact HI0.out | apply IsS55.alloc | apply IsS55.drewN | apply IsS55.drew | apply IsS55.set_0 | apply IsS55.set_1 | apply IsS55.set_2) | exact HI0.out), by repeat (first | (with_reducible first | exact HB.out | apply below_alloc | apply pw_below_drewN | apply below_drew1 | refine below_set ?_ (IsS55.ge HI0.out)) | exact HB.out), by repeat (first | (with_reducible first | exact HK.out | apply Kept.alloc | apply Kept.drewN | apply Kept.drew | refine Kept.setCell ?_ (.inl (.inr rfl)) _) | exact HK.out)⟩

/-! ### gangwayref23_Feed_Left: function 24 -/
def gangwayref23_Feed_Left.f (s0_0 : List Int) (s0_1 : List Int) (s0_2 : List Int) (s0_3 : Int) (s0_4 : Int) (s0_5 : Int) : Option (Int × Int × Int × Int) := some (wrap64 ((s0_2.length : Int) - s0_5), s0_3, s0_4, s0_5)
set_option maxHeartbeats 8000000 in
set_option maxRecDepth 100000 in
theorem gangwayref23_Feed_Left.calls (g : Nat) (s0_0 : List Int) (s0_1 : List Int) (s0_2 : List Int) (s0_3 : Int) (s0_4 : Int) (s0_5 : Int) (r1 : Int) (r2 : Int) (r3 : Int) (r4 : Int) (w0 w : World) (hI : IsS43 w0 w g s0_0 s0_1 s0_2 s0_3 s0_4 s0_5) (hB : Below w0.heap.size w0 w) (h : gangwayref23_Feed_Left.f s0_0 s0_1 s0_2 s0_3 s0_4 s0_5 = some (r1, r2, r3, r4)) :
    Calls Try.prog 24 #[.pointer (some ⟨g, 0, none⟩)] w fun e w' => e = .returned (.int .i64 r1) ∧ IsS43 w0 w' g s0_0 s0_1 s0_2 r2 r3 r4 ∧ Below w0.heap.size w0 w' ∧ KeepBut w w' g none := by
  have HI0 := Aside0.mk hI
  have HK := Aside0.mk (KeepBut.refl w g none)
  have HL := Aside0.mk hB.size
  clear hI
  have HW0 := Aside0.mk hB.size
  have HB := Aside0.mk hB
  clear hB
  have H : (some (wrap64 ((s0_2.length : Int) - s0_5), s0_3, s0_4, s0_5)) = some (r1, r2, r3, r4) := h
  clear h
  simp only [Option.some.injEq, Prod.mk.injEq] at H
  obtain ⟨rfl, rfl, rfl, rfl⟩ := H
  obtain ⟨ASz2_0, cSz2_0, ASz2_1, cSz2_1, ASz2_2, cSz2_2, HGz2, hgz2, HSz2_0, HSz2_1, HSz2_2⟩ := HI0.out
  have hcz2_0 := cellS43_0 HGz2
  have hcz2_1 := cellS43_1 HGz2
  have hcz2_2 := cellS43_2 HGz2
  have hcz2_3 := cellS43_3 HGz2
  have hcz2_4 := cellS43_4 HGz2
  have hcz2_5 := cellS43_5 HGz2
  have hfz2_3 := blk_frozen HGz2 3
  have hfz2_4 := blk_frozen HGz2 4
  have hfz2_5 := blk_frozen HGz2 5
  clear HGz2 hgz2
  go_enter Try.func24, Try.ntmps24
  go_wp2
  repeat (go_quiet (fail); try go_wp2)
  go_ret
  exact ⟨by first | rfl | (simp [errW_none, errW_some] <;> rfl) | (simp [*, errW_none, errW_some] <;> rfl), by repeat (first | (with_reducible first | exact HI0.out | apply IsS43.alloc | apply IsS43.drewN | apply IsS43.drew | apply IsS43.set_3 | apply IsS43.set_4 | apply IsS43.set_5) | exact HI0.out), by repeat (first | (with_reducible first | exact HB.out | apply below_alloc | apply pw_below_drewN | apply below_drew1 | refine below_set ?_ (IsS43.ge HI0.out)) | exact HB.out), by repeat (first | (with_reducible first | exact HK.out | apply KeepBut.set_ | apply keep_drewN | apply keep_drew | apply keep_alloc) | exact HK.out)⟩

end Go.Proofs.Ytjpnjbpbajaloaa.PAll
