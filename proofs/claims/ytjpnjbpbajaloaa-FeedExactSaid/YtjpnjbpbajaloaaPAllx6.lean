/- Printed by a copy of the printer that was turned for this claim: functions as plain Lean functions, with proofs that their calls come to these; or words that such proofs use. -/
import Derived.Test.YtjpnjbpbajaloaaPAllx0
import Derived.Test.YtjpnjbpbajaloaaPAllx1
import Derived.Test.YtjpnjbpbajaloaaPAllx2
import Derived.Test.YtjpnjbpbajaloaaPAllx3
import Derived.Test.YtjpnjbpbajaloaaPAllx4
import Derived.Test.YtjpnjbpbajaloaaPAllx5
namespace Go.Proofs.Ytjpnjbpbajaloaa.PAll
open Go.RowKit Go.Proofs.YtjpnjbpbajaloaaW.PrintWords Go.Proofs.YtjpnjbpbajaloaaW.PrintLast Go.Proofs.YtjpnjbpbajaloaaW.PrintMore
attribute [local go_sem] max2_int min2_int max_two min_two max_three min_three max_four min_four   -- for this text's walks alone
set_option linter.unusedVariables false
set_option linter.unusedSimpArgs false


/-! ### feed_Feed_Random: function 19 (by hand) -/
def feed_Feed_Random.f (l0_0 : List Int) (l0_1 : List Int) (l0_2 : List Int) (a1 : Int) : Option (List Int × Int × List Int × List Int × List Int) :=
  if 0 ≤ a1 ∧ a1 ≤ 1048576 then some (l0_1.take a1.toNat ++ List.replicate (a1.toNat - l0_1.length) 0, 0, l0_0, l0_1.drop (min a1.toNat l0_1.length), l0_2) else some ([], 100, l0_0, l0_1, l0_2)
set_option maxHeartbeats 8000000 in
set_option maxRecDepth 100000 in
theorem feed_Feed_Random.next_ (j g : Nat) (n : Int) (A : Option Addr) (l : List Int) (c : Nat) (cs : Array Value) (base : Nat) (ok : Nat → Prop) (w : World) (hg : w.heap[g]? = some (.cells cs 55 (0, 0))) (hj : cs[j]? = some (.slice A l.length c)) (ho : Kd.Q (Kd.int .u8) 5 w base ok (.slice A l.length c) l) (h0 : 0 ≤ n) (h1 : n < 140737488355328) :
    Calls Try.prog 31 #[.pointer (some ⟨g, j, none⟩), .int .i64 n] w fun e w' => ∃ (v v1 : Value) (w1 : World), e = .returned v ∧ Below w.heap.size w w1 ∧ Kd.R (Kd.int .u8) 5 w1 w.heap.size (fun _ => True) v (l.take n.toNat) ∧ Kd.Q (Kd.int .u8) 5 w1 base ok v1 (l.drop (min n.toNat l.length)) ∧ v1.ownBlock = (.slice A l.length c : Value).ownBlock ∧ w' = w1.setCell ⟨g, j, none⟩ v1 := by
  obtain ⟨m, hm⟩ : ∃ m : Int, (if (l.length : Int) < n then (l.length : Int) else n) = m := ⟨_, rfl⟩
  have hm0 : 0 ≤ m := by rw [← hm]; split <;> omega
  have hm1 : m ≤ (l.length : Int) := by rw [← hm]; split <;> omega
  have hmn : m.toNat = min n.toNat l.length := by rw [← hm]; split <;> omega
  have hc0 : w.cell? ⟨g, j, none⟩ = some (.slice A l.length c) := (blk_cell hg j).trans hj
  have hf0 := blk_frozen hg j
  obtain ⟨i5, hi5, _, hsz5, _⟩ := info_parts info5
  have hq := Kd.Q_reads' ho
  have hcut1 := cut_to (P := Try.prog) 23 5 .i64 Try.underlying23 hi5 A l.length c m hm0 hm1 hq.2.1
  have hcut2 := cut_from (P := Try.prog) 23 5 .i64 Try.underlying23 hi5 1 hsz5 A l.length c m hm0 hm1
  obtain ⟨y, hy⟩ : ∃ y : List Int, y = l.take m.toNat := ⟨_, rfl⟩
  have hyl : y.length = m.toNat := by rw [hy, List.length_take]; omega
  have hyt : y = l.take n.toNat := by
    rw [hy, hmn]
    rcases Nat.le_total n.toNat l.length with h | h
    · rw [Nat.min_eq_left h]
    · rw [Nat.min_eq_right h, List.take_of_length_le (Nat.le_refl _), List.take_of_length_le h]
  rw [← hyl] at hcut1
  have hC : Kd.C (Kd.int .u8) w A y.length y := by rw [hy]; exact Kd.C_take hq.2.2 (by omega)
  have hyc : y.length ≤ c := by omega
  have hcl : slices_Clone_byte_byte.f y = some y := by
    unfold slices_Clone_byte_byte.f
    simp only [Option.bind_some, List.length_nil, Nat.zero_add, List.nil_append]
    exact if_pos (by omega)
  have hd := Kd.Q_drop (k := m.toNat) ho (by omega)
  obtain ⟨A1, hA1⟩ : ∃ A1, A1 = (if c = m.toNat then A else (A : Option Addr).map (·.add (m.toNat * 1))) := ⟨_, rfl⟩
  obtain ⟨n1, hn1⟩ : ∃ n1, n1 = l.length - m.toNat := ⟨_, rfl⟩
  obtain ⟨c1, hc1⟩ : ∃ c1, c1 = c - m.toNat := ⟨_, rfl⟩
  rw [← hA1, ← hn1, ← hc1] at hcut2
  have hd1 : Kd.Q (Kd.int .u8) 5 w base ok (.slice A1 n1 c1) (l.drop m.toNat) := by rw [hA1, hn1, hc1]; exact hd
  have hob : (.slice A1 n1 c1 : Value).ownBlock = (.slice A l.length c : Value).ownBlock := by
    rw [hA1]
    split
    · cases A <;> rfl
    · cases A with
      | none => rfl
      | some z => simp [Value.ownBlock, add_block]
  have HC := Aside0.mk hC
  have HY := Aside0.mk hyc
  have HL := Aside0.mk hcl
  have HG := Aside0.mk hg
  have HD := Aside0.mk hd1
  have HT := Aside0.mk hyt
  have HB := Aside0.mk hob
  have HJ := Aside0.mk hj
  have HM := Aside0.mk hmn
  clear hyl hC hyc hcl hg hd1 hd hyt hob hA1 hn1 hc1 hq hy hj hmn hi5 hsz5 ho
  go_enter Try.func31, Try.ntmps31
  go_wp2_with (first
    | ((with_reducible refine gate_callee (f := 26) rfl ?_); refine goesL_ (some 17) rfl rfl Try.func26 (by kernel_rfl) rfl #[.slice A y.length c] rfl (by (try simp only [List.map_toArray, List.map_cons, List.map_nil]); first | done | rfl | (simp only [List.length_drop, List.length_take]; rfl)) ?_
       (with_reducible refine (slices_Clone_byte_byte.calls A c y y _ HC.out HY.out HL.out).mono ?_)
       rintro e w1 ⟨v, rfl, hr, hb⟩
       refine ⟨_, rfl, ?_⟩
       have hg1 := blk_below (o := .cells cs 55 (0, 0)) HG.out hb
       have hcz1 : w1.cell? ⟨g, j, none⟩ = some (.slice A l.length c) := (blk_cell hg1 j).trans HJ.out
       have hf1 := blk_frozen hg1 j
       have HR := Aside0.mk hr
       have HBL := Aside0.mk hb
       have HD1 := Aside0.mk (Kd.Q_below HD.out hb)
       clear hr hb hg1))

  go_ret
  exact ⟨_, .slice A1 n1 c1, _, rfl, HBL.out, by rw [← HT.out]; exact HR.out, by rw [← HM.out]; exact HD1.out, HB.out, rfl⟩
theorem feed_Feed_Random.tight2_ {α : Type} {d : Kd α} {e base : Nat} {ok : Nat → Prop} {W : World} {v : Value} {xs : List α} (h : d.Q e W base ok v xs) (hE : d.E = [] := by rfl) : d.Q e W base (fun k => some k = v.ownBlock ∧ ok k) v xs := Kd.Q_mono (Kd.Q_tight hE h) (fun k hk => ⟨hk, h.1 k hk.symm⟩)
set_option maxHeartbeats 4000000 in
theorem feed_Feed_Random.nextf_ (g : Nat) (P0_0_ : Nat → Prop) (u9000_ : Value) (l0_0 : List Int) (P0_1_ : Nat → Prop) (u9001_ : Value) (l0_1 : List Int) (P0_2_ : Nat → Prop) (u9002_ : Value) (l0_2 : List Int) (a1 : Int) (w0 w : World) (hI : IsS55 w0 w g u9000_ u9001_ u9002_) (hB : Below w0.heap.size w0 w) (ho0_0 : Kd.Q (Kd.int .i64) 2 w w0.heap.size P0_0_ u9000_ l0_0) (ho0_1 : Kd.Q (Kd.int .u8) 5 w w0.heap.size P0_1_ u9001_ l0_1) (hp0_1_0_2 : ∀ k_, P0_1_ k_ → ¬ P0_2_ k_) (ho0_2 : Kd.Q (Kd.int .u8) 5 w w0.heap.size P0_2_ u9002_ l0_2) (hp0_2_0_1 : ∀ k_, P0_2_ k_ → ¬ P0_1_ k_) (h0 : 0 ≤ a1) (h1 : a1 < 140737488355328) :
    Calls Try.prog 31 #[.pointer (some ⟨g, 1, none⟩), .int .i64 a1] w fun e w' => ∃ v0_ v2_ v3_ v4_ : Value, e = .returned (v0_) ∧ Kd.R (Kd.int .u8) 5 w' w0.heap.size (fun k_ => ((P0_0_ k_ ∨ P0_1_ k_ ∨ P0_2_ k_) ∨ w.heap.size ≤ k_) ∧ some k_ ≠ (v3_ : Value).ownBlock ∧ some k_ ≠ (v4_ : Value).ownBlock) v0_ (l0_1.take a1.toNat) ∧ Kd.Q (Kd.int .i64) 2 w' w0.heap.size (fun k_ => ((P0_0_ k_ ∨ P0_1_ k_ ∨ P0_2_ k_) ∨ w.heap.size ≤ k_)) v2_ l0_0 ∧ Kd.Q (Kd.int .u8) 5 w' w0.heap.size (fun k_ => ((P0_0_ k_ ∨ P0_1_ k_ ∨ P0_2_ k_) ∨ w.heap.size ≤ k_) ∧ some k_ ≠ (v0_ : Value).ownBlock ∧ some k_ ≠ (v4_ : Value).ownBlock) v3_ (l0_1.drop (min a1.toNat l0_1.length)) ∧ Kd.Q (Kd.int .u8) 5 w' w0.heap.size (fun k_ => ((P0_0_ k_ ∨ P0_1_ k_ ∨ P0_2_ k_) ∨ w.heap.size ≤ k_) ∧ some k_ ≠ (v0_ : Value).ownBlock ∧ some k_ ≠ (v3_ : Value).ownBlock) v4_ l0_2 ∧ IsS55 w0 w' g v2_ v3_ v4_ ∧ Below w0.heap.size w0 w' ∧ Kept w w' (fun k_ => (P0_0_ k_ ∨ P0_1_ k_ ∨ P0_2_ k_) ∨ k_ = g) := by
  obtain ⟨A, c, rfl, _⟩ := Kd.Q_slice ho0_1
  have hlt0 := Kd.Q_lt ho0_0
  have hlt1 := Kd.Q_lt ho0_1
  have hlt2 := Kd.Q_lt ho0_2
  have hgl := hI.lt
  refine (feed_Feed_Random.next_ 1 g a1 A l0_1 c _ w0.heap.size P0_1_ w hI.1 rfl ho0_1 h0 h1).mono ?_
  rintro e w' ⟨v, v1, w1, rfl, hb, hr, hq, hob, rfl⟩
  have hI1 := hI.below hb
  have hbase := Kd.R_base hr
  have q0 := Kd.Q_below ho0_0 hb
  have q1 := hq
  have q2 := Kd.Q_below ho0_2 hb
  have hne : ∀ (x : Value), (∀ k, x.ownBlock = some k → k < w.heap.size) → ∀ k, x.ownBlock = some k → some k ≠ v.ownBlock := fun x hx k hk e => by
    have := hbase k e.symm
    have := hx k hk
    omega
  have lt1 : ∀ k, (v1 : Value).ownBlock = some k → k < w.heap.size := by rw [hob]; exact hlt1
  have lt2 : ∀ k, (u9002_ : Value).ownBlock = some k → k < w.heap.size := hlt2
  have t1 := feed_Feed_Random.tight2_ q1
  have t2 := feed_Feed_Random.tight2_ q2
  refine ⟨v, u9000_, v1, u9002_, rfl, ?_, ?_, ?_, ?_, ?_, ?_, ?_⟩
  · refine Kd.R_lower (Kd.R_mono (Kd.R_far (p := ⟨g, 1, none⟩) (Kd.R_mono (ok' := fun k => w.heap.size ≤ k) (Kd.R_bound hr) (fun k hk => hk.2.1)) (fun k hk e => by have : k = g := e; omega) v1) (fun k hk => ⟨.inr hk, fun e => ?_, fun e => ?_⟩)) hB.size
    · have := lt1 k e.symm; omega
    · have := lt2 k e.symm; omega
  · exact Kd.Q_mono (Kd.Q_far (p := ⟨g, 1, none⟩) (IsS55.apartQ hI1 q0 (by decide)) (fun _ hk => hk.2) v1) (fun k hk => .inl (.inl hk.1))
  · exact Kd.Q_mono (Kd.Q_far (p := ⟨g, 1, none⟩) (IsS55.apartQ hI1 t1 (by decide)) (fun _ hk => hk.2) v1) (fun k hk => ⟨.inl (.inr (.inl hk.1.2)), hne _ lt1 k hk.1.1.symm, fun e => hp0_1_0_2 k hk.1.2 (q2.1 k e.symm)⟩)
  · exact Kd.Q_mono (Kd.Q_far (p := ⟨g, 1, none⟩) (IsS55.apartQ hI1 t2 (by decide)) (fun _ hk => hk.2) v1) (fun k hk => ⟨.inl (.inr (.inr hk.1.2)), hne _ lt2 k hk.1.1.symm, fun e => hp0_2_0_1 k hk.1.2 (q1.1 k e.symm)⟩)
  · exact IsS55.set_1 hI1 v1
  · exact below_set (below_step hB hb) hI1.ge
  · exact Kept.setCell (Kept.of_below hb _) (.inl (.inr rfl)) v1
set_option maxHeartbeats 8000000 in
set_option maxRecDepth 100000 in
theorem feed_Feed_Random.calls (g : Nat) (P0_0_ : Nat → Prop) (u9000_ : Value) (l0_0 : List Int) (P0_1_ : Nat → Prop) (u9001_ : Value) (l0_1 : List Int) (P0_2_ : Nat → Prop) (u9002_ : Value) (l0_2 : List Int) (a1 : Int) (r1 : List Int) (r2 : Int) (r3 : List Int) (r4 : List Int) (r5 : List Int) (w0 w : World) (hI : IsS55 w0 w g u9000_ u9001_ u9002_) (hB : Below w0.heap.size w0 w) (ho0_0 : Kd.Q (Kd.int .i64) 2 w w0.heap.size P0_0_ u9000_ l0_0) (ho0_1 : Kd.Q (Kd.int .u8) 5 w w0.heap.size P0_1_ u9001_ l0_1) (hp0_1_0_2 : ∀ k_, P0_1_ k_ → ¬ P0_2_ k_) (ho0_2 : Kd.Q (Kd.int .u8) 5 w w0.heap.size P0_2_ u9002_ l0_2) (hp0_2_0_1 : ∀ k_, P0_2_ k_ → ¬ P0_1_ k_) (h : feed_Feed_Random.f l0_0 l0_1 l0_2 a1 = some (r1, r2, r3, r4, r5)) :
    Calls Try.prog 19 #[.pointer (some ⟨g, 0, none⟩), .int .i64 a1] w fun e w' => ∃ v0_ v2_ v3_ v4_ : Value, e = .returned (.tuple #[v0_, .int .i64 r2]) ∧ Kd.R (Kd.int .u8) 5 w' w0.heap.size (fun k_ => ((P0_0_ k_ ∨ P0_1_ k_ ∨ P0_2_ k_) ∨ w.heap.size ≤ k_) ∧ some k_ ≠ (v3_ : Value).ownBlock ∧ some k_ ≠ (v4_ : Value).ownBlock) v0_ r1 ∧ Kd.Q (Kd.int .i64) 2 w' w0.heap.size (fun k_ => ((P0_0_ k_ ∨ P0_1_ k_ ∨ P0_2_ k_) ∨ w.heap.size ≤ k_)) v2_ r3 ∧ Kd.Q (Kd.int .u8) 5 w' w0.heap.size (fun k_ => ((P0_0_ k_ ∨ P0_1_ k_ ∨ P0_2_ k_) ∨ w.heap.size ≤ k_) ∧ some k_ ≠ (v0_ : Value).ownBlock ∧ some k_ ≠ (v4_ : Value).ownBlock) v3_ r4 ∧ Kd.Q (Kd.int .u8) 5 w' w0.heap.size (fun k_ => ((P0_0_ k_ ∨ P0_1_ k_ ∨ P0_2_ k_) ∨ w.heap.size ≤ k_) ∧ some k_ ≠ (v0_ : Value).ownBlock ∧ some k_ ≠ (v3_ : Value).ownBlock) v4_ r5 ∧ IsS55 w0 w' g v2_ v3_ v4_ ∧ Below w0.heap.size w0 w' ∧ Kept w w' (fun k_ => (P0_0_ k_ ∨ P0_1_ k_ ∨ P0_2_ k_) ∨ k_ = g) := by
  by_cases hc : 0 ≤ a1 ∧ a1 ≤ 1048576
  · simp only [feed_Feed_Random.f, if_pos hc, Option.some.injEq, Prod.mk.injEq] at h
    obtain ⟨rfl, rfl, rfl, rfl, rfl⟩ := h
    have hgd : feed_good.f a1 = some true := by
      unfold feed_good.f
      rw [if_pos hc.1]
      congr 1
      exact decide_eq_true hc.2
    have HGd := Aside0.mk hgd
    have HC := Aside0.mk (show 0 ≤ a1 ∧ a1 ≤ 1048576 from hc)
    have hlt0 := Kd.Q_lt ho0_0
    have hlt1 := Kd.Q_lt ho0_1
    have hlt2 := Kd.Q_lt ho0_2
    have hgl := hI.lt
    have hszB := hB.size
    have L0 := Aside0.mk hlt0
    have L1 := Aside0.mk hlt1
    have L2 := Aside0.mk hlt2
    have LG := Aside0.mk hgl
    have LB := Aside0.mk hszB
    have HN := Aside0.mk (fun W1 (hI1 : IsS55 w0 W1 g u9000_ u9001_ u9002_) (hB1 : Below w0.heap.size w0 W1) (h0 : Kd.Q (Kd.int .i64) 2 W1 w0.heap.size P0_0_ u9000_ l0_0) (h1 : Kd.Q (Kd.int .u8) 5 W1 w0.heap.size P0_1_ u9001_ l0_1) (h2 : Kd.Q (Kd.int .u8) 5 W1 w0.heap.size P0_2_ u9002_ l0_2) => feed_Feed_Random.nextf_ g (fun k => some k = u9000_.ownBlock) u9000_ l0_0 (fun k => some k = u9001_.ownBlock) u9001_ l0_1 (fun k => some k = u9002_.ownBlock) u9002_ l0_2 a1 w0 W1 hI1 hB1 (Kd.Q_tight rfl h0) (Kd.Q_tight rfl h1) (fun k hk hk2 => hp0_1_0_2 k (h1.1 k hk.symm) (h2.1 k hk2.symm)) (Kd.Q_tight rfl h2) (fun k hk hk2 => hp0_2_0_1 k (h2.1 k hk.symm) (h1.1 k hk2.symm)) hc.1 (by omega))
    have X0 := Aside0.mk ho0_0
    have X1 := Aside0.mk ho0_1
    have X2 := Aside0.mk ho0_2
    have HI := Aside0.mk hI
    have HB := Aside0.mk hB
    have HP := Aside0.mk hp0_1_0_2
    clear hI hB ho0_0 ho0_1 ho0_2 hp0_1_0_2 hp0_2_0_1 hgd hc hlt0 hlt1 hlt2 hgl hszB
    go_enter Try.func19, Try.ntmps19
    go_wp2_with (first
      | ((with_reducible refine gate_callee (f := 30) rfl ?_); refine goesL_ (some 8) rfl rfl Try.func30 (by kernel_rfl) rfl #[.int .i64 a1] rfl (by (try simp only [List.map_toArray, List.map_cons, List.map_nil]); first | done | rfl | (simp only [List.length_drop, List.length_take]; rfl)) ?_
         (with_reducible refine (feed_good.calls a1 true _ HGd.out).mono ?_)
         rintro e w1 ⟨rfl, ⟨nd, rfl⟩⟩
         refine ⟨_, rfl, ?_⟩
         have HID := Aside0.mk (show IsS55 w0 (w.drewN nd) g u9000_ u9001_ u9002_ from HI.out)
         have HBD := Aside0.mk (show Below w0.heap.size w0 (w.drewN nd) from pw_below_drewN HB.out nd)
         have Z0 := Aside0.mk (Kd.Q_drewN X0.out nd)
         have Z1 := Aside0.mk (Kd.Q_drewN X1.out nd)
         have Z2 := Aside0.mk (Kd.Q_drewN X2.out nd)
         have HKD := Aside0.mk (Kept.drewN (Kept.refl w (fun k => some k = u9000_.ownBlock ∨ some k = u9001_.ownBlock ∨ some k = u9002_.ownBlock ∨ k = g)) nd)
         have hwd : (w.drewN nd).heap.size = w.heap.size := rfl
         have HWD := Aside0.mk hwd
         clear hwd
         generalize w.drewN nd = wd at *)
      | ((with_reducible refine gate_dst (N := 11) rfl ?_); refine Kd.R_make (Kd.int .u8) _ 5 rfl (N := 11) rfl 23 _ _ rfl a1 rfl rfl Try.underlying23 (.int .u8 0) 1 info5 rfl (by decide) (by omega) 0 (ok := fun _ => True) (okp := fun _ => True) rfl (fun _ hk => hk) trivial HC.out.1 (by have := HC.out; omega) (Below.refl _ _) (Nat.le_refl _) ?_
         intro vb w1 hob hb hg_ hnew_
         clear hg_ hnew_
         have HIM := Aside0.mk (IsS55.below HID.out hb)
         have HBM := Aside0.mk (below_step HBD.out hb)
         have M0 := Aside0.mk (Kd.Q_below Z0.out hb)
         have M1 := Aside0.mk (Kd.Q_below Z1.out hb)
         have M2 := Aside0.mk (Kd.Q_below Z2.out hb)
         have HKM := Aside0.mk (Kept.below HKD.out hb)
         have HOB := Aside0.mk hob
         have HBS := Aside0.mk hb.size
         clear hob hb)
      | ((with_reducible refine gate_callee (f := 31) rfl ?_); refine goesL_ (some 17) rfl rfl Try.func31 (by kernel_rfl) rfl #[.pointer (some ⟨g, 1, none⟩), .int .i64 a1] rfl (by (try simp only [List.map_toArray, List.map_cons, List.map_nil]); first | done | rfl | (simp only [List.length_drop, List.length_take]; rfl)) ?_
         (with_reducible refine (HN.out _ HIM.out HBM.out M0.out M1.out M2.out).mono ?_)
         rintro e w2 ⟨v0, v2, v3, v4, rfl, hr, hcq, hx, hy, hi, hb, hk⟩
         refine ⟨_, rfl, ?_⟩
         obtain ⟨y, hy_⟩ : ∃ y : List Int, y = l0_1.take a1.toNat := ⟨_, rfl⟩
         rw [← hy_] at hr
         obtain ⟨Av, cv, hev⟩ := Kd.R_slice hr
         subst hev
         have YE := Aside0.mk hy_
         have Y := Aside0.mk (And.intro hr (And.intro hcq (And.intro hx (And.intro hy (And.intro hi (And.intro hb hk))))))
         have HOK := Aside0.mk (show Kd.R (Kd.int .u8) 5 _ wd.heap.size (fun k => w.heap.size ≤ k) vb (List.replicate a1.toNat 0) from Kd.R_kept (Kd.R_mono (ok' := fun k => w.heap.size ≤ k) (Kd.R_bound HOB.out) (fun k hk => HWD.out ▸ hk.2.1)) hk (fun k hk hS => by
           rcases hS with (e | e | e) | e
           · have := L0.out k e.symm; omega
           · have := L1.out k e.symm; omega
           · have := L2.out k e.symm; omega
           · have := LG.out; omega))
         have HOC := Aside0.mk (Kd.R_lower HOK.out (by rw [HWD.out]; exact LB.out))
         clear hr hcq hx hy hi hb hk hy_)
      | ((with_reducible refine gate_builtin (b := .copy) (xs := #[.tmp 12, .tmp 17]) rfl ?_)
         refine Kd.R_copy (0 : Int) (w0 := w0) w0.heap.size rfl (.tmp 12) (.tmp 17) 23 23 5 rfl Try.underlying23 (by kernel_rfl) vb (List.replicate a1.toNat 0) y Av y.length cv (fun k => w.heap.size ≤ k) rfl rfl HOC.out (Kd.R_reads' Y.out.1).2.2 Y.out.2.2.2.2.2.1 (below_size Y.out.2.2.2.2.2.1) ?_
         intro w3 ho3 hb3 hg3))
    go_ret2
    obtain ⟨yr, yc, yx, yy, yi, yb, yk⟩ := Y.out
    have e1 : y.take (min y.length (List.replicate a1.toNat (0 : Int)).length) ++ (List.replicate a1.toNat (0 : Int)).drop (min y.length (List.replicate a1.toNat (0 : Int)).length) = l0_1.take a1.toNat ++ List.replicate (a1.toNat - l0_1.length) 0 := by
      have hl : y.length = min a1.toNat l0_1.length := by rw [YE.out, List.length_take]
      rw [List.length_replicate, Nat.min_eq_left (by omega), List.take_of_length_le (Nat.le_refl _), List.drop_replicate, ← YE.out]
      congr 2
      omega
    rw [e1] at ho3
    have vlt := Kd.R_lt HOB.out
    have vge : ∀ k, vb.ownBlock = some k → w.heap.size ≤ k := fun k hk => HOK.out.1 k hk
    have old : ∀ k, (some k = u9000_.ownBlock ∨ some k = u9001_.ownBlock ∨ some k = u9002_.ownBlock) → k < w.heap.size := fun k hS => by
      rcases hS with e | e | e
      · exact L0.out k e.symm
      · exact L1.out k e.symm
      · exact L2.out k e.symm
    have mine : ∀ k, ((some k = u9000_.ownBlock ∨ some k = u9001_.ownBlock ∨ some k = u9002_.ownBlock) ∨ w1.heap.size ≤ k) → ((P0_0_ k ∨ P0_1_ k ∨ P0_2_ k) ∨ w.heap.size ≤ k) := fun k hS => by
      rcases hS with (e | e | e) | e
      · exact .inl (.inl (X0.out.1 k e.symm))
      · exact .inl (.inr (.inl (X1.out.1 k e.symm)))
      · exact .inl (.inr (.inr (X2.out.1 k e.symm)))
      · have := HBS.out
        have := HWD.out
        exact .inr (by omega)
    have far : ∀ k, ((some k = u9000_.ownBlock ∨ some k = u9001_.ownBlock ∨ some k = u9002_.ownBlock) ∨ w1.heap.size ≤ k) → vb.ownBlock = some k → False := fun k hS hv => by
      have h1 := vlt k hv
      have h2 := vge k hv
      rcases hS with e | e
      · have := old k e
        omega
      · omega
    refine ⟨vb, v2, v3, v4, rfl, ?_, ?_, ?_, ?_, ?_, hb3, ?_⟩
    · exact Kd.R_mono (Kd.R_tight rfl ho3) (fun k hk => ⟨.inr (vge k hk.symm), fun e => far k (yx.1 k e.symm).1 hk.symm, fun e => far k (yy.1 k e.symm).1 hk.symm⟩)
    · exact Kd.Q_mono (Kd.Q_grown2 yc rfl hg3 (fun k hv e => far k (yc.1 k e.symm) hv)) (fun k hk => mine k hk)
    · exact Kd.Q_mono (Kd.Q_grown2 yx rfl hg3 (fun k hv e => far k (yx.1 k e.symm).1 hv)) (fun k hk => ⟨mine k hk.1, fun e => far k hk.1 e.symm, hk.2.2⟩)
    · exact Kd.Q_mono (Kd.Q_grown2 yy rfl hg3 (fun k hv e => far k (yy.1 k e.symm).1 hv)) (fun k hk => ⟨mine k hk.1, fun e => far k hk.1 e.symm, hk.2.2⟩)
    · exact yi.grown hg3 (fun e => by have := vge g e.symm; have := LG.out; omega)
    · have k1 : Kept w w1 (fun k_ => (P0_0_ k_ ∨ P0_1_ k_ ∨ P0_2_ k_) ∨ k_ = g) := Kept.mono HKM.out (fun k hS => by
        rcases hS with e | e | e | e
        · exact .inl (.inl (X0.out.1 k e.symm))
        · exact .inl (.inr (.inl (X1.out.1 k e.symm)))
        · exact .inl (.inr (.inr (X2.out.1 k e.symm)))
        · exact .inr e)
      refine Kept.of_grown hg3 (Kept.then_ k1 yk (fun k hS => .inl ?_)) (fun k hv => .inr (vge k hv))
      rcases hS with (e | e | e) | e
      · exact .inl (.inl (X0.out.1 k e.symm))
      · exact .inl (.inr (.inl (X1.out.1 k e.symm)))
      · exact .inl (.inr (.inr (X2.out.1 k e.symm)))
      · exact .inr e
  · simp only [feed_Feed_Random.f, if_neg hc, Option.some.injEq, Prod.mk.injEq] at h
    obtain ⟨rfl, rfl, rfl, rfl, rfl⟩ := h
    have hgd : feed_good.f a1 = some false := by
      unfold feed_good.f
      by_cases h1 : a1 ≥ 0
      · rw [if_pos h1]
        congr 1
        exact decide_eq_false (by omega)
      · rw [if_neg h1]
    have HGd := Aside0.mk hgd
    have hx0 : Kd.Q (Kd.int .i64) 2 w w0.heap.size (fun k_ => ((P0_0_ k_ ∨ P0_1_ k_ ∨ P0_2_ k_) ∨ w.heap.size ≤ k_)) u9000_ l0_0 := Kd.Q_mono ho0_0 (fun k hk => .inl (.inl hk))
    have hx1 : Kd.Q (Kd.int .u8) 5 w w0.heap.size (fun k_ => ((P0_0_ k_ ∨ P0_1_ k_ ∨ P0_2_ k_) ∨ w.heap.size ≤ k_) ∧ some k_ ≠ (Value.slice none 0 0).ownBlock ∧ some k_ ≠ (u9002_ : Value).ownBlock) u9001_ l0_1 := Kd.Q_mono ho0_1 (fun k hk => ⟨.inl (.inr (.inl hk)), by simp [Value.ownBlock], fun e => hp0_1_0_2 k hk (ho0_2.1 k e.symm)⟩)
    have hx2 : Kd.Q (Kd.int .u8) 5 w w0.heap.size (fun k_ => ((P0_0_ k_ ∨ P0_1_ k_ ∨ P0_2_ k_) ∨ w.heap.size ≤ k_) ∧ some k_ ≠ (Value.slice none 0 0).ownBlock ∧ some k_ ≠ (u9001_ : Value).ownBlock) u9002_ l0_2 := Kd.Q_mono ho0_2 (fun k hk => ⟨.inl (.inr (.inr hk)), by simp [Value.ownBlock], fun e => hp0_2_0_1 k hk (ho0_1.1 k e.symm)⟩)
    have X0 := Aside0.mk hx0
    have X1 := Aside0.mk hx1
    have X2 := Aside0.mk hx2
    have HI := Aside0.mk hI
    have HB := Aside0.mk hB
    clear hx0 hx1 hx2 hI hB ho0_0 ho0_1 ho0_2 hp0_1_0_2 hp0_2_0_1 hgd hc
    go_enter Try.func19, Try.ntmps19
    go_wp2_with (first
      | ((with_reducible refine gate_callee (f := 30) rfl ?_); refine goesL_ (some 8) rfl rfl Try.func30 (by kernel_rfl) rfl #[.int .i64 a1] rfl (by (try simp only [List.map_toArray, List.map_cons, List.map_nil]); first | done | rfl | (simp only [List.length_drop, List.length_take]; rfl)) ?_
         (with_reducible refine (feed_good.calls a1 false _ HGd.out).mono ?_)
         rintro e w1 ⟨rfl, ⟨nd, rfl⟩⟩
         refine ⟨_, rfl, ?_⟩))
    go_ret2
    exact ⟨_, _, _, _, rfl, Kd.R_nil _ _ _ _ _, by (with_reducible repeat (first | apply Kd.Q_alloc | apply Kd.Q_drewN | apply Kd.Q_drew)); exact X0.out, by (with_reducible repeat (first | apply Kd.Q_alloc | apply Kd.Q_drewN | apply Kd.Q_drew)); exact X1.out, by (with_reducible repeat (first | apply Kd.Q_alloc | apply Kd.Q_drewN | apply Kd.Q_drew)); exact X2.out, by repeat (first | (with_reducible first | exact HI.out | apply IsS55.alloc | apply IsS55.drewN | apply IsS55.drew) | exact HI.out), by repeat (first | (with_reducible first | exact HB.out | apply below_alloc | apply pw_below_drewN | apply below_drew1) | exact HB.out), by repeat (first | (with_reducible first | exact Kept.refl _ _ | apply Kept.alloc | apply Kept.drewN | apply Kept.drew) | exact Kept.refl _ _)⟩


/-! ### gangwayref0_EqBytes: function 20 -/
def gangwayref0_EqBytes.l0 : Nat → List Int → List Int → Int → Option (Bool)
  | 0, _, _, _ => none
  | k + 1, x0, x1, x5 => if x5 < (x0.length : Int) then (if 0 ≤ x5 then (if x5 < (x1.length : Int) then (if (rd x0 x5) = (rd x1 x5) then (gangwayref0_EqBytes.l0 k x0 x1 (wrap64 (x5 + 1))) else (some false)) else (none)) else (none)) else (some true)
def gangwayref0_EqBytes.f (k : Nat) (l0 : List Int) (l1 : List Int) : Option (Bool) := if (l0.length : Int) = (l1.length : Int) then (gangwayref0_EqBytes.l0 k l0 l1 0) else (some false)
theorem gangwayref0_EqBytes.mono_l : ∀ k, (∀ y0 y1 y2, LeO (gangwayref0_EqBytes.l0 k y0 y1 y2) (gangwayref0_EqBytes.l0 (k + 1) y0 y1 y2))
  | 0 => fun _ _ _ r h => by simp [gangwayref0_EqBytes.l0] at h
  | k + 1 => by
    have ih0 := gangwayref0_EqBytes.mono_l k
    · intro y0 y1 y2
      unfold gangwayref0_EqBytes.l0
      repeat' first
      | (with_reducible exact ih0 _ _ _)
      | (with_reducible exact LeO.refl _)
      | (with_reducible exact LeO.none _)
      | (with_reducible refine LeO.ite ?_ ?_)
      | (with_reducible refine LeO.bind ?_ (fun _ => ?_))
      | exact ih0 _ _ _
      | exact LeO.none _
      | refine LeO.ite ?_ ?_
      | refine LeO.bind ?_ (fun _ => ?_)
theorem gangwayref0_EqBytes.mono : ∀ a0 a1 k, LeO (gangwayref0_EqBytes.f k a0 a1) (gangwayref0_EqBytes.f (k + 1) a0 a1) := by
  intro a0 a1 k
  have ih0 := gangwayref0_EqBytes.mono_l k
  unfold gangwayref0_EqBytes.f
  repeat' first
      | (with_reducible exact ih0 _ _ _)
      | (with_reducible exact LeO.refl _)
      | (with_reducible exact LeO.none _)
      | (with_reducible refine LeO.ite ?_ ?_)
      | (with_reducible refine LeO.bind ?_ (fun _ => ?_))
      | exact ih0 _ _ _
      | exact LeO.none _
      | refine LeO.ite ?_ ?_
      | refine LeO.bind ?_ (fun _ => ?_)
set_option maxHeartbeats 8000000 in
set_option maxRecDepth 100000 in
theorem gangwayref0_EqBytes.calls (k : Nat) (A0 : Option Addr) (c0 : Nat) (l0 : List Int) (A1 : Option Addr) (c1 : Nat) (l1 : List Int) (r : Bool) (w : World) (hr0 : Kd.C (Kd.int .u8) w A0 l0.length l0) (hc0 : l0.length ≤ c0) (hr1 : Kd.C (Kd.int .u8) w A1 l1.length l1) (hc1 : l1.length ≤ c1) (h : gangwayref0_EqBytes.f k l0 l1 = some r) :
    Calls Try.prog 20 #[.slice A0 l0.length c0, .slice A1 l1.length c1] w fun e w' => e = .returned (.bool r) ∧ Drawn0 w w' := by
  have HR0 := Aside0.mk hr0
  have HC0 := Aside0.mk hc0
  clear hr0 hc0
  have HR1 := Aside0.mk hr1
  have HC1 := Aside0.mk hc1
  clear hr1 hc1
  have H : (if (l0.length : Int) = (l1.length : Int) then (gangwayref0_EqBytes.l0 k l0 l1 0) else (some false)) = some r := h
  clear h
  by_cases c3 : (l0.length : Int) = (l1.length : Int)
  · rw [if_pos c3] at H
    have c3b0 : ((l0.length : Int) == (l1.length : Int)) = true := beq_iff_eq.mpr c3
    have c3b1 : ((l0.length : Int) != (l1.length : Int)) = false := bne_eq_false_iff_eq.mpr c3
    have c3b2 : (l0.length == l1.length) = true := by first | simpa using c3 | (simp at c3 ⊢; omega)
    clear c3
    have H' := Aside0.mk H
    clear H
    go_enter Try.func20, Try.ntmps20
    go_wp2
    repeat (go_quiet (fail); try go_wp2)
    go_loopg [5] k (fun kq v5 w' => ∃ (x5_1 : Int), v5 = .int .i64 x5_1 ∧ Aside0 (gangwayref0_EqBytes.l0 kq l0 l1 x5_1 = some r) ∧ Aside0 (kq ≤ k) ∧ Drawn0 w w')
    case atStart => exact ⟨(0), (by first | rfl | (simp; done) | (simp [*]; done)), H', ⟨Nat.le_refl _⟩, by repeat (first | exact Drawn0.refl _ | apply Drawn0.step)⟩
    case round =>
      clear H'
      try clear c1
      try clear c2
      try clear p2
      try clear c3
      try clear c3b0
      try clear c3b1
      try clear c3b2
      obtain ⟨x5_1, rfl, HA, HK1, ⟨m1, rfl⟩⟩ := hrel
      cases gk with
      | zero => exact absurd HA.out (by simp [gangwayref0_EqBytes.l0])
      | succ k1 =>
        have H := HA.out
        clear HA
        simp only [gangwayref0_EqBytes.l0] at H
        by_cases c4 : x5_1 < (l0.length : Int)
        · rw [if_pos c4] at H
          have c4b0 : decide (x5_1 < (l0.length : Int)) = true := decide_eq_true c4
          clear c4
          by_cases c5 : 0 ≤ x5_1
          · rw [if_pos c5] at H
            have c5b0 : decide (0 ≤ x5_1) = true := decide_eq_true c5
            clear c5
            by_cases c6 : x5_1 < (l1.length : Int)
            · rw [if_pos c6] at H
              have c6b0 : decide (x5_1 < (l1.length : Int)) = true := decide_eq_true c6
              clear c6
              by_cases c7 : (rd l0 x5_1) = (rd l1 x5_1)
              · rw [if_pos c7] at H
                have c7b0 : ((rd l0 x5_1) == (rd l1 x5_1)) = true := beq_iff_eq.mpr c7
                have c7b1 : ((rd l0 x5_1) != (rd l1 x5_1)) = false := bne_eq_false_iff_eq.mpr c7
                clear c7
                have H' := Aside0.mk H
                clear H
                have p294 : 0 ≤ (x5_1 : Int) := of_decide_eq_true (by first | (with_reducible assumption) | assumption)
                have q294 : x5_1 < (l0.length : Int) := of_decide_eq_true (by first | (with_reducible assumption) | assumption)
                obtain ⟨ad294, e294, hx294_0⟩ := Kd.at_int HR0.out x5_1 p294 q294
                cases e294
                replace p294 := eq_true p294
                replace q294 := eq_true q294
                have p295 : 0 ≤ (x5_1 : Int) := of_decide_eq_true (by first | (with_reducible assumption) | assumption)
                have q295 : x5_1 < (l1.length : Int) := of_decide_eq_true (by first | (with_reducible assumption) | assumption)
                obtain ⟨ad295, e295, hx295_0⟩ := Kd.at_int HR1.out x5_1 p295 q295
                cases e295
                replace p295 := eq_true p295
                replace q295 := eq_true q295
                go_wp2
                repeat (go_quiet (fail); try go_wp2)
                go_roundg k1
                case measure => have := HK1.out; omega
                case rel => exact ⟨(wrap64 (x5_1 + 1)), (by first | rfl | (simp; done) | (simp [*]; done)), H', ⟨by have := HK1.out; omega⟩, by repeat (first | exact Drawn0.refl _ | apply Drawn0.step)⟩
              · rw [if_neg c7] at H
                have c7b0 : ((rd l0 x5_1) == (rd l1 x5_1)) = false := beq_eq_false_iff_ne.mpr c7
                have c7b1 : ((rd l0 x5_1) != (rd l1 x5_1)) = true := bne_iff_ne.mpr c7
                obtain rfl := Option.some.inj H
                have p294 : 0 ≤ (x5_1 : Int) := of_decide_eq_true (by first | (with_reducible assumption) | assumption)
                have q294 : x5_1 < (l0.length : Int) := of_decide_eq_true (by first | (with_reducible assumption) | assumption)
                obtain ⟨ad294, e294, hx294_0⟩ := Kd.at_int HR0.out x5_1 p294 q294
                cases e294
                replace p294 := eq_true p294
                replace q294 := eq_true q294
                have p295 : 0 ≤ (x5_1 : Int) := of_decide_eq_true (by first | (with_reducible assumption) | assumption)
                have q295 : x5_1 < (l1.length : Int) := of_decide_eq_true (by first | (with_reducible assumption) | assumption)
                obtain ⟨ad295, e295, hx295_0⟩ := Kd.at_int HR1.out x5_1 p295 q295
                cases e295
                replace p295 := eq_true p295
                replace q295 := eq_true q295
                go_wp2
                repeat (go_quiet (fail); try go_wp2)
                go_ret
                exact ⟨by first | rfl | (simp; done) | (simp [*]; done), by repeat (first | exact Drawn0.refl _ | apply Drawn0.step)⟩
            · rw [if_neg c6] at H
              exact absurd H (by simp)
          · rw [if_neg c5] at H
            exact absurd H (by simp)
        · rw [if_neg c4] at H
          have c4b0 : decide (x5_1 < (l0.length : Int)) = false := decide_eq_false c4
          clear c4
          obtain rfl := Option.some.inj H
          go_wp2
          repeat (go_quiet (fail); try go_wp2)
          go_ret
          exact ⟨by first | rfl | (simp; done) | (simp [*]; done), by repeat (first | exact Drawn0.refl _ | apply Drawn0.step)⟩
  · rw [if_neg c3] at H
    have c3b0 : ((l0.length : Int) == (l1.length : Int)) = false := beq_eq_false_iff_ne.mpr c3
    have c3b1 : ((l0.length : Int) != (l1.length : Int)) = true := bne_iff_ne.mpr c3
    have c3b2 : (l0.length == l1.length) = false := by first | simpa using c3 | (simp at c3 ⊢; omega)
    obtain rfl := Option.some.inj H
    go_enter Try.func20, Try.ntmps20
    go_wp2
    repeat (go_quiet (fail); try go_wp2)
    go_ret
    exact ⟨by first | rfl | (simp; done) | (simp [*]; done), by repeat (first | exact Drawn0.refl _ | apply Drawn0.step)⟩

/-! ### gangwayref23_Feed_Stdin: function 21 -/
def gangwayref23_Feed_Stdin.f (k : Nat) (s0_0 : List Int) (s0_1 : List Int) (s0_2 : List Int) (s0_3 : Int) (s0_4 : Int) (s0_5 : Int) (a1 : Int) : Option (List Int × Int × Int × Int) := if 0 ≤ (wrap64 ((wrap64 (s0_5 + (mn a1 (wrap64 ((s0_2.length : Int) - s0_5))))) - (mn a1 (wrap64 ((s0_2.length : Int) - s0_5))))) then (if (wrap64 ((wrap64 (s0_5 + (mn a1 (wrap64 ((s0_2.length : Int) - s0_5))))) - (mn a1 (wrap64 ((s0_2.length : Int) - s0_5))))) ≤ (wrap64 (s0_5 + (mn a1 (wrap64 ((s0_2.length : Int) - s0_5))))) then (if (wrap64 (s0_5 + (mn a1 (wrap64 ((s0_2.length : Int) - s0_5))))) ≤ (s0_2.length : Int) then ((gangwayref0_CopyBytes.f k ((s0_2.take ((wrap64 (s0_5 + (mn a1 (wrap64 ((s0_2.length : Int) - s0_5))))) : Int).toNat).drop ((wrap64 ((wrap64 (s0_5 + (mn a1 (wrap64 ((s0_2.length : Int) - s0_5))))) - (mn a1 (wrap64 ((s0_2.length : Int) - s0_5))))) : Int).toNat)).bind fun t300 => (some (t300, s0_3, s0_4, wrap64 (s0_5 + (mn a1 (wrap64 ((s0_2.length : Int) - s0_5))))))) else (none)) else (none)) else (none)
theorem gangwayref23_Feed_Stdin.mono : ∀ a0 a1 a2 a3 a4 a5 a6 k, LeO (gangwayref23_Feed_Stdin.f k a0 a1 a2 a3 a4 a5 a6) (gangwayref23_Feed_Stdin.f (k + 1) a0 a1 a2 a3 a4 a5 a6) := by
  intro a0 a1 a2 a3 a4 a5 a6 k
  unfold gangwayref23_Feed_Stdin.f
  repeat' first
      | (with_reducible exact gangwayref0_CopyBytes.mono _ _)
      | (with_reducible exact LeO.refl _)
      | (with_reducible exact LeO.none _)
      | (with_reducible refine LeO.ite ?_ ?_)
      | (with_reducible refine LeO.bind ?_ (fun _ => ?_))
      | exact gangwayref0_CopyBytes.mono _ _
      | exact LeO.none _
      | refine LeO.ite ?_ ?_
      | refine LeO.bind ?_ (fun _ => ?_)
def gangwayref23_Feed_Stdin.T1 : Bool × List (List Nat × List Nat) := (true, [([], []), ([], []), ([1], [1]), ([2], [2]), ([3], [3]), ([4], [4]), ([5], [5]), ([], []), ([7], [7]), ([8], [8]), ([9], [9]), ([6, 10], [6, 10]), ([0, 11], [0, 11]), ([12, 0, 1, 2, 3, 4, 5, 6, 7, 8, 9, 10, 11, 12], [0, 12])])
def gangwayref23_Feed_Stdin.B1 : List Nat := [0, 0, 2, 6, 14, 30, 62, 0, 128, 384, 896, 2046, 4095, 8191]
theorem gangwayref23_Feed_Stdin.tab1 : rtab .any (opsOf Try.f21 1) = gangwayref23_Feed_Stdin.T1 := by kernel_rfl
theorem gangwayref23_Feed_Stdin.bits1 : waitsOk gangwayref23_Feed_Stdin.T1.2 gangwayref23_Feed_Stdin.B1 = true := by kernel_rfl
def gangwayref23_Feed_Stdin.T3 : Bool × List (List Nat × List Nat) := (true, [([], []), ([0], [0]), ([1], [1]), ([2], [2]), ([3], [3]), ([], []), ([5], [5]), ([6], [6]), ([7], [7]), ([], []), ([8, 9], [8, 9]), ([], []), ([11], [11]), ([12], [12]), ([13], [13]), ([4, 10, 14], [4, 10, 14]), ([15], [15]), ([16, 16, 0, 1, 2, 3, 4, 5, 6, 7, 8, 9, 10, 11, 12, 13, 14, 15, 16], [16])])
def gangwayref23_Feed_Stdin.B3 : List Nat := [0, 1, 3, 7, 15, 0, 32, 96, 224, 0, 992, 0, 2048, 6144, 14336, 32767, 65535, 131071]
theorem gangwayref23_Feed_Stdin.tab3 : rtab .any (opsOf Try.f21 3) = gangwayref23_Feed_Stdin.T3 := by kernel_rfl
theorem gangwayref23_Feed_Stdin.bits3 : waitsOk gangwayref23_Feed_Stdin.T3.2 gangwayref23_Feed_Stdin.B3 = true := by kernel_rfl
set_option maxHeartbeats 8000000 in
set_option maxRecDepth 100000 in
theorem gangwayref23_Feed_Stdin.calls (k : Nat) (g : Nat) (s0_0 : List Int) (s0_1 : List Int) (s0_2 : List Int) (s0_3 : Int) (s0_4 : Int) (s0_5 : Int) (a1 : Int) (r1 : List Int) (r2 : Int) (r3 : Int) (r4 : Int) (w0 w : World) (hI : IsS43 w0 w g s0_0 s0_1 s0_2 s0_3 s0_4 s0_5) (hB : Below w0.heap.size w0 w) (h : gangwayref23_Feed_Stdin.f k s0_0 s0_1 s0_2 s0_3 s0_4 s0_5 a1 = some (r1, r2, r3, r4)) :
    Calls Try.prog 21 #[.pointer (some ⟨g, 0, none⟩), .int .i64 a1] w fun e w' => ∃ v0_ : Value, e = .returned (v0_) ∧ Kd.R (Kd.int .u8) 5 w' w.heap.size (fun _ => True) v0_ r1 ∧ IsS43 w0 w' g s0_0 s0_1 s0_2 r2 r3 r4 ∧ Below w0.heap.size w0 w' ∧ KeepBut w w' g none := by
  have HI0 := Aside0.mk hI
  have HK := Aside0.mk (KeepBut.refl w g none)
  have HL := Aside0.mk hB.size
  clear hI
  have HW0 := Aside0.mk hB.size
  have HB := Aside0.mk hB
  clear hB
  have H : (if 0 ≤ (wrap64 ((wrap64 (s0_5 + (mn a1 (wrap64 ((s0_2.length : Int) - s0_5))))) - (mn a1 (wrap64 ((s0_2.length : Int) - s0_5))))) then (if (wrap64 ((wrap64 (s0_5 + (mn a1 (wrap64 ((s0_2.length : Int) - s0_5))))) - (mn a1 (wrap64 ((s0_2.length : Int) - s0_5))))) ≤ (wrap64 (s0_5 + (mn a1 (wrap64 ((s0_2.length : Int) - s0_5))))) then (if (wrap64 (s0_5 + (mn a1 (wrap64 ((s0_2.length : Int) - s0_5))))) ≤ (s0_2.length : Int) then ((gangwayref0_CopyBytes.f k ((s0_2.take ((wrap64 (s0_5 + (mn a1 (wrap64 ((s0_2.length : Int) - s0_5))))) : Int).toNat).drop ((wrap64 ((wrap64 (s0_5 + (mn a1 (wrap64 ((s0_2.length : Int) - s0_5))))) - (mn a1 (wrap64 ((s0_2.length : Int) - s0_5))))) : Int).toNat)).bind fun t300 => (some (t300, s0_3, s0_4, wrap64 (s0_5 + (mn a1 (wrap64 ((s0_2.length : Int) - s0_5))))))) else (none)) else (none)) else (none)) = some (r1, r2, r3, r4) := h
  clear h
  obtain ⟨ji3, hji3⟩ : ∃ j_ : Int, (mn a1 (wrap64 ((s0_2.length : Int) - s0_5))) = j_ := ⟨_, rfl⟩
  replace H : (if 0 ≤ (wrap64 ((wrap64 (s0_5 + (ji3))) - (ji3))) then (if (wrap64 ((wrap64 (s0_5 + (ji3))) - (ji3))) ≤ (wrap64 (s0_5 + (ji3))) then (if (wrap64 (s0_5 + (ji3))) ≤ (s0_2.length : Int) then ((gangwayref0_CopyBytes.f k ((s0_2.take ((wrap64 (s0_5 + (ji3))) : Int).toNat).drop ((wrap64 ((wrap64 (s0_5 + (ji3))) - (ji3))) : Int).toNat)).bind fun t300 => (some (t300, s0_3, s0_4, wrap64 (s0_5 + (ji3))))) else (none)) else (none)) else (none)) = some (r1, r2, r3, r4) := by first | (rw [hji3] at H; exact H) | (simp only [hji3] at H ⊢; exact H)
  have hji3_ : (if (wrap64 ((s0_2.length : Int) - s0_5)) < a1 then (wrap64 ((s0_2.length : Int) - s0_5)) else a1) = ji3 := hji3
  obtain ⟨ji4, hji4⟩ : ∃ j_ : Int, (wrap64 ((wrap64 (s0_5 + (ji3))) - (ji3))) = j_ := ⟨_, rfl⟩
  replace H : (if 0 ≤ (ji4) then (if (ji4) ≤ (wrap64 (s0_5 + (ji3))) then (if (wrap64 (s0_5 + (ji3))) ≤ (s0_2.length : Int) then ((gangwayref0_CopyBytes.f k ((s0_2.take ((wrap64 (s0_5 + (ji3))) : Int).toNat).drop ((ji4) : Int).toNat)).bind fun t300 => (some (t300, s0_3, s0_4, wrap64 (s0_5 + (ji3))))) else (none)) else (none)) else (none)) = some (r1, r2, r3, r4) := by first | (rw [hji4] at H; exact H) | (simp only [hji4] at H ⊢; exact H)
  have hji4w : (IntKind.i64.wrap ((wrap64 (s0_5 + (ji3))) - (ji3))) = ji4 := (i64_w _).trans hji4
  by_cases c5 : 0 ≤ (ji4)
  · rw [if_pos c5] at H
    have c5b0 := eq_true c5
    have c5b1 : decide (0 ≤ (ji4)) = true := decide_eq_true c5
    clear c5
    by_cases c6 : (ji4) ≤ (wrap64 (s0_5 + (ji3)))
    · rw [if_pos c6] at H
      have c6b0 := eq_true c6
      have c6b1 : decide ((ji4) ≤ (wrap64 (s0_5 + (ji3)))) = true := decide_eq_true c6
      by_cases c7 : (wrap64 (s0_5 + (ji3))) ≤ (s0_2.length : Int)
      · rw [if_pos c7] at H
        have c7b0 := eq_true c7
        have c7b1 : decide ((wrap64 (s0_5 + (ji3))) ≤ (s0_2.length : Int)) = true := decide_eq_true c7
        obtain ⟨y296, hy296⟩ : ∃ y_ : List Int, y_ = ((s0_2.take ((wrap64 (s0_5 + (ji3))) : Int).toNat).drop ((ji4) : Int).toNat) := ⟨_, rfl⟩
        replace H : ((gangwayref0_CopyBytes.f k y296).bind fun t300 => (some (t300, s0_3, s0_4, wrap64 (s0_5 + (ji3))))) = some (r1, r2, r3, r4) := by first | (rw [hy296]; with_reducible exact H) | (have H2_ := (Option.bind_some _ _).symm.trans H; rw [hy296]; with_reducible exact H2_) | (have H2_ := (Option.bind_some _ _).symm.trans H; with_reducible exact H2_) | with_reducible exact H | (rw [hy296]; exact H) | exact H
        have Ny296 := Aside0.mk hy296
        clear hy296
        replace H := Option.bind_eq_some_iff.mp H
        obtain ⟨t300, A80, H⟩ := H
        replace H : (some (t300, s0_3, s0_4, wrap64 (s0_5 + (ji3)))) = some (r1, r2, r3, r4) := H
        have A8 := Aside0.mk A80
        clear A80
        simp only [Option.some.injEq, Prod.mk.injEq] at H
        obtain ⟨rfl, rfl, rfl, rfl⟩ := H
        go_enter Try.func21, Try.ntmps21
        try go_wp2
        have n0_ := Aside0.mk (IsS43.drew HI0.out)
        have n1_ := Aside0.mk (keep_drew HK.out)
        have n2_ := Aside0.mk (below_drew1 HB.out)
        clear HI0
        clear HK
        clear HB
        have HI0 := n0_
        have HK := n1_
        have HB := n2_
        clear n0_ n1_ n2_
        obtain ⟨ASz10_0, cSz10_0, ASz10_1, cSz10_1, ASz10_2, cSz10_2, HGz10, hgz10, HSz10_0, HSz10_1, HSz10_2⟩ := HI0.out
        refine start_ (n := 14) (S := fun w' => w'.cell? ⟨g, 2, none⟩ = some (.slice ASz10_2 s0_2.length cSz10_2) ∧ w'.cell? ⟨g, 5, none⟩ = some (.int .i64 s0_5)) (ds := []) #[false, false, false, false, false, false, false, false, false, false, false, false, false, false] (by kernel_rfl) rfl rfl ⟨(blk_cell HGz10 2).trans rfl, (blk_cell HGz10 5).trans rfl⟩ (fun hHeld => ?_); refine with_tabW gangwayref23_Feed_Stdin.tab1 gangwayref23_Feed_Stdin.bits1 (fun HT_ HW_ => ?_)
        generalize w.drew = w9 at HI0 HK HB hHeld ⊢
        refine pure_ (i := 0) (N := some 5) (v := ?_) (a' := ?_) #[true, false, false, false, false, false, false, false, false, false, false, false, false, false] rfl rfl (any_of HT_.out (by kernel_rfl)) (fun _ _ _ h => h) (Or.inl ⟨by rfl, ?_⟩) ?_ ?_
        rotate_left
        · intro w'
          go_simp
          with_reducible rfl
        rotate_left
        · simp only [Act.put, List.setIfInBounds_toArray, List.set_cons_zero, List.set_cons_succ, i64_w, i32_w]
          rfl
        refine pure_ (i := 1) (N := some 6) (v := ?_) (a' := ?_) #[true, true, false, false, false, false, false, false, false, false, false, false, false, false] rfl rfl (any_of HT_.out (by kernel_rfl)) (fun _ _ _ h => h) (Or.inl ⟨by rfl, ?_⟩) ?_ ?_
        rotate_left
        · intro w'
          go_simp
          with_reducible rfl
        rotate_left
        · simp only [Act.put, List.setIfInBounds_toArray, List.set_cons_zero, List.set_cons_succ, i64_w, i32_w]
          rfl
        refine pure_ (i := 2) (N := some 7) (v := ?_) (a' := ?_) #[true, true, true, false, false, false, false, false, false, false, false, false, false, false] rfl rfl (any_of HT_.out (by kernel_rfl)) (fun _ _ _ h => h) (Or.inl ⟨by rfl, ?_⟩) ?_ ?_
        rotate_left
        · intro w'
          go_simp
          with_reducible rfl
        rotate_left
        · simp only [Act.put, List.setIfInBounds_toArray, List.set_cons_zero, List.set_cons_succ, i64_w, i32_w]
          rfl
        refine pure_ (i := 3) (N := some 8) (v := ?_) (a' := ?_) #[true, true, true, true, false, false, false, false, false, false, false, false, false, false] rfl rfl (any_of HT_.out (by kernel_rfl)) (fun _ _ _ h => h) (Or.inl ⟨by rfl, ?_⟩) ?_ ?_
        rotate_left
        · intro w'
          go_simp
          with_reducible rfl
        rotate_left
        · simp only [Act.put, List.setIfInBounds_toArray, List.set_cons_zero, List.set_cons_succ, i64_w, i32_w]
          rfl
        refine pure_ (i := 4) (N := some 9) (v := ?_) (a' := ?_) #[true, true, true, true, true, false, false, false, false, false, false, false, false, false] rfl rfl (any_of HT_.out (by kernel_rfl)) (fun _ _ _ h => h) (Or.inl ⟨by rfl, ?_⟩) ?_ ?_
        rotate_left
        · intro w'
          go_simp
          with_reducible rfl
        rotate_left
        · simp only [Act.put, List.setIfInBounds_toArray, List.set_cons_zero, List.set_cons_succ, i64_w, i32_w]
          rfl
        refine pure_ (i := 7) (N := some 12) (v := ?_) (a' := ?_) #[true, true, true, true, true, false, false, true, false, false, false, false, false, false] rfl rfl (any_of HT_.out (by kernel_rfl)) (fun _ _ _ h => h) (Or.inl ⟨by rfl, ?_⟩) ?_ ?_
        rotate_left
        · intro w'
          go_simp
          with_reducible rfl
        rotate_left
        · simp only [Act.put, List.setIfInBounds_toArray, List.set_cons_zero, List.set_cons_succ, i64_w, i32_w]
          rfl
        refine pure_ (i := 8) (N := some 13) (v := ?_) (a' := ?_) #[true, true, true, true, true, false, false, true, true, false, false, false, false, false] rfl rfl (any_of HT_.out (by kernel_rfl)) (fun _ _ _ h => h) (Or.inl ⟨by rfl, ?_⟩) ?_ ?_
        rotate_left
        · intro w'
          go_simp
          with_reducible rfl
        rotate_left
        · simp only [Act.put, List.setIfInBounds_toArray, List.set_cons_zero, List.set_cons_succ, i64_w, i32_w]
          rfl
        refine pure_ (i := 9) (N := some 14) (v := ?_) (a' := ?_) #[true, true, true, true, true, false, false, true, true, true, false, false, false, false] rfl rfl (any_of HT_.out (by kernel_rfl)) (fun _ _ _ h => h) (Or.inl ⟨by rfl, ?_⟩) ?_ ?_
        rotate_left
        · intro w'
          go_simp
          with_reducible rfl
        rotate_left
        · simp only [Act.put, List.setIfInBounds_toArray, List.set_cons_zero, List.set_cons_succ, i64_w, i32_w]
          rfl
        refine take_ (i := 5) (N := some 10) (v := ?_) (a' := ?_) #[true, true, true, true, true, true, false, true, true, true, false, false, false, false] rfl rfl (take_ofW HT_.out HW_.out (by kernel_rfl)) (fun _ _ _ h => h) (Or.inl ⟨by rfl, ?_⟩) hHeld ?_ ?_
        rotate_left
        · rintro w' ⟨s0, s1⟩
          go_simp
          with_reducible rfl
        rotate_left
        · simp only [Act.put, List.setIfInBounds_toArray, List.set_cons_zero, List.set_cons_succ, i64_w, i32_w]
          rfl
        refine pure_ (i := 6) (N := some 11) (v := ?_) (a' := ?_) #[true, true, true, true, true, true, true, true, true, true, false, false, false, false] rfl rfl (any_of HT_.out (by kernel_rfl)) (fun _ _ _ h => h) (Or.inl ⟨by rfl, ?_⟩) ?_ ?_
        rotate_left
        · intro w'
          go_simp
          with_reducible rfl
        rotate_left
        · simp only [Act.put, List.setIfInBounds_toArray, List.set_cons_zero, List.set_cons_succ, i64_w, i32_w]
          rfl
        refine take_ (i := 10) (N := some 15) (v := ?_) (a' := ?_) #[true, true, true, true, true, true, true, true, true, true, true, false, false, false] rfl rfl (take_ofW HT_.out HW_.out (by kernel_rfl)) (fun _ _ _ h => h) (Or.inl ⟨by rfl, ?_⟩) hHeld ?_ ?_
        rotate_left
        · rintro w' ⟨s0, s1⟩
          go_simp
          with_reducible rfl
        rotate_left
        · simp only [Act.put, List.setIfInBounds_toArray, List.set_cons_zero, List.set_cons_succ, i64_w, i32_w]
          rfl
        refine pure_ (i := 11) (N := some 16) (v := ?_) (a' := ?_) #[true, true, true, true, true, true, true, true, true, true, true, true, false, false] rfl rfl (any_of HT_.out (by kernel_rfl)) (fun _ _ _ h => h) (Or.inl ⟨by rfl, ?_⟩) ?_ ?_
        rotate_left
        · intro w'
          go_simp
          with_reducible rfl
        rotate_left
        · simp only [Act.put, List.setIfInBounds_toArray, List.set_cons_zero, List.set_cons_succ, i64_w, i32_w]
          rfl
        refine pure_ (i := 12) (N := some 17) (v := ?_) (a' := ?_) #[true, true, true, true, true, true, true, true, true, true, true, true, true, false] rfl rfl (any_of HT_.out (by kernel_rfl)) (fun _ _ _ h => h) (Or.inl ⟨by rfl, ?_⟩) ?_ ?_
        rotate_left
        · intro w'
          go_simp
          with_reducible rfl
        rotate_left
        · simp only [Act.put, List.setIfInBounds_toArray, List.set_cons_zero, List.set_cons_succ, i64_w, i32_w]
          rfl
        refine pure_ (i := 13) (N := some 1) (v := ?_) (a' := ?_) #[true, true, true, true, true, true, true, true, true, true, true, true, true, true] rfl rfl (any_of HT_.out (by kernel_rfl)) (fun _ _ _ h => h) (Or.inl ⟨by rfl, ?_⟩) ?_ ?_
        rotate_left
        · intro w'
          go_simp
          with_reducible rfl
        rotate_left
        · simp only [Act.put, List.setIfInBounds_toArray, List.set_cons_zero, List.set_cons_succ, i64_w, i32_w]
          rfl
        refine done_ (done_of HT_.out (by kernel_rfl)) ?_
        obtain ⟨ASz11_0, cSz11_0, ASz11_1, cSz11_1, ASz11_2, cSz11_2, HGz11, hgz11, HSz11_0, HSz11_1, HSz11_2⟩ := HI0.out
        have hcz11_0 := cellS43_0 HGz11
        have hcz11_1 := cellS43_1 HGz11
        have hcz11_2 := cellS43_2 HGz11
        have hcz11_3 := cellS43_3 HGz11
        have hcz11_4 := cellS43_4 HGz11
        have hcz11_5 := cellS43_5 HGz11
        have hfz11_3 := blk_frozen HGz11 3
        have hfz11_4 := blk_frozen HGz11 4
        have hfz11_5 := blk_frozen HGz11 5
        clear HGz11 hgz11
        try go_wp2
        have n0_ : Aside0 (IsS43 w0 (w9.setCell ⟨g, 5, none⟩ (.int .i64 (wrap64 (s0_5 + (ji3))))) g s0_0 s0_1 s0_2 s0_3 s0_4 (wrap64 (s0_5 + (ji3)))) := ⟨by repeat (first | (with_reducible first | exact HI0.out | apply IsS43.alloc | apply IsS43.drewN | apply IsS43.drew | apply IsS43.set_3 | apply IsS43.set_4 | apply IsS43.set_5) | exact HI0.out)⟩
        have n1_ : Aside0 (KeepBut w (w9.setCell ⟨g, 5, none⟩ (.int .i64 (wrap64 (s0_5 + (ji3))))) g none) := ⟨by repeat (first | (with_reducible first | exact HK.out | apply KeepBut.set_ | apply keep_drewN | apply keep_drew | apply keep_alloc) | exact HK.out)⟩
        have n2_ : Aside0 (Below w0.heap.size w0 (w9.setCell ⟨g, 5, none⟩ (.int .i64 (wrap64 (s0_5 + (ji3)))))) := ⟨by repeat (first | (with_reducible first | exact HB.out | apply below_alloc | apply pw_below_drewN | apply below_drew1 | refine below_set ?_ (IsS43.ge HI0.out)) | exact HB.out)⟩
        (try clear HI0)
        (try clear HK)
        (try clear HB)
        generalize (w9.setCell ⟨g, 5, none⟩ (.int .i64 (wrap64 (s0_5 + (ji3))))) = w12 at n0_ n1_ n2_ ⊢
        have HI0 := n0_
        have HK := n1_
        have HB := n2_
        clear n0_ n1_ n2_
        have n0_ := Aside0.mk (IsS43.drew HI0.out)
        have n1_ := Aside0.mk (keep_drew HK.out)
        have n2_ := Aside0.mk (below_drew1 HB.out)
        clear HI0
        clear HK
        clear HB
        have HI0 := n0_
        have HK := n1_
        have HB := n2_
        clear n0_ n1_ n2_
        obtain ⟨ASz14_0, cSz14_0, ASz14_1, cSz14_1, ASz14_2, cSz14_2, HGz14, hgz14, HSz14_0, HSz14_1, HSz14_2⟩ := HI0.out
        have q15 : ((wrap64 (s0_5 + (ji3))) : Int) ≤ ((s0_2.length : Int) : Int) := of_decide_eq_true (by first | (with_reducible assumption) | assumption)
        obtain ⟨i015, hi015, _, hsz15, _⟩ := info_parts info5
        have hroom15 : s0_2.length ≤ cSz14_2 := HSz14_2.1
        have hC15 : Kd.C (Kd.int .u8) _ ASz14_2 s0_2.length s0_2 := (Kd.C_below HSz14_2.2 HB.out)
        have ql15 : ((ji4) : Int) ≤ ((wrap64 (s0_5 + (ji3))) : Int) := of_decide_eq_true (by first | (with_reducible assumption) | assumption)
        have q015 : (0 : Int) ≤ ((ji4) : Int) := of_decide_eq_true (by first | (with_reducible assumption) | assumption)
        have hcut15 := cut_mid (P := Try.prog) 23 5 .i64 .i64 Try.underlying23 hi015 1 hsz15 ASz14_2 s0_2.length cSz14_2 (ji4) (wrap64 (s0_5 + (ji3))) q015 ql15 q15 hroom15
        have hr15 := Kd.C_mid (lo := ((ji4) : Int).toNat) (hi := ((wrap64 (s0_5 + (ji3))) : Int).toNat) (c := cSz14_2) hC15 (by omega) (by omega) hroom15
        obtain ⟨A15, hA15⟩ : ∃ A1, A1 = (if cSz14_2 = ((ji4) : Int).toNat then ASz14_2 else (ASz14_2 : Option Addr).map (·.add (((ji4) : Int).toNat * 1))) := ⟨_, rfl⟩
        obtain ⟨c15, hc15⟩ : ∃ c1, c1 = cSz14_2 - ((ji4) : Int).toNat := ⟨_, rfl⟩
        have hy15 : y296.length = ((wrap64 (s0_5 + (ji3))) : Int).toNat - ((ji4) : Int).toNat := (by rw [Ny296.out, List.length_drop, List.length_take] <;> omega)
        rw [show ((s0_2).take ((wrap64 (s0_5 + (ji3))) : Int).toNat).drop ((ji4) : Int).toNat = y296 from Ny296.out.symm] at hr15
        replace hr15 : Kd.C (Kd.int .u8) _ A15 y296.length y296 := (by rw [hA15]; exact hr15)
        rw [← hy15, ← hA15, ← hc15] at hcut15
        have HR299 := Aside0.mk hr15
        have HC299 := Aside0.mk (show y296.length ≤ c15 from by rw [hy15, hc15]; exact Nat.sub_le_sub_right (Nat.le_trans (by omega) hroom15) _)
        clear hr15 hC15 hroom15 hi015 hsz15 hc15
        have KY15 := Aside0.mk hy15
        have KA15 := Aside0.mk hA15
        clear hy15 hA15
        replace q15 := eq_true q15
        refine start_ (n := 18) (S := fun w' => w'.cell? ⟨g, 2, none⟩ = some (.slice ASz14_2 s0_2.length cSz14_2) ∧ w'.cell? ⟨g, 5, none⟩ = some (.int .i64 (wrap64 (s0_5 + (ji3))))) (ds := []) #[false, false, false, false, false, false, false, false, false, false, false, false, false, false, false, false, false, false] (by kernel_rfl) rfl rfl ⟨(blk_cell HGz14 2).trans rfl, (blk_cell HGz14 5).trans rfl⟩ (fun hHeld => ?_); refine with_tabW gangwayref23_Feed_Stdin.tab3 gangwayref23_Feed_Stdin.bits3 (fun HT_ HW_ => ?_)
        generalize w12.drew = w13 at HI0 HK HB HR299 hHeld ⊢
        refine pure_ (i := 0) (N := some 27) (v := ?_) (a' := ?_) #[true, false, false, false, false, false, false, false, false, false, false, false, false, false, false, false, false, false] rfl rfl (any_of HT_.out (by kernel_rfl)) (fun _ _ _ h => h) (Or.inl ⟨by rfl, ?_⟩) ?_ ?_
        rotate_left
        · intro w'
          go_simp
          with_reducible rfl
        rotate_left
        · simp only [Act.put, List.setIfInBounds_toArray, List.set_cons_zero, List.set_cons_succ, i64_w, i32_w]
          rfl
        refine pure_ (i := 1) (N := some 28) (v := ?_) (a' := ?_) #[true, true, false, false, false, false, false, false, false, false, false, false, false, false, false, false, false, false] rfl rfl (any_of HT_.out (by kernel_rfl)) (fun _ _ _ h => h) (Or.inl ⟨by rfl, ?_⟩) ?_ ?_
        rotate_left
        · intro w'
          go_simp
          with_reducible rfl
        rotate_left
        · simp only [Act.put, List.setIfInBounds_toArray, List.set_cons_zero, List.set_cons_succ, i64_w, i32_w]
          rfl
        refine pure_ (i := 2) (N := some 29) (v := ?_) (a' := ?_) #[true, true, true, false, false, false, false, false, false, false, false, false, false, false, false, false, false, false] rfl rfl (any_of HT_.out (by kernel_rfl)) (fun _ _ _ h => h) (Or.inl ⟨by rfl, ?_⟩) ?_ ?_
        rotate_left
        · intro w'
          go_simp
          with_reducible rfl
        rotate_left
        · simp only [Act.put, List.setIfInBounds_toArray, List.set_cons_zero, List.set_cons_succ, i64_w, i32_w]
          rfl
        refine pure_ (i := 3) (N := some 30) (v := ?_) (a' := ?_) #[true, true, true, true, false, false, false, false, false, false, false, false, false, false, false, false, false, false] rfl rfl (any_of HT_.out (by kernel_rfl)) (fun _ _ _ h => h) (Or.inl ⟨by rfl, ?_⟩) ?_ ?_
        rotate_left
        · intro w'
          go_simp
          with_reducible rfl
        rotate_left
        · simp only [Act.put, List.setIfInBounds_toArray, List.set_cons_zero, List.set_cons_succ, i64_w, i32_w]
          rfl
        refine pure_ (i := 5) (N := some 32) (v := ?_) (a' := ?_) #[true, true, true, true, false, true, false, false, false, false, false, false, false, false, false, false, false, false] rfl rfl (any_of HT_.out (by kernel_rfl)) (fun _ _ _ h => h) (Or.inl ⟨by rfl, ?_⟩) ?_ ?_
        rotate_left
        · intro w'
          go_simp
          with_reducible rfl
        rotate_left
        · simp only [Act.put, List.setIfInBounds_toArray, List.set_cons_zero, List.set_cons_succ, i64_w, i32_w]
          rfl
        refine pure_ (i := 6) (N := some 33) (v := ?_) (a' := ?_) #[true, true, true, true, false, true, true, false, false, false, false, false, false, false, false, false, false, false] rfl rfl (any_of HT_.out (by kernel_rfl)) (fun _ _ _ h => h) (Or.inl ⟨by rfl, ?_⟩) ?_ ?_
        rotate_left
        · intro w'
          go_simp
          with_reducible rfl
        rotate_left
        · simp only [Act.put, List.setIfInBounds_toArray, List.set_cons_zero, List.set_cons_succ, i64_w, i32_w]
          rfl
        refine pure_ (i := 7) (N := some 34) (v := ?_) (a' := ?_) #[true, true, true, true, false, true, true, true, false, false, false, false, false, false, false, false, false, false] rfl rfl (any_of HT_.out (by kernel_rfl)) (fun _ _ _ h => h) (Or.inl ⟨by rfl, ?_⟩) ?_ ?_
        rotate_left
        · intro w'
          go_simp
          with_reducible rfl
        rotate_left
        · simp only [Act.put, List.setIfInBounds_toArray, List.set_cons_zero, List.set_cons_succ, i64_w, i32_w]
          rfl
        refine pure_ (i := 9) (N := some 36) (v := ?_) (a' := ?_) #[true, true, true, true, false, true, true, true, false, true, false, false, false, false, false, false, false, false] rfl rfl (any_of HT_.out (by kernel_rfl)) (fun _ _ _ h => h) (Or.inl ⟨by rfl, ?_⟩) ?_ ?_
        rotate_left
        · intro w'
          go_simp
          with_reducible rfl
        rotate_left
        · simp only [Act.put, List.setIfInBounds_toArray, List.set_cons_zero, List.set_cons_succ, i64_w, i32_w]
          rfl
        refine pure_ (i := 11) (N := some 38) (v := ?_) (a' := ?_) #[true, true, true, true, false, true, true, true, false, true, false, true, false, false, false, false, false, false] rfl rfl (any_of HT_.out (by kernel_rfl)) (fun _ _ _ h => h) (Or.inl ⟨by rfl, ?_⟩) ?_ ?_
        rotate_left
        · intro w'
          go_simp
          with_reducible rfl
        rotate_left
        · simp only [Act.put, List.setIfInBounds_toArray, List.set_cons_zero, List.set_cons_succ, i64_w, i32_w]
          rfl
        refine pure_ (i := 12) (N := some 39) (v := ?_) (a' := ?_) #[true, true, true, true, false, true, true, true, false, true, false, true, true, false, false, false, false, false] rfl rfl (any_of HT_.out (by kernel_rfl)) (fun _ _ _ h => h) (Or.inl ⟨by rfl, ?_⟩) ?_ ?_
        rotate_left
        · intro w'
          go_simp
          with_reducible rfl
        rotate_left
        · simp only [Act.put, List.setIfInBounds_toArray, List.set_cons_zero, List.set_cons_succ, i64_w, i32_w]
          rfl
        refine pure_ (i := 13) (N := some 40) (v := ?_) (a' := ?_) #[true, true, true, true, false, true, true, true, false, true, false, true, true, true, false, false, false, false] rfl rfl (any_of HT_.out (by kernel_rfl)) (fun _ _ _ h => h) (Or.inl ⟨by rfl, ?_⟩) ?_ ?_
        rotate_left
        · intro w'
          go_simp
          with_reducible rfl
        rotate_left
        · simp only [Act.put, List.setIfInBounds_toArray, List.set_cons_zero, List.set_cons_succ, i64_w, i32_w]
          rfl
        refine take_ (i := 4) (N := some 31) (v := ?_) (a' := ?_) #[true, true, true, true, true, true, true, true, false, true, false, true, true, true, false, false, false, false] rfl rfl (take_ofW HT_.out HW_.out (by kernel_rfl)) (fun _ _ _ h => h) (Or.inl ⟨by rfl, ?_⟩) hHeld ?_ ?_
        rotate_left
        · rintro w' ⟨s0, s1⟩
          go_simp
          with_reducible rfl
        rotate_left
        · simp only [Act.put, List.setIfInBounds_toArray, List.set_cons_zero, List.set_cons_succ, i64_w, i32_w]
          rfl
        refine take_ (i := 8) (N := some 35) (v := ?_) (a' := ?_) #[true, true, true, true, true, true, true, true, true, true, false, true, true, true, false, false, false, false] rfl rfl (take_ofW HT_.out HW_.out (by kernel_rfl)) (fun _ _ _ h => h) (Or.inl ⟨by rfl, ?_⟩) hHeld ?_ ?_
        rotate_left
        · rintro w' ⟨s0, s1⟩
          go_simp
          with_reducible rfl
        rotate_left
        · simp only [Act.put, List.setIfInBounds_toArray, List.set_cons_zero, List.set_cons_succ, i64_w, i32_w]
          rfl
        refine pure_ (i := 10) (N := some 37) (v := ?_) (a' := ?_) #[true, true, true, true, true, true, true, true, true, true, true, true, true, true, false, false, false, false] rfl rfl (any_of HT_.out (by kernel_rfl)) (fun _ _ _ h => h) (Or.inl ⟨by rfl, ?_⟩) ?_ ?_
        rotate_left
        · intro w'
          go_simp
          with_reducible rfl
        rotate_left
        · simp only [Act.put, List.setIfInBounds_toArray, List.set_cons_zero, List.set_cons_succ, i64_w, i32_w]
          rfl
        refine take_ (i := 14) (N := some 41) (v := ?_) (a' := ?_) #[true, true, true, true, true, true, true, true, true, true, true, true, true, true, true, false, false, false] rfl rfl (take_ofW HT_.out HW_.out (by kernel_rfl)) (fun _ _ _ h => h) (Or.inl ⟨by rfl, ?_⟩) hHeld ?_ ?_
        rotate_left
        · rintro w' ⟨s0, s1⟩
          go_simp
          with_reducible rfl
        rotate_left
        · simp only [Act.put, List.setIfInBounds_toArray, List.set_cons_zero, List.set_cons_succ, i64_w, i32_w]
          rfl
        refine pure_ (i := 15) (N := some 42) (v := ?_) (a' := ?_) #[true, true, true, true, true, true, true, true, true, true, true, true, true, true, true, true, false, false] rfl rfl (any_of HT_.out (by kernel_rfl)) (fun _ _ _ h => h) (Or.inl ⟨by rfl, ?_⟩) ?_ ?_
        rotate_left
        · intro w'
          go_simp
          with_reducible rfl
        rotate_left
        · simp only [Act.put, List.setIfInBounds_toArray, List.set_cons_zero, List.set_cons_succ, i64_w, i32_w]
          rfl
        refine one_ (i := 16) (N := some 43) #[true, true, true, true, true, true, true, true, true, true, true, true, true, true, true, true, true, false] rfl rfl (one_of HT_.out (by kernel_rfl)) (by decide) (fun K hK => ?_)
        refine goes_ Try.func28 (by kernel_rfl) rfl #[.slice A15 y296.length c15] (by rfl) rfl rfl (by (try simp only [List.map_toArray, List.map_cons, List.map_nil]); first | done | rfl | (simp only [List.length_drop, List.length_take]; rfl)) ?_
        with_reducible refine (gangwayref0_CopyBytes.calls k _ _ y296 t300 _ ?side1 ?side2 A8.out).mono ?_
        (case side1 => repeat (first | exact (by repeat (first | (with_reducible exact HR299.out) | (with_reducible refine Kd.C_alloc ?_ _) | (with_reducible refine Kd.C_drewN ?_ _) | (with_reducible refine Kd.C_drew ?_) | exact HR299.out)) | (with_reducible refine Kd.C_alloc ?_ _) | (with_reducible refine Kd.C_drewN ?_ _) | (with_reducible refine Kd.C_drew ?_)))
        (case side2 => exact HC299.out)
        rintro e w16 ⟨v301, rfl, ho0, hb⟩
        have HS0_ := (hb.cell (World.block_lt_of_cell? _ _ (hHeld.1))).trans (hHeld.1)
        have HS1_ := (hb.cell (World.block_lt_of_cell? _ _ (hHeld.2))).trans (hHeld.2)
        refine ⟨_, rfl, ?_⟩
        have n0_ := Aside0.mk (Kd.R_lower ho0 (keep_size (w := w) (g := g) (row := none) (by repeat (first | (with_reducible first | exact HK.out | apply KeepBut.set_ | apply keep_drewN | apply keep_drew | apply keep_alloc) | exact HK.out))))
        have n1_ := Aside0.mk (IsS43.below (by repeat (first | (with_reducible first | exact HI0.out | apply IsS43.alloc | apply IsS43.drewN | apply IsS43.drew | apply IsS43.set_3 | apply IsS43.set_4 | apply IsS43.set_5) | exact HI0.out)) hb)
        have n2_ := Aside0.mk (Kd.C_below (by repeat (first | (with_reducible exact HR299.out) | (with_reducible refine Kd.C_alloc ?_ _) | (with_reducible refine Kd.C_drewN ?_ _) | (with_reducible refine Kd.C_drew ?_) | exact HR299.out)) hb)
        have n3_ := Aside0.mk (KeepBut.trans (by repeat (first | (with_reducible first | exact HK.out | apply KeepBut.set_ | apply keep_drewN | apply keep_drew | apply keep_alloc) | exact HK.out)) (KeepBut.of_below hb g none) (.inl rfl))
        have n4_ := Aside0.mk (below_step (by repeat (first | (with_reducible first | exact HB.out | apply below_alloc | apply pw_below_drewN | apply below_drew1 | refine below_set ?_ (IsS43.ge HI0.out)) | exact HB.out)) hb)
        clear HI0
        clear HR299
        clear HK
        clear HB
        have HO302 := n0_
        have HI0 := n1_
        have HR299 := n2_
        have HK := n3_
        have HB := n4_
        clear n0_ n1_ n2_ n3_ n4_
        (try clear hb)
        (try clear hb2)
        (try clear hk)
        (try clear hi)
        (try clear ho0)
        refine hK.out _ _ ⟨HS0_, HS1_⟩ (fun hHeld => ?_)
        clear hK K
        refine norm_ (a' := ?_) ?_ ?_
        rotate_left
        · show Act.put _ (some 43) _ = _
          simp only [Act.put, List.setIfInBounds_toArray, List.set_cons_zero, List.set_cons_succ, i64_w, i32_w]
          rfl
        refine pure_ (i := 17) (N := some 4) (v := ?_) (a' := ?_) #[true, true, true, true, true, true, true, true, true, true, true, true, true, true, true, true, true, true] rfl rfl (any_of HT_.out (by kernel_rfl)) (fun _ _ _ h => h) (Or.inl ⟨by rfl, ?_⟩) ?_ ?_
        rotate_left
        · intro w'
          go_simp
          with_reducible rfl
        rotate_left
        · simp only [Act.put, List.setIfInBounds_toArray, List.set_cons_zero, List.set_cons_succ, i64_w, i32_w]
          rfl
        refine done_ (done_of HT_.out (by kernel_rfl)) ?_
        try go_wp2
        go_ret
        exact ⟨_, by first | rfl | (simp [errW_none, errW_some] <;> rfl) | (simp only [← hji3, ← hji4]; first | rfl | (simp [errW_none, errW_some] <;> rfl)) | (simp [*, errW_none, errW_some] <;> rfl), by (with_reducible repeat (first | apply Kd.R_alloc | apply Kd.R_drewN | apply Kd.R_drew)); exact HO302.out, by repeat (first | (with_reducible first | exact HI0.out | apply IsS43.alloc | apply IsS43.drewN | apply IsS43.drew | apply IsS43.set_3 | apply IsS43.set_4 | apply IsS43.set_5) | exact HI0.out), by repeat (first | (with_reducible first | exact HB.out | apply below_alloc | apply pw_below_drewN | apply below_drew1 | refine below_set ?_ (IsS43.ge HI0.out)) | exact HB.out), by repeat (first | (with_reducible first | exact HK.out | apply KeepBut.set_ | apply keep_drewN | apply keep_drew | apply keep_alloc) | exact HK.out)⟩
      · rw [if_neg c7] at H
        exact absurd H (by simp)
    · rw [if_neg c6] at H
      exact absurd H (by simp)
  · rw [if_neg c5] at H
    exact absurd H (by simp)

end Go.Proofs.Ytjpnjbpbajaloaa.PAll
