/- Printed by a copy of the printer that was turned for this claim: functions as plain Lean functions, with proofs that their calls come to these; or words that such proofs use. -/
import Derived.Test.YtjmajhalgdeicaaPAllx0
import Derived.Test.YtjmajhalgdeicaaPAllx1
namespace Go.Proofs.Ytjmajhalgdeicaa.PAll
open Go.RowKit Go.Proofs.YtjmajhalgdeicaaW.PrintWords Go.Proofs.YtjmajhalgdeicaaW.PrintLast Go.Proofs.YtjmajhalgdeicaaW.PrintMore
attribute [local go_sem] max2_int min2_int max_two min_two max_three min_three max_four min_four   -- for this text's walks alone
set_option linter.unusedVariables false
set_option linter.unusedSimpArgs false


/-! ### mem_Memory_Load: function 11 (by hand) -/
/-- Is it a place and a width that may be? -/
def mem_Memory_Load.form (a1 a2 a3 : Int) : Prop := (a3 = 1 ∨ a3 = 2 ∨ a3 = 4 ∨ a3 = 8) ∧ (0 ≤ a1 ∧ a1 < 4294967296) ∧ (0 ≤ a2 ∧ a2 < 4294967296)
instance (a1 a2 a3 : Int) : Decidable (mem_Memory_Load.form a1 a2 a3) := by unfold mem_Memory_Load.form; infer_instance
def mem_Memory_Load.sub (l : List Int) (a1 a2 a3 : Int) : List Int := (l.take (a1 + a2 + a3).toNat).drop (a1 + a2).toNat
def mem_Memory_Load.f (k : Nat) (l0_0 : List Int) (s0_1 : Int) (a1 a2 a3 : Int) : Option (Int × Int × List Int × Int) :=
  if mem_Memory_Load.form a1 a2 a3 then
    if a1 + a2 + a3 ≤ (l0_0.length : Int) then (mem_word_get.f k (mem_Memory_Load.sub l0_0 a1 a2 a3)).bind fun v => some (v, 0, l0_0, s0_1)
    else (mem_word_get.f k []).bind fun v => some (v, 21, l0_0, s0_1)
  else (mem_word_get.f k []).bind fun v => some (v, 100, l0_0, s0_1)
theorem mem_Memory_Load.mono : ∀ a0 a1 a2 a3 a4 k, LeO (mem_Memory_Load.f k a0 a1 a2 a3 a4) (mem_Memory_Load.f (k + 1) a0 a1 a2 a3 a4) := by
  intro a0 a1 a2 a3 a4 k
  unfold mem_Memory_Load.f
  exact LeO.ite (LeO.ite (LeO.bind (mem_word_get.mono _ _) (fun _ => LeO.refl _)) (LeO.bind (mem_word_get.mono _ _) (fun _ => LeO.refl _))) (LeO.bind (mem_word_get.mono _ _) (fun _ => LeO.refl _))
theorem mem_Memory_Load.there_ (l : List Int) (s a n : Int) (hl : l.length ≤ 9223372036854775807) (ha : 0 ≤ a) (hn : 0 ≤ n) :
    mem_Memory_there.f l s a n = some (decide (a + n ≤ (l.length : Int)), l, s) := by
  unfold mem_Memory_there.f
  rw [if_pos ha, if_pos hn]
  by_cases h2 : a ≤ (l.length : Int)
  · rw [if_pos h2]
    have : wrap64 ((l.length : Int) - a) = (l.length : Int) - a := by unfold wrap64; omega
    rw [this]
    congr 2
    simp only [decide_eq_decide]
    omega
  · rw [if_neg h2]
    congr 2
    simp
    omega
theorem mem_Memory_Load.addr_ (a : Int) : mem_address.f a = some (decide (0 ≤ a ∧ a < 4294967296)) := by
  unfold mem_address.f
  by_cases h : a ≥ 0
  · rw [if_pos h]; congr 1; simp only [decide_eq_decide]; omega
  · rw [if_neg h]; congr 1; simp; omega
theorem mem_Memory_Load.wrap_ {a b : Int} (ha : 0 ≤ a ∧ a < 4294967296) (hb : 0 ≤ b ∧ b < 4294967296) : wrap64 (a + b) = a + b := by unfold wrap64; omega
theorem mem_Memory_Load.sub_len (l : List Int) (a1 a2 a3 : Int) (h : 0 ≤ a1 ∧ 0 ≤ a2) (h3 : 0 < a3 ∧ a3 ≤ 8) (hin : a1 + a2 + a3 ≤ (l.length : Int)) : (mem_Memory_Load.sub l a1 a2 a3).length = (a1 + a2 + a3).toNat - (a1 + a2).toNat := by
  unfold mem_Memory_Load.sub
  rw [List.length_drop, List.length_take]
  omega
set_option maxHeartbeats 8000000 in
set_option maxRecDepth 100000 in
/-- 'word', where it is told 'may not be'. -/
theorem mem_Memory_Load.word_form (a1 a2 a3 : Int) (v0 : Value) (w : World) (hf : ¬ mem_Memory_Load.form a1 a2 a3) :
    Calls Try.prog 28 #[v0, .int .i64 a1, .int .i64 a2, .int .i64 a3] w fun e w' => e = .returned (.tuple #[.slice none 0 0, .int .i64 100]) ∧ Drawn0 w w' := by
  have hA1 := mem_Memory_Load.addr_ a1
  have hA2 := mem_Memory_Load.addr_ a2
  by_cases h3 : a3 = 1 ∨ a3 = 2 ∨ a3 = 4 ∨ a3 = 8
  · by_cases h1 : 0 ≤ a1 ∧ a1 < 4294967296
    · have h2 : ¬ (0 ≤ a2 ∧ a2 < 4294967296) := fun h2 => hf ⟨h3, h1, h2⟩
      rw [decide_eq_true h1] at hA1
      rw [decide_eq_false h2] at hA2
      have HA1 := Aside0.mk hA1
      have HA2 := Aside0.mk hA2
      clear hf h1 h2 hA1 hA2
      rcases h3 with rfl | rfl | rfl | rfl
      all_goals
        go_enter Try.func28, Try.ntmps28
        go_wp2_with (first
          | (go_at_call 33; (with_reducible refine (mem_address.calls a1 true _ HA1.out).mono ?_); rintro e w7 ⟨rfl, ⟨n7, rfl⟩⟩)
          | (go_at_call 33; (with_reducible refine (mem_address.calls a2 false _ HA2.out).mono ?_); rintro e w7 ⟨rfl, ⟨n7, rfl⟩⟩))
        go_ret2
        exact ⟨rfl, by repeat (first | exact Drawn0.refl _ | apply Drawn0.step)⟩
    · rw [decide_eq_false h1] at hA1
      have HA1 := Aside0.mk hA1
      clear hf h1 hA1 hA2
      rcases h3 with rfl | rfl | rfl | rfl
      all_goals
        go_enter Try.func28, Try.ntmps28
        go_wp2_with (first
          | (go_at_call 33; (with_reducible refine (mem_address.calls a1 false _ HA1.out).mono ?_); rintro e w7 ⟨rfl, ⟨n7, rfl⟩⟩))
        go_ret2
        exact ⟨rfl, by repeat (first | exact Drawn0.refl _ | apply Drawn0.step)⟩
  · have e1 : (a3 != 1) = true := by simp; omega
    have e2 : (a3 != 2) = true := by simp; omega
    have e4 : (a3 != 4) = true := by simp; omega
    have e8 : (a3 != 8) = true := by simp; omega
    clear hf h3 hA1 hA2
    go_enter Try.func28, Try.ntmps28
    go_wp2
    go_ret2
    exact ⟨rfl, by repeat (first | exact Drawn0.refl _ | apply Drawn0.step)⟩
set_option maxHeartbeats 8000000 in
set_option maxRecDepth 100000 in
/-- 'word', where bytes are there, or aren't. -/
theorem mem_Memory_Load.word_there (g : Nat) (P0_0_ : Nat → Prop) (u9000_ : Value) (l0_0 : List Int) (s0_1 : Int) (a1 a2 a3 : Int) (w0 w : World) (hI : IsS61 w0 w g u9000_ s0_1) (hB : Below w0.heap.size w0 w) (ho0_0 : Kd.R (Kd.int .u8) 5 w w0.heap.size P0_0_ u9000_ l0_0) (hf : mem_Memory_Load.form a1 a2 a3) (hin : a1 + a2 + a3 ≤ (l0_0.length : Int)) :
    Calls Try.prog 28 #[.pointer (some ⟨g, 0, none⟩), .int .i64 a1, .int .i64 a2, .int .i64 a3] w fun e w' => ∃ (b : Nat) (c : Nat) (c' : Nat), e = .returned (.tuple #[.slice (some ⟨b, (a1 + a2).toNat, none⟩) (mem_Memory_Load.sub l0_0 a1 a2 a3).length c', .int .i64 0]) ∧ (mem_Memory_Load.sub l0_0 a1 a2 a3).length ≤ c' ∧
      Kd.R (Kd.int .u8) 5 w' w0.heap.size (fun k_ => (P0_0_ k_ ∨ w.heap.size ≤ k_)) (.slice (some ⟨b, 0, none⟩) l0_0.length c) l0_0 ∧ IsS61 w0 w' g (.slice (some ⟨b, 0, none⟩) l0_0.length c) s0_1 ∧ Below w0.heap.size w0 w' ∧ Kept w w' (fun k_ => (P0_0_ k_) ∨ k_ = g) := by
  have hlen : l0_0.length ≤ 9223372036854775807 := by
    obtain ⟨A_, c_, rfl⟩ := Kd.R_slice ho0_0
    exact (Kd.R_reads' ho0_0).2.2.2.1
  obtain ⟨h3, h1, h2⟩ := hf
  have hA1 := mem_Memory_Load.addr_ a1
  have hA2 := mem_Memory_Load.addr_ a2
  rw [decide_eq_true h1] at hA1
  rw [decide_eq_true h2] at hA2
  have hW := mem_Memory_Load.wrap_ h1 h2
  have h30 : 0 < a3 ∧ a3 ≤ 8 := by omega
  have hW2 : wrap64 (a1 + a2 + a3) = a1 + a2 + a3 := by unfold wrap64; omega
  have hT0 := mem_Memory_Load.there_ l0_0 s0_1 (a1 + a2) a3 hlen (by omega) (by omega)
  rw [decide_eq_true hin] at hT0
  have HA1 := Aside0.mk hA1
  have HA2 := Aside0.mk hA2
  have HT := Aside0.mk hT0
  have HI := Aside0.mk hI
  have HB0 := Aside0.mk hB
  have HO := Aside0.mk ho0_0
  have HP := Aside0.mk (show (0 ≤ a1 ∧ 0 ≤ a2) ∧ (0 < a3 ∧ a3 ≤ 8) ∧ a1 + a2 + a3 ≤ (l0_0.length : Int) from ⟨⟨h1.1, h2.1⟩, h30, hin⟩)
  have HCf := Aside0.mk (show ∀ co : Nat, l0_0.length ≤ co → (mem_Memory_Load.sub l0_0 a1 a2 a3).length ≤ co - (a1 + a2).toNat from fun co hco => by
    rw [mem_Memory_Load.sub_len l0_0 a1 a2 _ HP.out.1 HP.out.2.1 HP.out.2.2]; have := HP.out; omega)
  clear hA1 hA2 hT0 hI hB ho0_0 h1 h2 h30 hlen hin
  rcases h3 with rfl | rfl | rfl | rfl
  all_goals
    go_enter Try.func28, Try.ntmps28
    go_wp2_with (first
      | (go_at_call 33; (with_reducible refine (mem_address.calls a1 true _ HA1.out).mono ?_); rintro e w7 ⟨rfl, ⟨n7, rfl⟩⟩)
      | (go_at_call 33; (with_reducible refine (mem_address.calls a2 true _ HA2.out).mono ?_); rintro e w7 ⟨rfl, ⟨n8, rfl⟩⟩)
      | (go_at_call 31
         (with_reducible refine (mem_Memory_there.calls g P0_0_ u9000_ l0_0 s0_1 (a1 + a2) _ true l0_0 s0_1 w0 _ ?sI ?sB ?sO HT.out).mono ?_)
         (case sI => repeat (first | exact HI.out | apply IsS61.drewN))
         (case sB => repeat (first | exact HB0.out | apply pw_below_drewN))
         (case sO => repeat (first | exact HO.out | apply Kd.R_drewN))
         rintro e w10 ⟨v155, rfl, ho0, hi, hb, hkp⟩
         have HK1 := Aside0.mk (show Kept w w10 (fun k_ => (P0_0_ k_) ∨ k_ = g) from hkp)
         have HB1 := Aside0.mk hb
         have HI1 := Aside0.mk hi
         have HO1 := Aside0.mk (show Kd.R (Kd.int .u8) 5 w10 w0.heap.size (fun k_ => (P0_0_ k_ ∨ w.heap.size ≤ k_)) v155 l0_0 from ho0)
         clear hkp hb hi ho0
         obtain ⟨Ao, co, eo, gb4, gl4, cl4, HG4⟩ := Kd.R_form HO1.out (by have := HP.out; omega)
         subst eo
         clear gb4 gl4 HG4
         obtain ⟨HGz, _⟩ := HI1.out
         have hcz0 := cellS61_0 HGz
         have hcz1 := cellS61_1 HGz
         have hfz0 := blk_frozen HGz 0
         have hfz1 := blk_frozen HGz 1
         clear HGz
         obtain ⟨i012, hi012, _, hsz12, _⟩ := info_parts info5
         have hcap := (Kd.R_reads' HO1.out).2.1
         have hcut := cut_mid (P := Try.prog) 40 5 .i64 .i64 Try.underlying40 hi012 1 hsz12 (some ⟨Ao, 0, none⟩) l0_0.length co (a1 + a2) _ (by have := HP.out; omega) (by have := HP.out; omega) HP.out.2.2 hcap
         have hne : ¬ co = (a1 + a2).toNat := by have := HP.out; omega
         rw [if_neg hne] at hcut
         rw [show (Option.map (fun x => x.add ((a1 + a2).toNat * 1)) (some (⟨Ao, 0, none⟩ : Addr))) = some ⟨Ao, (a1 + a2).toNat, none⟩ from by unfold Addr.add; by_cases hl : (a1 + a2).toNat = 0 <;> simp [hl]] at hcut
         have HCAP := Aside0.mk (HCf.out co hcap)
         clear hi012 hsz12 hne hcap))
    go_ret2
    exact ⟨Ao, co, _, by rw [mem_Memory_Load.sub_len l0_0 a1 a2 _ HP.out.1 HP.out.2.1 HP.out.2.2]; rfl, HCAP.out, HO1.out, HI1.out, HB1.out, HK1.out⟩
set_option maxHeartbeats 8000000 in
set_option maxRecDepth 100000 in
theorem mem_Memory_Load.word_fault (g : Nat) (P0_0_ : Nat → Prop) (u9000_ : Value) (l0_0 : List Int) (s0_1 : Int) (a1 a2 a3 : Int) (w0 w : World) (hI : IsS61 w0 w g u9000_ s0_1) (hB : Below w0.heap.size w0 w) (ho0_0 : Kd.R (Kd.int .u8) 5 w w0.heap.size P0_0_ u9000_ l0_0) (hf : mem_Memory_Load.form a1 a2 a3) (hin : ¬ a1 + a2 + a3 ≤ (l0_0.length : Int)) :
    Calls Try.prog 28 #[.pointer (some ⟨g, 0, none⟩), .int .i64 a1, .int .i64 a2, .int .i64 a3] w fun e w' => ∃ v1_ : Value, e = .returned (.tuple #[.slice none 0 0, .int .i64 21]) ∧
      Kd.R (Kd.int .u8) 5 w' w0.heap.size (fun k_ => (P0_0_ k_ ∨ w.heap.size ≤ k_)) v1_ l0_0 ∧ IsS61 w0 w' g v1_ s0_1 ∧ Below w0.heap.size w0 w' ∧ Kept w w' (fun k_ => (P0_0_ k_) ∨ k_ = g) := by
  have hlen : l0_0.length ≤ 9223372036854775807 := by
    obtain ⟨A_, c_, rfl⟩ := Kd.R_slice ho0_0
    exact (Kd.R_reads' ho0_0).2.2.2.1
  obtain ⟨h3, h1, h2⟩ := hf
  have hA1 := mem_Memory_Load.addr_ a1
  have hA2 := mem_Memory_Load.addr_ a2
  rw [decide_eq_true h1] at hA1
  rw [decide_eq_true h2] at hA2
  have hW := mem_Memory_Load.wrap_ h1 h2
  have h30 : 0 < a3 ∧ a3 ≤ 8 := by omega
  have hT0 := mem_Memory_Load.there_ l0_0 s0_1 (a1 + a2) a3 hlen (by omega) (by omega)
  rw [decide_eq_false hin] at hT0
  have HA1 := Aside0.mk hA1
  have HA2 := Aside0.mk hA2
  have HT := Aside0.mk hT0
  have HI := Aside0.mk hI
  have HB0 := Aside0.mk hB
  have HO := Aside0.mk ho0_0
  clear hA1 hA2 hT0 hI hB ho0_0 h1 h2 h30 hlen hin
  rcases h3 with rfl | rfl | rfl | rfl
  all_goals
    go_enter Try.func28, Try.ntmps28
    go_wp2_with (first
      | (go_at_call 33; (with_reducible refine (mem_address.calls a1 true _ HA1.out).mono ?_); rintro e w7 ⟨rfl, ⟨n7, rfl⟩⟩)
      | (go_at_call 33; (with_reducible refine (mem_address.calls a2 true _ HA2.out).mono ?_); rintro e w7 ⟨rfl, ⟨n8, rfl⟩⟩)
      | (go_at_call 31
         (with_reducible refine (mem_Memory_there.calls g P0_0_ u9000_ l0_0 s0_1 (a1 + a2) _ false l0_0 s0_1 w0 _ ?sI ?sB ?sO HT.out).mono ?_)
         (case sI => repeat (first | exact HI.out | apply IsS61.drewN))
         (case sB => repeat (first | exact HB0.out | apply pw_below_drewN))
         (case sO => repeat (first | exact HO.out | apply Kd.R_drewN))
         rintro e w10 ⟨v155, rfl, ho0, hi, hb, hkp⟩
         have HK1 := Aside0.mk (show Kept w w10 (fun k_ => (P0_0_ k_) ∨ k_ = g) from hkp)
         have HB1 := Aside0.mk hb
         have HI1 := Aside0.mk hi
         have HO1 := Aside0.mk (show Kd.R (Kd.int .u8) 5 w10 w0.heap.size (fun k_ => (P0_0_ k_ ∨ w.heap.size ≤ k_)) v155 l0_0 from ho0)
         clear hkp hb hi ho0))
    go_ret2
    exact ⟨_, rfl, HO1.out, HI1.out, HB1.out, HK1.out⟩
theorem mem_Memory_Load.get_nil (k : Nat) (v : Int) (w : World) (h : mem_word_get.f k [] = some v) :
    Calls Try.prog 29 #[.slice none 0 0] w fun e w' => e = .returned (.int .u64 v) ∧ Drawn0 w w' :=
  mem_word_get.calls k none 0 [] v w ⟨rfl, by simp, fun h => absurd h (by simp)⟩ (Nat.le_refl _) h
set_option maxHeartbeats 8000000 in
set_option maxRecDepth 100000 in
theorem mem_Memory_Load.calls (k : Nat) (g : Nat) (P0_0_ : Nat → Prop) (u9000_ : Value) (l0_0 : List Int) (s0_1 : Int) (a1 : Int) (a2 : Int) (a3 : Int) (r1 : Int) (r2 : Int) (r3 : List Int) (r4 : Int) (w0 w : World) (hI : IsS61 w0 w g u9000_ s0_1) (hB : Below w0.heap.size w0 w) (ho0_0 : Kd.R (Kd.int .u8) 5 w w0.heap.size P0_0_ u9000_ l0_0) (h : mem_Memory_Load.f k l0_0 s0_1 a1 a2 a3 = some (r1, r2, r3, r4)) :
    Calls Try.prog 11 #[.pointer (some ⟨g, 0, none⟩), .int .i64 a1, .int .i64 a2, .int .i64 a3] w fun e w' => ∃ v2_ : Value, e = .returned (.tuple #[.int .u64 r1, .int .i64 r2]) ∧ Kd.R (Kd.int .u8) 5 w' w0.heap.size (fun k_ => (P0_0_ k_ ∨ w.heap.size ≤ k_)) v2_ r3 ∧ IsS61 w0 w' g v2_ r4 ∧ Below w0.heap.size w0 w' ∧ Kept w w' (fun k_ => (P0_0_ k_) ∨ k_ = g) := by
  unfold mem_Memory_Load.f at h
  by_cases hf : mem_Memory_Load.form a1 a2 a3
  · rw [if_pos hf] at h
    by_cases hin : a1 + a2 + a3 ≤ (l0_0.length : Int)
    · rw [if_pos hin] at h
      obtain ⟨v, hv, h⟩ := Option.bind_eq_some_iff.mp h
      simp only [Option.some.injEq, Prod.mk.injEq] at h
      obtain ⟨rfl, rfl, rfl, rfl⟩ := h
      have HV := Aside0.mk hv
      have HI := Aside0.mk hI
      have HB0 := Aside0.mk hB
      have HO := Aside0.mk ho0_0
      have HF := Aside0.mk hf
      have HN := Aside0.mk hin
      have HP := Aside0.mk (show (0 ≤ a1 ∧ 0 ≤ a2) ∧ (0 < a3 ∧ a3 ≤ 8) ∧ a1 + a2 + a3 ≤ (l0_0.length : Int) from ⟨⟨hf.2.1.1, hf.2.2.1⟩, by have := hf.1; omega, hin⟩)
      clear hv hI hB ho0_0 hf hin
      go_enter Try.func11, Try.ntmps11
      go_wp2_with (first
        | ((with_reducible refine gate_callee (f := 28) rfl ?_); refine goesL_ (some 18) rfl rfl Try.func28 (by kernel_rfl) rfl #[.pointer (some ⟨g, 0, none⟩), .int .i64 a1, .int .i64 a2, .int .i64 a3] rfl (by (try simp only [List.map_toArray, List.map_cons, List.map_nil]); first | done | rfl) ?_
           (with_reducible refine (mem_Memory_Load.word_there g P0_0_ u9000_ l0_0 s0_1 a1 a2 a3 w0 _ HI.out HB0.out HO.out HF.out HN.out).mono ?_)
           rintro e w10 ⟨b, c, c', rfl, hc', ho0, hi, hb, hkp⟩
           refine ⟨_, rfl, ?_⟩
           have HK1 := Aside0.mk hkp
           have HB1 := Aside0.mk hb
           have HI1 := Aside0.mk hi
           have HO1 := Aside0.mk ho0
           have HC1 := Aside0.mk hc'
           have hCm := Kd.C_mid (lo := (a1 + a2).toNat) (hi := (a1 + a2 + a3).toNat) (Kd.R_reads' ho0).2.2 (by have := HP.out; omega) (by have := HP.out; omega) (Kd.R_reads' ho0).2.1
           rw [if_neg (by have := HP.out; have := (Kd.R_reads' ho0).2.1; omega : ¬ c = (a1 + a2).toNat)] at hCm
           rw [show (Option.map (fun x => x.add ((a1 + a2).toNat * (Kd.int .u8).sz)) (some (⟨b, 0, none⟩ : Addr))) = some ⟨b, (a1 + a2).toNat, none⟩ from by
             show (some ((⟨b, 0, none⟩ : Addr).add ((a1 + a2).toNat * 1))) = _
             unfold Addr.add; by_cases hl : (a1 + a2).toNat = 0 <;> simp [hl]] at hCm
           have HCM := Aside0.mk (show Kd.C (Kd.int .u8) w10 (some ⟨b, (a1 + a2).toNat, none⟩) (mem_Memory_Load.sub l0_0 a1 a2 a3).length (mem_Memory_Load.sub l0_0 a1 a2 a3) from hCm)
           clear hkp hb hi ho0 hc' hCm)
        | (go_at_call 29; (with_reducible refine (mem_word_get.calls k _ _ _ _ _ HCM.out HC1.out HV.out).mono ?_); rintro e w7 ⟨rfl, ⟨n7, rfl⟩⟩))
      go_ret2
      exact ⟨_, rfl, Kd.R_drewN HO1.out _, IsS61.drewN HI1.out _, pw_below_drewN HB1.out _, Kept.drewN HK1.out _⟩
    · rw [if_neg hin] at h
      obtain ⟨v, hv, h⟩ := Option.bind_eq_some_iff.mp h
      simp only [Option.some.injEq, Prod.mk.injEq] at h
      obtain ⟨rfl, rfl, rfl, rfl⟩ := h
      have HV := Aside0.mk hv
      have HI := Aside0.mk hI
      have HB0 := Aside0.mk hB
      have HO := Aside0.mk ho0_0
      have HF := Aside0.mk hf
      have HN := Aside0.mk hin
      clear hv hI hB ho0_0 hf hin
      go_enter Try.func11, Try.ntmps11
      go_wp2_with (first
        | ((with_reducible refine gate_callee (f := 28) rfl ?_); refine goesL_ (some 18) rfl rfl Try.func28 (by kernel_rfl) rfl #[.pointer (some ⟨g, 0, none⟩), .int .i64 a1, .int .i64 a2, .int .i64 a3] rfl (by (try simp only [List.map_toArray, List.map_cons, List.map_nil]); first | done | rfl) ?_
           (with_reducible refine (mem_Memory_Load.word_fault g P0_0_ u9000_ l0_0 s0_1 a1 a2 a3 w0 _ HI.out HB0.out HO.out HF.out HN.out).mono ?_)
           rintro e w10 ⟨v1_, rfl, ho0, hi, hb, hkp⟩
           refine ⟨_, rfl, ?_⟩
           have HK1 := Aside0.mk hkp
           have HB1 := Aside0.mk hb
           have HI1 := Aside0.mk hi
           have HO1 := Aside0.mk ho0
           clear hkp hb hi ho0)
        | (go_at_call 29; (with_reducible refine (mem_Memory_Load.get_nil k _ _ HV.out).mono ?_); rintro e w7 ⟨rfl, ⟨n7, rfl⟩⟩))
      go_ret2
      exact ⟨_, rfl, Kd.R_drewN HO1.out _, IsS61.drewN HI1.out _, pw_below_drewN HB1.out _, Kept.drewN HK1.out _⟩
  · rw [if_neg hf] at h
    obtain ⟨v, hv, h⟩ := Option.bind_eq_some_iff.mp h
    simp only [Option.some.injEq, Prod.mk.injEq] at h
    obtain ⟨rfl, rfl, rfl, rfl⟩ := h
    have HV := Aside0.mk hv
    have HI := Aside0.mk hI
    have HB0 := Aside0.mk hB
    have HO := Aside0.mk ho0_0
    have HF := Aside0.mk hf
    clear hv hI hB ho0_0 hf
    go_enter Try.func11, Try.ntmps11
    go_wp2_with (first
      | ((with_reducible refine gate_callee (f := 28) rfl ?_); refine goesL_ (some 18) rfl rfl Try.func28 (by kernel_rfl) rfl #[.pointer (some ⟨g, 0, none⟩), .int .i64 a1, .int .i64 a2, .int .i64 a3] rfl (by (try simp only [List.map_toArray, List.map_cons, List.map_nil]); first | done | rfl) ?_
         (with_reducible refine (mem_Memory_Load.word_form a1 a2 a3 _ _ HF.out).mono ?_)
         rintro e w10 ⟨rfl, ⟨n6, rfl⟩⟩
         refine ⟨_, rfl, ?_⟩)
      | (go_at_call 29; (with_reducible refine (mem_Memory_Load.get_nil k _ _ HV.out).mono ?_); rintro e w7 ⟨rfl, ⟨n7, rfl⟩⟩))
    go_ret2
    exact ⟨_, rfl, Kd.R_mono (Kd.R_drewN HO.out _) (fun _ hk => .inl hk), IsS61.drewN HI.out _, pw_below_drewN HB0.out _, Kept.drewN (Kept.refl _ _) _⟩


-- NOT PRINTED: function 30 (mem_word_set)


/-! ### mem_Memory_Store: function 12 (by hand) -/
def mem_Memory_Store.f (l0_0 : List Int) (s0_1 : Int) (a1 a2 a3 a4 : Int) : Option (Int × List Int × Int) :=
  some (if mem_Memory_Load.form a1 a2 a3 then
    if a1 + a2 + a3 ≤ (l0_0.length : Int) then (0, Go.Proofs.YtjmajhalgdeicaaU.splice l0_0 (a1 + a2).toNat (Go.Proofs.YtjmajhalgdeicaaU.le a4 a3.toNat), s0_1)
    else (21, l0_0, s0_1)
  else (100, l0_0, s0_1))
set_option maxHeartbeats 8000000 in
set_option maxRecDepth 100000 in
theorem mem_Memory_Store.set_nil (v : Int) (w : World) : Calls Try.prog 30 #[.slice none 0 0, .int .u64 v] w fun e w' => e = .returned (.tuple #[]) ∧ Drawn0 w w' := by
  go_enter Try.func30, Try.ntmps30
  go_wp2
  go_loopg [7] 1 (fun kq v7 w' => v7 = .int .i64 0 ∧ Aside0 (Drawn0 w w'))
  case atStart => exact ⟨rfl, ⟨Drawn0.refl _⟩⟩
  case round =>
    obtain ⟨rfl, HD⟩ := hrel
    go_wp2
    first | go_end0 | ((try simp only [Exit.inBlock, Exit.then]); refine bodyPost_ret (results_none rfl _ _ _) rfl ?_)
    exact ⟨rfl, HD.out⟩
set_option maxHeartbeats 8000000 in
set_option maxRecDepth 100000 in
theorem mem_Memory_Store.set_ (b c c' lo n : Nat) (P_ : Nat → Prop) (l : List Int) (v : Int) (w0 w : World) (hB : Below w0.heap.size w0 w) (ho : Kd.R (Kd.int .u8) 5 w w0.heap.size P_ (.slice (some ⟨b, 0, none⟩) l.length c) l) (hn : lo + n ≤ l.length) (h8 : n ≤ 8) :
    Calls Try.prog 30 #[.slice (some ⟨b, lo, none⟩) n c', .int .u64 v] w fun e w' => e = .returned (.tuple #[]) ∧ Kd.R (Kd.int .u8) 5 w' w0.heap.size P_ (.slice (some ⟨b, 0, none⟩) l.length c) (Go.Proofs.YtjmajhalgdeicaaU.splice l lo (Go.Proofs.YtjmajhalgdeicaaU.le v n)) ∧ Below w0.heap.size w0 w' ∧ w.grownBy w' (some b) := by
  have HB := Aside0.mk hB
  have HO := Aside0.mk ho
  have HN := Aside0.mk (show lo + n ≤ l.length ∧ n ≤ 8 from ⟨hn, h8⟩)
  clear hB ho hn h8
  go_enter Try.func30, Try.ntmps30
  go_wp2
  go_loopg [7] n (fun kq v7 w' => ∃ i : Nat, v7 = .int .i64 (i : Int) ∧ Aside0 (kq + i = n) ∧ Aside0 (Kd.R (Kd.int .u8) 5 w' w0.heap.size P_ (.slice (some ⟨b, 0, none⟩) l.length c) (Go.Proofs.YtjmajhalgdeicaaU.splice l lo (Go.Proofs.YtjmajhalgdeicaaU.le v i))) ∧ Aside0 (Below w0.heap.size w0 w') ∧ Aside0 (w.grownBy w' (some b)))
  case atStart => exact ⟨0, rfl, ⟨rfl⟩, ⟨by rw [Go.Proofs.YtjmajhalgdeicaaU.le_zero, Go.Proofs.YtjmajhalgdeicaaU.splice_nil]; exact HO.out⟩, HB, ⟨World.grownBy.refl w _⟩⟩
  case round =>
    obtain ⟨i, rfl, HK1, HO1, HB1, HG1⟩ := hrel
    by_cases hlt : i < n
    · obtain ⟨k1, rfl⟩ : ∃ k1, gk = k1 + 1 := ⟨gk - 1, by have := HK1.out; omega⟩
      have HLT := Aside0.mk hlt
      have hd : decide ((i : Int) < (n : Int)) = true := decide_eq_true (by omega)
      have hd2 : decide (i < n) = true := decide_eq_true hlt
      have hw8 : wrap64 (8 * (i : Int)) = 8 * (i : Int) := by have := HN.out; unfold wrap64; omega
      have hw1 : wrap64 ((i : Int) + 1) = ((i + 1 : Nat) : Int) := (Go.Proofs.YtjmajhalgdeicaaU.w64 (by omega) (by have := HN.out; omega)).trans (by simp)
      obtain ⟨hx, hf⟩ := Kd.R_celln 0 HO1.out ((lo + i : Nat) : Int) (by omega) (by have := HN.out; omega)
      have hput := Kd.R_putg HO1.out ((lo + i : Nat) : Int) (v / 2 ^ (8 * i) % 256)
      simp only [Int.toNat_natCast] at hx hf hput
      have HP := Aside0.mk hput
      have hsp : (Go.Proofs.YtjmajhalgdeicaaU.splice l lo (Go.Proofs.YtjmajhalgdeicaaU.le v i)).set (lo + i) (v / 2 ^ (8 * i) % 256) = Go.Proofs.YtjmajhalgdeicaaU.splice l lo (Go.Proofs.YtjmajhalgdeicaaU.le v (i + 1)) := by
        have h1 := Go.Proofs.YtjmajhalgdeicaaU.splice_set (b := l) (i := lo) (p := Go.Proofs.YtjmajhalgdeicaaU.le v i) (v / 2 ^ (8 * i) % 256) (by rw [Go.Proofs.YtjmajhalgdeicaaU.le_length]; have := HN.out; omega)
        rw [Go.Proofs.YtjmajhalgdeicaaU.le_length] at h1
        rw [h1, Go.Proofs.YtjmajhalgdeicaaU.le_succ]
      have HSP := Aside0.mk hsp
      clear hput hsp hlt
      have c0 := eq_true (show 0 ≤ 8 * (i : Int) by omega)
      have c1 : decide (0 ≤ 8 * (i : Int)) = true := decide_eq_true (by omega)
      have c2 : decide (0 ≤ (i : Int)) = true := decide_eq_true (by omega)
      obtain ⟨q, hq⟩ : ∃ q, v / 2 ^ (8 * i) = q := ⟨_, rfl⟩
      have hsh : v / 2 ^ min (8 * (i : Int)).toNat 64 = q := by rw [show min (8 * (i : Int)).toNat 64 = 8 * i from by have := HN.out; have := HLT.out; omega]; exact hq
      have hsz : 8 * (i : Int) ≤ 64 → v / 2 ^ (8 * (i : Int)).toNat = q := fun _ => by rw [show (8 * (i : Int)).toNat = 8 * i from by omega]; exact hq
      rw [hq] at HP HSP
      clear hq
      have hge := (Kd.R_base HO1.out b rfl)
      have HGE := Aside0.mk hge
      clear hge
      have c3 := eq_true HLT.out
      go_wp2
      go_roundg k1
      case measure => have := HK1.out; omega
      case rel => exact ⟨i + 1, by first | rfl | (congr 1), ⟨by have := HK1.out; omega⟩, ⟨by rw [← HSP.out]; exact HP.out.1⟩, ⟨below_set HB1.out HGE.out⟩, ⟨HG1.out.trans HP.out.2⟩⟩
    · have hd : decide ((i : Int) < (n : Int)) = false := decide_eq_false (by omega)
      have hd2 : decide (i < n) = false := decide_eq_false hlt
      have c3 := eq_false hlt
      have HE := Aside0.mk (show i = n by have := HK1.out; omega)
      clear hlt
      go_wp2
      first | go_end0 | ((try simp only [Exit.inBlock, Exit.then]); refine bodyPost_ret (results_none rfl _ _ _) rfl ?_)
      exact ⟨rfl, by rw [← HE.out]; exact HO1.out, HB1.out, HG1.out⟩
set_option maxHeartbeats 8000000 in
set_option maxRecDepth 100000 in
theorem mem_Memory_Store.calls (g : Nat) (P0_0_ : Nat → Prop) (u9000_ : Value) (l0_0 : List Int) (s0_1 : Int) (a1 : Int) (a2 : Int) (a3 : Int) (a4 : Int) (r1 : Int) (r2 : List Int) (r3 : Int) (w0 w : World) (hI : IsS61 w0 w g u9000_ s0_1) (hB : Below w0.heap.size w0 w) (ho0_0 : Kd.R (Kd.int .u8) 5 w w0.heap.size P0_0_ u9000_ l0_0) (h : mem_Memory_Store.f l0_0 s0_1 a1 a2 a3 a4 = some (r1, r2, r3)) :
    Calls Try.prog 12 #[.pointer (some ⟨g, 0, none⟩), .int .i64 a1, .int .i64 a2, .int .i64 a3, .int .u64 a4] w fun e w' => ∃ v1_ : Value, e = .returned (.int .i64 r1) ∧ Kd.R (Kd.int .u8) 5 w' w0.heap.size (fun k_ => (P0_0_ k_ ∨ w.heap.size ≤ k_)) v1_ r2 ∧ IsS61 w0 w' g v1_ r3 ∧ Below w0.heap.size w0 w' ∧ Kept w w' (fun k_ => (P0_0_ k_) ∨ k_ = g) := by
  by_cases hf : mem_Memory_Load.form a1 a2 a3
  · by_cases hin : a1 + a2 + a3 ≤ (l0_0.length : Int)
    · simp only [mem_Memory_Store.f, if_pos hf, if_pos hin, Option.some.injEq, Prod.mk.injEq] at h
      obtain ⟨rfl, rfl, rfl⟩ := h
      have HI := Aside0.mk hI
      have HB0 := Aside0.mk hB
      have HO := Aside0.mk ho0_0
      have HF := Aside0.mk hf
      have HN := Aside0.mk hin
      have HP := Aside0.mk (show (0 ≤ a1 ∧ 0 ≤ a2) ∧ (0 < a3 ∧ a3 ≤ 8) ∧ a1 + a2 + a3 ≤ (l0_0.length : Int) from ⟨⟨hf.2.1.1, hf.2.2.1⟩, by have := hf.1; omega, hin⟩)
      have HS := Aside0.mk (show (mem_Memory_Load.sub l0_0 a1 a2 a3).length = a3.toNat by
        rw [mem_Memory_Load.sub_len l0_0 a1 a2 a3 HP.out.1 HP.out.2.1 HP.out.2.2]; have := HP.out; omega)
      clear hI hB ho0_0 hf hin
      go_enter Try.func12, Try.ntmps12
      go_wp2_with (first
        | ((with_reducible refine gate_callee (f := 28) rfl ?_); refine goesL_ (some 19) rfl rfl Try.func28 (by kernel_rfl) rfl #[.pointer (some ⟨g, 0, none⟩), .int .i64 a1, .int .i64 a2, .int .i64 a3] rfl (by (try simp only [List.map_toArray, List.map_cons, List.map_nil]); first | done | rfl) ?_
           (with_reducible refine (mem_Memory_Load.word_there g P0_0_ u9000_ l0_0 s0_1 a1 a2 a3 w0 _ HI.out HB0.out HO.out HF.out HN.out).mono ?_)
           rintro e w10 ⟨b, c, c', rfl, hc', ho0, hi, hb, hkp⟩
           refine ⟨_, rfl, ?_⟩
           have HK1 := Aside0.mk hkp
           have HB1 := Aside0.mk hb
           have HI1 := Aside0.mk hi
           have HO1 := Aside0.mk ho0
           clear hkp hb hi ho0 hc')
        | (go_at_call 30
           (with_reducible refine (mem_Memory_Store.set_ b c c' (a1 + a2).toNat _ _ l0_0 a4 w0 _ HB1.out HO1.out (by rw [HS.out]; have := HP.out; omega) (by rw [HS.out]; have := HP.out; omega)).mono ?_)
           rintro e w12 ⟨rfl, ho, hb, hg⟩
           have HO2 := Aside0.mk ho
           have HB2 := Aside0.mk hb
           have HI2 := Aside0.mk (HI1.out.grown hg (IsS61.own_ne HI1.out HO1.out (by decide)))
           have HK2 := Aside0.mk (Kept.of_grown (S := (fun k_ => (P0_0_ k_) ∨ k_ = g)) hg HK1.out (fun k_ e_ => Or.imp_left Or.inl (HO1.out.1 k_ e_)))
           clear ho hb hg))
      go_ret
      refine ⟨.slice (some ⟨b, 0, none⟩) l0_0.length c, rfl, ?_, HI2.out, HB2.out, HK2.out⟩
      have := HO2.out
      rwa [HS.out] at this
    · simp only [mem_Memory_Store.f, if_pos hf, if_neg hin, Option.some.injEq, Prod.mk.injEq] at h
      obtain ⟨rfl, rfl, rfl⟩ := h
      have HI := Aside0.mk hI
      have HB0 := Aside0.mk hB
      have HO := Aside0.mk ho0_0
      have HF := Aside0.mk hf
      have HN := Aside0.mk hin
      clear hI hB ho0_0 hf hin
      go_enter Try.func12, Try.ntmps12
      go_wp2_with (first
        | ((with_reducible refine gate_callee (f := 28) rfl ?_); refine goesL_ (some 19) rfl rfl Try.func28 (by kernel_rfl) rfl #[.pointer (some ⟨g, 0, none⟩), .int .i64 a1, .int .i64 a2, .int .i64 a3] rfl (by (try simp only [List.map_toArray, List.map_cons, List.map_nil]); first | done | rfl) ?_
           (with_reducible refine (mem_Memory_Load.word_fault g P0_0_ u9000_ l0_0 s0_1 a1 a2 a3 w0 _ HI.out HB0.out HO.out HF.out HN.out).mono ?_)
           rintro e w10 ⟨v1_, rfl, ho0, hi, hb, hkp⟩
           refine ⟨_, rfl, ?_⟩
           have HK1 := Aside0.mk hkp
           have HB1 := Aside0.mk hb
           have HI1 := Aside0.mk hi
           have HO1 := Aside0.mk ho0
           clear hkp hb hi ho0)
        | (go_at_call 30; (with_reducible refine (mem_Memory_Store.set_nil a4 _).mono ?_); rintro e w7 ⟨rfl, ⟨n7, rfl⟩⟩))
      go_ret
      exact ⟨_, rfl, Kd.R_drewN HO1.out _, IsS61.drewN HI1.out _, pw_below_drewN HB1.out _, Kept.drewN HK1.out _⟩
  · simp only [mem_Memory_Store.f, if_neg hf, Option.some.injEq, Prod.mk.injEq] at h
    obtain ⟨rfl, rfl, rfl⟩ := h
    have HI := Aside0.mk hI
    have HB0 := Aside0.mk hB
    have HO := Aside0.mk ho0_0
    have HF := Aside0.mk hf
    clear hI hB ho0_0 hf
    go_enter Try.func12, Try.ntmps12
    go_wp2_with (first
      | ((with_reducible refine gate_callee (f := 28) rfl ?_); refine goesL_ (some 19) rfl rfl Try.func28 (by kernel_rfl) rfl #[.pointer (some ⟨g, 0, none⟩), .int .i64 a1, .int .i64 a2, .int .i64 a3] rfl (by (try simp only [List.map_toArray, List.map_cons, List.map_nil]); first | done | rfl) ?_
         (with_reducible refine (mem_Memory_Load.word_form a1 a2 a3 _ _ HF.out).mono ?_)
         rintro e w10 ⟨rfl, ⟨n6, rfl⟩⟩
         refine ⟨_, rfl, ?_⟩)
      | (go_at_call 30; (with_reducible refine (mem_Memory_Store.set_nil a4 _).mono ?_); rintro e w7 ⟨rfl, ⟨n7, rfl⟩⟩))
    go_ret
    exact ⟨_, rfl, Kd.R_mono (Kd.R_drewN HO.out _) (fun _ hk => .inl hk), IsS61.drewN HI.out _, pw_below_drewN HB0.out _, Kept.drewN (Kept.refl _ _) _⟩


/-! ### gangwaylaw9_wakes: function 13 -/
def gangwaylaw9_wakes.f (k : Nat)  : Option (Bool) := (mem_New.f k 1 (-1) 2).bind fun bt115 => (if bt115.1 = true then ((gangwaylaw9_num.f bt115.2.2.2).bind fun t122 => (if t122 = 0 then ((mem_Memory_Store.f bt115.2.1 bt115.2.2.1 5 3 4 7).bind fun bt123 => ((gangwaylaw9_num.f bt123.1).bind fun t128 => (if t128 = 0 then ((mem_Memory_Load.f k bt123.2.1 bt123.2.2 8 0 4).bind fun bt136 => ((gangwaylaw9_num.f bt136.2.1).bind fun t142 => (if t142 = 0 then (some (bt136.1 == 7)) else (none)))) else (none)))) else (none))) else (none))
theorem gangwaylaw9_wakes.mono : ∀ k, LeO (gangwaylaw9_wakes.f k ) (gangwaylaw9_wakes.f (k + 1) ) := by
  intro  k
  unfold gangwaylaw9_wakes.f
  repeat' first
      | (with_reducible exact mem_Memory_Load.mono _ _ _ _ _ _)
      | (with_reducible exact mem_New.mono _ _ _ _)
      | (with_reducible exact LeO.refl _)
      | (with_reducible exact LeO.none _)
      | (with_reducible refine LeO.ite ?_ ?_)
      | (with_reducible refine LeO.bind ?_ (fun _ => ?_))
      | exact mem_Memory_Load.mono _ _ _ _ _ _
      | exact mem_New.mono _ _ _ _
      | exact LeO.none _
      | refine LeO.ite ?_ ?_
      | refine LeO.bind ?_ (fun _ => ?_)
set_option maxHeartbeats 8000000 in
set_option maxRecDepth 100000 in
theorem gangwaylaw9_wakes.calls (k : Nat)  (r : Bool) (w : World) (h : gangwaylaw9_wakes.f k  = some r) :
    Calls Try.prog 13 #[] w fun e w' => e = .returned (.bool r) ∧ Below w.heap.size w w' := by
  have hu23 := Try.underlying23
  have HB := Aside0.mk (Below.refl w.heap.size w)
  have H : ((mem_New.f k 1 (-1) 2).bind fun bt115 => (if bt115.1 = true then ((gangwaylaw9_num.f bt115.2.2.2).bind fun t122 => (if t122 = 0 then ((mem_Memory_Store.f bt115.2.1 bt115.2.2.1 5 3 4 7).bind fun bt123 => ((gangwaylaw9_num.f bt123.1).bind fun t128 => (if t128 = 0 then ((mem_Memory_Load.f k bt123.2.1 bt123.2.2 8 0 4).bind fun bt136 => ((gangwaylaw9_num.f bt136.2.1).bind fun t142 => (if t142 = 0 then (some (bt136.1 == 7)) else (none)))) else (none)))) else (none))) else (none))) = some r := h
  clear h
  replace H := Option.bind_eq_some_iff.mp H
  obtain ⟨⟨t115, t116, t119, t121⟩, A10, H⟩ := H
  replace H : (if t115 = true then ((gangwaylaw9_num.f t121).bind fun t122 => (if t122 = 0 then ((mem_Memory_Store.f t116 t119 5 3 4 7).bind fun bt123 => ((gangwaylaw9_num.f bt123.1).bind fun t128 => (if t128 = 0 then ((mem_Memory_Load.f k bt123.2.1 bt123.2.2 8 0 4).bind fun bt136 => ((gangwaylaw9_num.f bt136.2.1).bind fun t142 => (if t142 = 0 then (some (bt136.1 == 7)) else (none)))) else (none)))) else (none))) else (none)) = some r := H
  have A1 := Aside0.mk A10
  clear A10
  by_cases c2 : t115 = true
  · subst c2
    have H1 : ((gangwaylaw9_num.f t121).bind fun t122 => (if t122 = 0 then ((mem_Memory_Store.f t116 t119 5 3 4 7).bind fun bt123 => ((gangwaylaw9_num.f bt123.1).bind fun t128 => (if t128 = 0 then ((mem_Memory_Load.f k bt123.2.1 bt123.2.2 8 0 4).bind fun bt136 => ((gangwaylaw9_num.f bt136.2.1).bind fun t142 => (if t142 = 0 then (some (bt136.1 == 7)) else (none)))) else (none)))) else (none))) = some r := by rw [if_pos rfl] at H; exact H
    clear H
    have H := H1
    clear H1
    replace H := Option.bind_eq_some_iff.mp H
    obtain ⟨t122, A30, H⟩ := H
    replace H : (if t122 = 0 then ((mem_Memory_Store.f t116 t119 5 3 4 7).bind fun bt123 => ((gangwaylaw9_num.f bt123.1).bind fun t128 => (if t128 = 0 then ((mem_Memory_Load.f k bt123.2.1 bt123.2.2 8 0 4).bind fun bt136 => ((gangwaylaw9_num.f bt136.2.1).bind fun t142 => (if t142 = 0 then (some (bt136.1 == 7)) else (none)))) else (none)))) else (none)) = some r := H
    have A3 := Aside0.mk A30
    clear A30
    by_cases c4 : t122 = 0
    · rw [if_pos c4] at H
      have c4b0 : (t122 == 0) = true := beq_iff_eq.mpr c4
      have c4b1 : (t122 != 0) = false := bne_eq_false_iff_eq.mpr c4
      clear c4
      replace H := Option.bind_eq_some_iff.mp H
      obtain ⟨⟨t123, t124, t127⟩, A50, H⟩ := H
      replace H : ((gangwaylaw9_num.f t123).bind fun t128 => (if t128 = 0 then ((mem_Memory_Load.f k t124 t127 8 0 4).bind fun bt136 => ((gangwaylaw9_num.f bt136.2.1).bind fun t142 => (if t142 = 0 then (some (bt136.1 == 7)) else (none)))) else (none))) = some r := H
      have A5 := Aside0.mk A50
      clear A50
      replace H := Option.bind_eq_some_iff.mp H
      obtain ⟨t128, A60, H⟩ := H
      replace H : (if t128 = 0 then ((mem_Memory_Load.f k t124 t127 8 0 4).bind fun bt136 => ((gangwaylaw9_num.f bt136.2.1).bind fun t142 => (if t142 = 0 then (some (bt136.1 == 7)) else (none)))) else (none)) = some r := H
      have A6 := Aside0.mk A60
      clear A60
      by_cases c7 : t128 = 0
      · rw [if_pos c7] at H
        have c7b0 : (t128 == 0) = true := beq_iff_eq.mpr c7
        have c7b1 : (t128 != 0) = false := bne_eq_false_iff_eq.mpr c7
        clear c7
        replace H := Option.bind_eq_some_iff.mp H
        obtain ⟨⟨t136, t137, t138, t141⟩, A80, H⟩ := H
        replace H : ((gangwaylaw9_num.f t137).bind fun t142 => (if t142 = 0 then (some (t136 == 7)) else (none))) = some r := H
        have A8 := Aside0.mk A80
        clear A80
        replace H := Option.bind_eq_some_iff.mp H
        obtain ⟨t142, A90, H⟩ := H
        replace H : (if t142 = 0 then (some (t136 == 7)) else (none)) = some r := H
        have A9 := Aside0.mk A90
        clear A90
        by_cases c10 : t142 = 0
        · rw [if_pos c10] at H
          have c10b0 : (t142 == 0) = true := beq_iff_eq.mpr c10
          have c10b1 : (t142 != 0) = false := bne_eq_false_iff_eq.mpr c10
          clear c10
          obtain rfl := Option.some.inj H
          go_enter Try.func13, Try.ntmps13
          go_wp2_with (first | ((with_reducible refine gate_callee (f := 7) rfl ?_); refine goesL_ (some 7) rfl rfl Try.func7 (by kernel_rfl) rfl #[.agg #[.int .i64 1, .int .i64 (-1)], .int .i64 2] rfl (by (try simp only [List.map_toArray, List.map_cons, List.map_nil]); first | done | rfl | (simp only [List.length_drop, List.length_take]; rfl)) ?_; (with_reducible refine (mem_New.calls k 1 (-1) 2 true t116 t119 t121 _ A1.out).mono ?_); rintro e w11 ⟨v117, pz120, rfl, ho0, hz120, hb⟩; refine ⟨_, rfl, ?_⟩; have n0_ := Aside0.mk (Kd.R_lower ho0 (below_size (by repeat (first | (with_reducible first | exact HB.out | apply below_alloc | apply pw_below_drewN | apply below_drew1) | exact HB.out)))); have n1_ := Aside0.mk ((show (true = true → ∃ g_ : Nat, pz120 = .pointer (some ⟨g_, 0, none⟩) ∧ IsS61 w w11 g_ v117 t119) ∧ (true = false → pz120 = .pointer none) from ⟨fun h_ => (hz120.1 h_).elim fun g_ hg_ => ⟨g_, hg_.1, hg_.2.lower ((below_size (by repeat (first | (with_reducible first | exact HB.out | apply below_alloc | apply pw_below_drewN | apply below_drew1) | exact HB.out))))⟩, hz120.2⟩)); have n2_ := Aside0.mk (below_step (by repeat (first | (with_reducible first | exact HB.out | apply below_alloc | apply pw_below_drewN | apply below_drew1) | exact HB.out)) hb); clear HB; have HO118 := n0_; have HZ120 := n1_; have HB := n2_; clear n0_ n1_ n2_; (try clear hb); (try clear hb2); (try clear hk); (try clear hi); (try clear ho0); obtain ⟨g120, e_, hi_⟩ := HZ120.out.1 rfl; subst e_; have HI120 := Aside0.mk hi_; clear hi_ HZ120) | ((with_reducible refine gate_callee (f := 8) rfl ?_); refine goesL_ (some 11) rfl rfl Try.func8 (by kernel_rfl) rfl #[.int .i64 t121] rfl (by (try simp only [List.map_toArray, List.map_cons, List.map_nil]); first | done | rfl | (simp only [List.length_drop, List.length_take]; rfl)) ?_; (with_reducible refine (gangwaylaw9_num.calls t121 t122 _ A3.out).mono ?_); rintro e w' ⟨rfl, ⟨nd, rfl⟩⟩; refine ⟨_, rfl, ?_⟩) | (go_at_call 12; (with_reducible refine (mem_Memory_Store.calls g120 (fun k_ => some k_ = (v117 : Value).ownBlock) v117 t116 t119 5 3 4 7 t123 t124 t127 w _ ?side1 ?side2 ?side3 A5.out).mono ?_); (case side1 => repeat (first | (with_reducible first | exact HI120.out | apply IsS61.alloc | apply IsS61.drewN | apply IsS61.drew | apply IsS61.set_0 | apply IsS61.set_1) | exact HI120.out)); (case side2 => repeat (first | (with_reducible first | exact HB.out | apply below_alloc | apply pw_below_drewN | apply below_drew1 | refine below_set ?_ (IsS61.ge HI120.out)) | exact HB.out)); (case side3 => exact Kd.R_tight rfl HO118.out); rintro e w12 ⟨v125, rfl, ho0, hi, hb, hkp⟩; have n0_ := Aside0.mk (hi); have n1_ := Aside0.mk (Kd.R_mono (ok' := fun k_ => True) ho0 (fun k_ hk_ => trivial)); have n2_ := Aside0.mk (hb); clear HI120; clear HB; clear HO118; have HI120 := n0_; have HO126 := n1_; have HB := n2_; clear n0_ n1_ n2_; (try clear hb); (try clear hkp); (try clear ho0)) | (go_at_call 8; (with_reducible refine (gangwaylaw9_num.calls t123 t128 _ A6.out).mono ?_); rintro e w' ⟨rfl, ⟨nd, rfl⟩⟩) | ((with_reducible refine gate_callee (f := 11) rfl ?_); refine goesL_ (some 25) rfl rfl Try.func11 (by kernel_rfl) rfl #[.pointer (some ⟨g120, 0, none⟩), .int .i64 8, .int .i64 0, .int .i64 4] rfl (by (try simp only [List.map_toArray, List.map_cons, List.map_nil]); first | done | rfl | (simp only [List.length_drop, List.length_take]; rfl)) ?_; (with_reducible refine (mem_Memory_Load.calls k g120 (fun k_ => some k_ = (v125 : Value).ownBlock) v125 t124 t127 8 0 4 t136 t137 t138 t141 w _ ?side1 ?side2 ?side3 A8.out).mono ?_); (case side1 => repeat (first | (with_reducible first | exact HI120.out | apply IsS61.alloc | apply IsS61.drewN | apply IsS61.drew | apply IsS61.set_0 | apply IsS61.set_1) | exact HI120.out)); (case side2 => repeat (first | (with_reducible first | exact HB.out | apply below_alloc | apply pw_below_drewN | apply below_drew1 | refine below_set ?_ (IsS61.ge HI120.out)) | exact HB.out)); (case side3 => exact Kd.R_tight rfl HO126.out); rintro e w13 ⟨v139, rfl, ho0, hi, hb, hkp⟩; refine ⟨_, rfl, ?_⟩; have n0_ := Aside0.mk (hi); have n1_ := Aside0.mk (Kd.R_mono (ok' := fun k_ => True) ho0 (fun k_ hk_ => trivial)); have n2_ := Aside0.mk (hb); clear HI120; clear HB; clear HO126; have HI120 := n0_; have HO140 := n1_; have HB := n2_; clear n0_ n1_ n2_; (try clear hb); (try clear hkp); (try clear ho0)) | ((with_reducible refine gate_callee (f := 8) rfl ?_); refine goesL_ (some 29) rfl rfl Try.func8 (by kernel_rfl) rfl #[.int .i64 t137] rfl (by (try simp only [List.map_toArray, List.map_cons, List.map_nil]); first | done | rfl | (simp only [List.length_drop, List.length_take]; rfl)) ?_; (with_reducible refine (gangwaylaw9_num.calls t137 t142 _ A9.out).mono ?_); rintro e w' ⟨rfl, ⟨nd, rfl⟩⟩; refine ⟨_, rfl, ?_⟩))
          go_ret
          exact ⟨by first | rfl | (simp [errW_none, errW_some] <;> rfl) | (simp [*, errW_none, errW_some] <;> rfl), by repeat (first | (with_reducible first | exact HB.out | apply below_alloc | apply pw_below_drewN | apply below_drew1 | refine below_set ?_ (IsS61.ge HI120.out)) | exact HB.out)⟩
        · rw [if_neg c10] at H
          exact absurd H (by simp)
      · rw [if_neg c7] at H
        exact absurd H (by simp)
    · rw [if_neg c4] at H
      exact absurd H (by simp)
  · replace c2 := Bool.eq_false_iff.mpr c2
    subst c2
    have H1 : (none) = some r := by rw [if_neg (show ¬ (false = true) by decide)] at H; exact H
    clear H
    have H := H1
    clear H1
    exact absurd H (by simp)

end Go.Proofs.Ytjmajhalgdeicaa.PAll
