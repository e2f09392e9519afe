/- Printed by a copy of the printer that was turned for this claim: functions as plain Lean functions, with proofs that their calls come to these; or words that such proofs use. -/
import Derived.Test.YtpaodfhhnhbacaaPAllx0
import Derived.Test.YtpaodfhhnhbacaaPAllx1
import Derived.Test.YtpaodfhhnhbacaaPAllx3
import Derived.Test.YtpaodfhhnhbacaaPAllx4
import Derived.Test.YtpaodfhhnhbacaaPAllx5
namespace Go.Proofs.Ytpaodfhhnhbacaa.PAll
open Go.RowKit Go.Proofs.YtpaodfhhnhbacaaW.PrintWords Go.Proofs.YtpaodfhhnhbacaaW.PrintLast Go.Proofs.YtpaodfhhnhbacaaW.PrintMore
attribute [local go_sem] max2_int min2_int max_two min_two max_three min_three max_four min_four   -- for this text's walks alone
set_option linter.unusedVariables false
set_option linter.unusedSimpArgs false

/-! ### mem_word_get: function 34 -/
def mem_word_get.l0 : Nat → Int → List Int → Int → Int → Option (Int)
  | 0, _, _, _, _ => none
  | k + 1, x2, x5, x6, x7 => if x7 < x6 then (if 0 ≤ x7 then (if x7 < (x5.length : Int) then (if 0 ≤ (wrap64 (8 * x7)) then (mem_word_get.l0 k (Go.bits .or .u64 x2 (shl .u64 (IntKind.u64.wrap (rd x5 x7)) (wrap64 (8 * x7)))) x5 x6 (wrap64 (x7 + 1))) else (none)) else (none)) else (none)) else (some x2)
def mem_word_get.f (k : Nat) (l0 : List Int) : Option (Int) := mem_word_get.l0 k 0 l0 (l0.length : Int) 0
theorem mem_word_get.mono_l : ∀ k, (∀ y0 y1 y2 y3, LeO (mem_word_get.l0 k y0 y1 y2 y3) (mem_word_get.l0 (k + 1) y0 y1 y2 y3))
  | 0 => fun _ _ _ _ r h => by simp [mem_word_get.l0] at h
  | k + 1 => by
    have ih0 := mem_word_get.mono_l k
    · intro y0 y1 y2 y3
      unfold mem_word_get.l0
      repeat' first
      | (with_reducible exact ih0 _ _ _ _)
      | (with_reducible exact LeO.refl _)
      | (with_reducible exact LeO.none _)
      | (with_reducible refine LeO.ite ?_ ?_)
      | (with_reducible refine LeO.bind ?_ (fun _ => ?_))
      | exact ih0 _ _ _ _
      | exact LeO.none _
      | refine LeO.ite ?_ ?_
      | refine LeO.bind ?_ (fun _ => ?_)
theorem mem_word_get.mono : ∀ a0 k, LeO (mem_word_get.f k a0) (mem_word_get.f (k + 1) a0) := by
  intro a0 k
  have ih0 := mem_word_get.mono_l k
  unfold mem_word_get.f
  repeat' first
      | (with_reducible exact ih0 _ _ _ _)
      | (with_reducible exact LeO.refl _)
      | (with_reducible exact LeO.none _)
      | (with_reducible refine LeO.ite ?_ ?_)
      | (with_reducible refine LeO.bind ?_ (fun _ => ?_))
      | exact ih0 _ _ _ _
      | exact LeO.none _
      | refine LeO.ite ?_ ?_
      | refine LeO.bind ?_ (fun _ => ?_)
set_option maxHeartbeats 8000000 in
set_option maxRecDepth 100000 in
theorem mem_word_get.calls (k : Nat) (A0 : Option Addr) (c0 : Nat) (l0 : List Int) (r : Int) (w : World) (hr0 : Kd.C (Kd.int .u8) w A0 l0.length l0) (hc0 : l0.length ≤ c0) (h : mem_word_get.f k l0 = some r) :
    Calls Try.prog 34 #[.slice A0 l0.length c0] w fun e w' => e = .returned (.int .u64 r) ∧ Drawn0 w w' := by
  have HR0 := Aside0.mk hr0
  have HC0 := Aside0.mk hc0
  clear hr0 hc0
  have H : (mem_word_get.l0 k 0 l0 (l0.length : Int) 0) = some r := h
  clear h
  have H' := Aside0.mk H
  clear H
  go_enter Try.func34, Try.ntmps34
  go_wp2
  go_loopg [2, 7] k (fun kq v2 v7 w' => ∃ (x2_1 : Int) (x7_1 : Int), v2 = .int .u64 x2_1 ∧ v7 = .int .i64 x7_1 ∧ Aside0 (mem_word_get.l0 kq x2_1 l0 (l0.length : Int) x7_1 = some r) ∧ Aside0 (kq ≤ k) ∧ Drawn0 w w')
  case atStart => exact ⟨(0), (0), (by first | rfl | (simp; done) | (simp [*]; done)), (by first | rfl | (simp; done) | (simp [*]; done)), H', ⟨Nat.le_refl _⟩, by repeat (first | exact Drawn0.refl _ | apply Drawn0.step)⟩
  case round =>
    clear H'
    obtain ⟨x2_1, x7_1, rfl, rfl, HA, HK1, ⟨m1, rfl⟩⟩ := hrel
    cases gk with
    | zero => exact absurd HA.out (by simp [mem_word_get.l0])
    | succ k1 =>
      have H := HA.out
      clear HA
      simp only [mem_word_get.l0] at H
      by_cases c2 : x7_1 < (l0.length : Int)
      · rw [if_pos c2] at H
        have c2b0 : decide (x7_1 < (l0.length : Int)) = true := decide_eq_true c2
        clear c2
        by_cases c3 : 0 ≤ x7_1
        · rw [if_pos c3] at H
          have c3b0 : decide (0 ≤ x7_1) = true := decide_eq_true c3
          clear c3
          by_cases c4 : x7_1 < (l0.length : Int)
          · rw [if_pos c4] at H
            have c4b0 : decide (x7_1 < (l0.length : Int)) = true := decide_eq_true c4
            clear c4
            obtain ⟨ji5, hji5⟩ : ∃ j_ : Int, (wrap64 (8 * x7_1)) = j_ := ⟨_, rfl⟩
            replace H : (if 0 ≤ (ji5) then (mem_word_get.l0 k1 (Go.bits .or .u64 x2_1 (shl .u64 (IntKind.u64.wrap (rd l0 x7_1)) (ji5))) l0 (l0.length : Int) (wrap64 (x7_1 + 1))) else (none)) = some r := by first | (rw [hji5] at H; exact H) | (simp only [hji5] at H ⊢; exact H)
            have hji5w : (IntKind.i64.wrap (8 * x7_1)) = ji5 := (i64_w _).trans hji5
            by_cases c6 : 0 ≤ (ji5)
            · rw [if_pos c6] at H
              have c6b0 := eq_true c6
              have c6b1 : decide (0 ≤ (ji5)) = true := decide_eq_true c6
              clear c6
              obtain ⟨ji7, hji7⟩ : ∃ j_ : Int, (shl .u64 (IntKind.u64.wrap (rd l0 x7_1)) (ji5)) = j_ := ⟨_, rfl⟩
              replace H : (mem_word_get.l0 k1 (Go.bits .or .u64 x2_1 (ji7)) l0 (l0.length : Int) (wrap64 (x7_1 + 1))) = some r := by first | (rw [hji7] at H; exact H) | (simp only [hji7] at H ⊢; exact H)
              have hji7_ : (IntKind.u64.wrap ((IntKind.u64.wrap (rd l0 x7_1)) * 2 ^ min (ji5).toNat 64)) = ji7 := hji7
              have hji7z : (ji5) ≤ 64 → (IntKind.u64.wrap ((IntKind.u64.wrap (rd l0 x7_1)) * 2 ^ (ji5).toNat)) = ji7 := shl_small hji7
              have H' := Aside0.mk H
              clear H
              have p232 : 0 ≤ (x7_1 : Int) := of_decide_eq_true (by first | (with_reducible assumption) | assumption)
              have q232 : x7_1 < (l0.length : Int) := of_decide_eq_true (by first | (with_reducible assumption) | assumption)
              obtain ⟨ad232, e232, hx232_0⟩ := Kd.at_int HR0.out x7_1 p232 q232
              cases e232
              replace p232 := eq_true p232
              replace q232 := eq_true q232
              go_wp2
              go_roundg k1
              case measure => have := HK1.out; omega
              case rel => exact ⟨(Go.bits .or .u64 x2_1 (ji7)), (wrap64 (x7_1 + 1)), (by first | rfl | (simp; done) | (simp only [← hji7] <;> (first | rfl | simp)) | (simp [*]; done)), (by first | rfl | (simp; done) | (simp [*]; done)), H', ⟨by have := HK1.out; omega⟩, by repeat (first | exact Drawn0.refl _ | apply Drawn0.step)⟩
            · rw [if_neg c6] at H
              exact absurd H (by simp)
          · rw [if_neg c4] at H
            exact absurd H (by simp)
        · rw [if_neg c3] at H
          exact absurd H (by simp)
      · rw [if_neg c2] at H
        have c2b0 : decide (x7_1 < (l0.length : Int)) = false := decide_eq_false c2
        clear c2
        obtain rfl := Option.some.inj H
        go_wp2
        go_ret
        exact ⟨by first | rfl | (simp; done) | (simp [*]; done), by repeat (first | exact Drawn0.refl _ | apply Drawn0.step)⟩


/-! ### mem_Memory_Load: function 20 (by hand) -/
/-- Is it a place and a width that may be? -/
def mem_Memory_Load.form (a1 a2 a3 : Int) : Prop := (a3 = 1 ∨ a3 = 2 ∨ a3 = 4 ∨ a3 = 8) ∧ (0 ≤ a1 ∧ a1 < 4294967296) ∧ (0 ≤ a2 ∧ a2 < 4294967296)
instance (a1 a2 a3 : Int) : Decidable (mem_Memory_Load.form a1 a2 a3) := by unfold mem_Memory_Load.form; infer_instance
def mem_Memory_Load.sub (l : List Int) (a1 a2 a3 : Int) : List Int := (l.take (a1 + a2 + a3).toNat).drop (a1 + a2).toNat
def mem_Memory_Load.f (k : Nat) (l0_0 : List Int) (s0_1 : Int) (a1 a2 a3 : Int) : Option (Int × Int × List Int × Int) :=
  if mem_Memory_Load.form a1 a2 a3 then
    if a1 + a2 + a3 ≤ (l0_0.length : Int) then (mem_word_get.f k (mem_Memory_Load.sub l0_0 a1 a2 a3)).bind fun v => some (v, 0, l0_0, s0_1)
    else (mem_word_get.f k []).bind fun v => some (v, 21, l0_0, s0_1)
  else (mem_word_get.f k []).bind fun v => some (v, 100, l0_0, s0_1)
theorem mem_Memory_Load.mono : ∀ a0 a1 a2 a3 a4 k, LeO (mem_Memory_Load.f k a0 a1 a2 a3 a4) (mem_Memory_Load.f (k + 1) a0 a1 a2 a3 a4) := by
  intro a0 a1 a2 a3 a4 k
  unfold mem_Memory_Load.f
  exact LeO.ite (LeO.ite (LeO.bind (mem_word_get.mono _ _) (fun _ => LeO.refl _)) (LeO.bind (mem_word_get.mono _ _) (fun _ => LeO.refl _))) (LeO.bind (mem_word_get.mono _ _) (fun _ => LeO.refl _))
theorem mem_Memory_Load.there_ (l : List Int) (s a n : Int) (hl : l.length ≤ 9223372036854775807) (ha : 0 ≤ a) (hn : 0 ≤ n) :
    mem_Memory_there.f l s a n = some (decide (a + n ≤ (l.length : Int)), l, s) := by
  unfold mem_Memory_there.f
  rw [if_pos ha, if_pos hn]
  by_cases h2 : a ≤ (l.length : Int)
  · rw [if_pos h2]
    have : wrap64 ((l.length : Int) - a) = (l.length : Int) - a := by unfold wrap64; omega
    rw [this]
    congr 2
    simp only [decide_eq_decide]
    omega
  · rw [if_neg h2]
    congr 2
    simp
    omega
theorem mem_Memory_Load.addr_ (a : Int) : mem_address.f a = some (decide (0 ≤ a ∧ a < 4294967296)) := by
  unfold mem_address.f
  by_cases h : a ≥ 0
  · rw [if_pos h]; congr 1; simp only [decide_eq_decide]; omega
  · rw [if_neg h]; congr 1; simp; omega
theorem mem_Memory_Load.wrap_ {a b : Int} (ha : 0 ≤ a ∧ a < 4294967296) (hb : 0 ≤ b ∧ b < 4294967296) : wrap64 (a + b) = a + b := by unfold wrap64; omega
theorem mem_Memory_Load.sub_len (l : List Int) (a1 a2 a3 : Int) (h : 0 ≤ a1 ∧ 0 ≤ a2) (h3 : 0 < a3 ∧ a3 ≤ 8) (hin : a1 + a2 + a3 ≤ (l.length : Int)) : (mem_Memory_Load.sub l a1 a2 a3).length = (a1 + a2 + a3).toNat - (a1 + a2).toNat := by
  unfold mem_Memory_Load.sub
  rw [List.length_drop, List.length_take]
  omega
set_option maxHeartbeats 8000000 in
set_option maxRecDepth 100000 in
/-- 'word', where it is told 'may not be'. -/
theorem mem_Memory_Load.word_form (a1 a2 a3 : Int) (v0 : Value) (w : World) (hf : ¬ mem_Memory_Load.form a1 a2 a3) :
    Calls Try.prog 33 #[v0, .int .i64 a1, .int .i64 a2, .int .i64 a3] w fun e w' => e = .returned (.tuple #[.slice none 0 0, .int .i64 100]) ∧ Drawn0 w w' := by
  have hA1 := mem_Memory_Load.addr_ a1
  have hA2 := mem_Memory_Load.addr_ a2
  by_cases h3 : a3 = 1 ∨ a3 = 2 ∨ a3 = 4 ∨ a3 = 8
  · by_cases h1 : 0 ≤ a1 ∧ a1 < 4294967296
    · have h2 : ¬ (0 ≤ a2 ∧ a2 < 4294967296) := fun h2 => hf ⟨h3, h1, h2⟩
      rw [decide_eq_true h1] at hA1
      rw [decide_eq_false h2] at hA2
      have HA1 := Aside0.mk hA1
      have HA2 := Aside0.mk hA2
      clear hf h1 h2 hA1 hA2
      rcases h3 with rfl | rfl | rfl | rfl
      all_goals
        go_enter Try.func33, Try.ntmps33
        go_wp2_with (first
          | (go_at_call 39; (with_reducible refine (mem_address.calls a1 true _ HA1.out).mono ?_); rintro e w7 ⟨rfl, ⟨n7, rfl⟩⟩)
          | (go_at_call 39; (with_reducible refine (mem_address.calls a2 false _ HA2.out).mono ?_); rintro e w7 ⟨rfl, ⟨n7, rfl⟩⟩))
        go_ret2
        exact ⟨rfl, by repeat (first | exact Drawn0.refl _ | apply Drawn0.step)⟩
    · rw [decide_eq_false h1] at hA1
      have HA1 := Aside0.mk hA1
      clear hf h1 hA1 hA2
      rcases h3 with rfl | rfl | rfl | rfl
      all_goals
        go_enter Try.func33, Try.ntmps33
        go_wp2_with (first
          | (go_at_call 39; (with_reducible refine (mem_address.calls a1 false _ HA1.out).mono ?_); rintro e w7 ⟨rfl, ⟨n7, rfl⟩⟩))
        go_ret2
        exact ⟨rfl, by repeat (first | exact Drawn0.refl _ | apply Drawn0.step)⟩
  · have e1 : (a3 != 1) = true := by simp; omega
    have e2 : (a3 != 2) = true := by simp; omega
    have e4 : (a3 != 4) = true := by simp; omega
    have e8 : (a3 != 8) = true := by simp; omega
    clear hf h3 hA1 hA2
    go_enter Try.func33, Try.ntmps33
    go_wp2
    go_ret2
    exact ⟨rfl, by repeat (first | exact Drawn0.refl _ | apply Drawn0.step)⟩
set_option maxHeartbeats 8000000 in
set_option maxRecDepth 100000 in
/-- 'word', where bytes are there, or aren't. -/
theorem mem_Memory_Load.word_there (g : Nat) (P0_0_ : Nat → Prop) (u9000_ : Value) (l0_0 : List Int) (s0_1 : Int) (a1 a2 a3 : Int) (w0 w : World) (hI : IsS72 w0 w g u9000_ s0_1) (hB : Below w0.heap.size w0 w) (ho0_0 : Kd.R (Kd.int .u8) 5 w w0.heap.size P0_0_ u9000_ l0_0) (hf : mem_Memory_Load.form a1 a2 a3) (hin : a1 + a2 + a3 ≤ (l0_0.length : Int)) :
    Calls Try.prog 33 #[.pointer (some ⟨g, 0, none⟩), .int .i64 a1, .int .i64 a2, .int .i64 a3] w fun e w' => ∃ (b : Nat) (c : Nat) (c' : Nat), e = .returned (.tuple #[.slice (some ⟨b, (a1 + a2).toNat, none⟩) (mem_Memory_Load.sub l0_0 a1 a2 a3).length c', .int .i64 0]) ∧ (mem_Memory_Load.sub l0_0 a1 a2 a3).length ≤ c' ∧
      Kd.R (Kd.int .u8) 5 w' w0.heap.size (fun k_ => (P0_0_ k_ ∨ w.heap.size ≤ k_)) (.slice (some ⟨b, 0, none⟩) l0_0.length c) l0_0 ∧ IsS72 w0 w' g (.slice (some ⟨b, 0, none⟩) l0_0.length c) s0_1 ∧ Below w0.heap.size w0 w' ∧ Kept w w' (fun k_ => (P0_0_ k_) ∨ k_ = g) := by
  have hlen : l0_0.length ≤ 9223372036854775807 := by
    obtain ⟨A_, c_, rfl⟩ := Kd.R_slice ho0_0
    exact (Kd.R_reads' ho0_0).2.2.2.1
  obtain ⟨h3, h1, h2⟩ := hf
  have hA1 := mem_Memory_Load.addr_ a1
  have hA2 := mem_Memory_Load.addr_ a2
  rw [decide_eq_true h1] at hA1
  rw [decide_eq_true h2] at hA2
  have hW := mem_Memory_Load.wrap_ h1 h2
  have h30 : 0 < a3 ∧ a3 ≤ 8 := by omega
  have hW2 : wrap64 (a1 + a2 + a3) = a1 + a2 + a3 := by unfold wrap64; omega
  have hT0 := mem_Memory_Load.there_ l0_0 s0_1 (a1 + a2) a3 hlen (by omega) (by omega)
  rw [decide_eq_true hin] at hT0
  have HA1 := Aside0.mk hA1
  have HA2 := Aside0.mk hA2
  have HT := Aside0.mk hT0
  have HI := Aside0.mk hI
  have HB0 := Aside0.mk hB
  have HO := Aside0.mk ho0_0
  have HP := Aside0.mk (show (0 ≤ a1 ∧ 0 ≤ a2) ∧ (0 < a3 ∧ a3 ≤ 8) ∧ a1 + a2 + a3 ≤ (l0_0.length : Int) from ⟨⟨h1.1, h2.1⟩, h30, hin⟩)
  have HCf := Aside0.mk (show ∀ co : Nat, l0_0.length ≤ co → (mem_Memory_Load.sub l0_0 a1 a2 a3).length ≤ co - (a1 + a2).toNat from fun co hco => by
    rw [mem_Memory_Load.sub_len l0_0 a1 a2 _ HP.out.1 HP.out.2.1 HP.out.2.2]; have := HP.out; omega)
  clear hA1 hA2 hT0 hI hB ho0_0 h1 h2 h30 hlen hin
  rcases h3 with rfl | rfl | rfl | rfl
  all_goals
    go_enter Try.func33, Try.ntmps33
    go_wp2_with (first
      | (go_at_call 39; (with_reducible refine (mem_address.calls a1 true _ HA1.out).mono ?_); rintro e w7 ⟨rfl, ⟨n7, rfl⟩⟩)
      | (go_at_call 39; (with_reducible refine (mem_address.calls a2 true _ HA2.out).mono ?_); rintro e w7 ⟨rfl, ⟨n8, rfl⟩⟩)
      | (go_at_call 35
         (with_reducible refine (mem_Memory_there.calls g P0_0_ u9000_ l0_0 s0_1 (a1 + a2) _ true l0_0 s0_1 w0 _ ?sI ?sB ?sO HT.out).mono ?_)
         (case sI => repeat (first | exact HI.out | apply IsS72.drewN))
         (case sB => repeat (first | exact HB0.out | apply pw_below_drewN))
         (case sO => repeat (first | exact HO.out | apply Kd.R_drewN))
         rintro e w10 ⟨v155, rfl, ho0, hi, hb, hkp⟩
         have HK1 := Aside0.mk (show Kept w w10 (fun k_ => (P0_0_ k_) ∨ k_ = g) from hkp)
         have HB1 := Aside0.mk hb
         have HI1 := Aside0.mk hi
         have HO1 := Aside0.mk (show Kd.R (Kd.int .u8) 5 w10 w0.heap.size (fun k_ => (P0_0_ k_ ∨ w.heap.size ≤ k_)) v155 l0_0 from ho0)
         clear hkp hb hi ho0
         obtain ⟨Ao, co, eo, gb4, gl4, cl4, HG4⟩ := Kd.R_form HO1.out (by have := HP.out; omega)
         subst eo
         clear gb4 gl4 HG4
         obtain ⟨HGz, _⟩ := HI1.out
         have hcz0 := cellS72_0 HGz
         have hcz1 := cellS72_1 HGz
         have hfz0 := blk_frozen HGz 0
         have hfz1 := blk_frozen HGz 1
         clear HGz
         obtain ⟨i012, hi012, _, hsz12, _⟩ := info_parts info5
         have hcap := (Kd.R_reads' HO1.out).2.1
         have hcut := cut_mid (P := Try.prog) 32 5 .i64 .i64 Try.underlying32 hi012 1 hsz12 (some ⟨Ao, 0, none⟩) l0_0.length co (a1 + a2) _ (by have := HP.out; omega) (by have := HP.out; omega) HP.out.2.2 hcap
         have hne : ¬ co = (a1 + a2).toNat := by have := HP.out; omega
         rw [if_neg hne] at hcut
         rw [show (Option.map (fun x => x.add ((a1 + a2).toNat * 1)) (some (⟨Ao, 0, none⟩ : Addr))) = some ⟨Ao, (a1 + a2).toNat, none⟩ from by unfold Addr.add; by_cases hl : (a1 + a2).toNat = 0 <;> simp [hl]] at hcut
         have HCAP := Aside0.mk (HCf.out co hcap)
         clear hi012 hsz12 hne hcap))
    go_ret2
    exact ⟨Ao, co, _, by rw [mem_Memory_Load.sub_len l0_0 a1 a2 _ HP.out.1 HP.out.2.1 HP.out.2.2]; rfl, HCAP.out, HO1.out, HI1.out, HB1.out, HK1.out⟩
set_option maxHeartbeats 8000000 in
set_option maxRecDepth 100000 in
theorem mem_Memory_Load.word_fault (g : Nat) (P0_0_ : Nat → Prop) (u9000_ : Value) (l0_0 : List Int) (s0_1 : Int) (a1 a2 a3 : Int) (w0 w : World) (hI : IsS72 w0 w g u9000_ s0_1) (hB : Below w0.heap.size w0 w) (ho0_0 : Kd.R (Kd.int .u8) 5 w w0.heap.size P0_0_ u9000_ l0_0) (hf : mem_Memory_Load.form a1 a2 a3) (hin : ¬ a1 + a2 + a3 ≤ (l0_0.length : Int)) :
    Calls Try.prog 33 #[.pointer (some ⟨g, 0, none⟩), .int .i64 a1, .int .i64 a2, .int .i64 a3] w fun e w' => ∃ v1_ : Value, e = .returned (.tuple #[.slice none 0 0, .int .i64 21]) ∧
      Kd.R (Kd.int .u8) 5 w' w0.heap.size (fun k_ => (P0_0_ k_ ∨ w.heap.size ≤ k_)) v1_ l0_0 ∧ IsS72 w0 w' g v1_ s0_1 ∧ Below w0.heap.size w0 w' ∧ Kept w w' (fun k_ => (P0_0_ k_) ∨ k_ = g) := by
  have hlen : l0_0.length ≤ 9223372036854775807 := by
    obtain ⟨A_, c_, rfl⟩ := Kd.R_slice ho0_0
    exact (Kd.R_reads' ho0_0).2.2.2.1
  obtain ⟨h3, h1, h2⟩ := hf
  have hA1 := mem_Memory_Load.addr_ a1
  have hA2 := mem_Memory_Load.addr_ a2
  rw [decide_eq_true h1] at hA1
  rw [decide_eq_true h2] at hA2
  have hW := mem_Memory_Load.wrap_ h1 h2
  have h30 : 0 < a3 ∧ a3 ≤ 8 := by omega
  have hT0 := mem_Memory_Load.there_ l0_0 s0_1 (a1 + a2) a3 hlen (by omega) (by omega)
  rw [decide_eq_false hin] at hT0
  have HA1 := Aside0.mk hA1
  have HA2 := Aside0.mk hA2
  have HT := Aside0.mk hT0
  have HI := Aside0.mk hI
  have HB0 := Aside0.mk hB
  have HO := Aside0.mk ho0_0
  clear hA1 hA2 hT0 hI hB ho0_0 h1 h2 h30 hlen hin
  rcases h3 with rfl | rfl | rfl | rfl
  all_goals
    go_enter Try.func33, Try.ntmps33
    go_wp2_with (first
      | (go_at_call 39; (with_reducible refine (mem_address.calls a1 true _ HA1.out).mono ?_); rintro e w7 ⟨rfl, ⟨n7, rfl⟩⟩)
      | (go_at_call 39; (with_reducible refine (mem_address.calls a2 true _ HA2.out).mono ?_); rintro e w7 ⟨rfl, ⟨n8, rfl⟩⟩)
      | (go_at_call 35
         (with_reducible refine (mem_Memory_there.calls g P0_0_ u9000_ l0_0 s0_1 (a1 + a2) _ false l0_0 s0_1 w0 _ ?sI ?sB ?sO HT.out).mono ?_)
         (case sI => repeat (first | exact HI.out | apply IsS72.drewN))
         (case sB => repeat (first | exact HB0.out | apply pw_below_drewN))
         (case sO => repeat (first | exact HO.out | apply Kd.R_drewN))
         rintro e w10 ⟨v155, rfl, ho0, hi, hb, hkp⟩
         have HK1 := Aside0.mk (show Kept w w10 (fun k_ => (P0_0_ k_) ∨ k_ = g) from hkp)
         have HB1 := Aside0.mk hb
         have HI1 := Aside0.mk hi
         have HO1 := Aside0.mk (show Kd.R (Kd.int .u8) 5 w10 w0.heap.size (fun k_ => (P0_0_ k_ ∨ w.heap.size ≤ k_)) v155 l0_0 from ho0)
         clear hkp hb hi ho0))
    go_ret2
    exact ⟨_, rfl, HO1.out, HI1.out, HB1.out, HK1.out⟩
theorem mem_Memory_Load.get_nil (k : Nat) (v : Int) (w : World) (h : mem_word_get.f k [] = some v) :
    Calls Try.prog 34 #[.slice none 0 0] w fun e w' => e = .returned (.int .u64 v) ∧ Drawn0 w w' :=
  mem_word_get.calls k none 0 [] v w ⟨rfl, by simp, fun h => absurd h (by simp)⟩ (Nat.le_refl _) h
set_option maxHeartbeats 8000000 in
set_option maxRecDepth 100000 in
theorem mem_Memory_Load.calls (k : Nat) (g : Nat) (P0_0_ : Nat → Prop) (u9000_ : Value) (l0_0 : List Int) (s0_1 : Int) (a1 : Int) (a2 : Int) (a3 : Int) (r1 : Int) (r2 : Int) (r3 : List Int) (r4 : Int) (w0 w : World) (hI : IsS72 w0 w g u9000_ s0_1) (hB : Below w0.heap.size w0 w) (ho0_0 : Kd.R (Kd.int .u8) 5 w w0.heap.size P0_0_ u9000_ l0_0) (h : mem_Memory_Load.f k l0_0 s0_1 a1 a2 a3 = some (r1, r2, r3, r4)) :
    Calls Try.prog 20 #[.pointer (some ⟨g, 0, none⟩), .int .i64 a1, .int .i64 a2, .int .i64 a3] w fun e w' => ∃ v2_ : Value, e = .returned (.tuple #[.int .u64 r1, .int .i64 r2]) ∧ Kd.R (Kd.int .u8) 5 w' w0.heap.size (fun k_ => (P0_0_ k_ ∨ w.heap.size ≤ k_)) v2_ r3 ∧ IsS72 w0 w' g v2_ r4 ∧ Below w0.heap.size w0 w' ∧ Kept w w' (fun k_ => (P0_0_ k_) ∨ k_ = g) := by
  unfold mem_Memory_Load.f at h
  by_cases hf : mem_Memory_Load.form a1 a2 a3
  · rw [if_pos hf] at h
    by_cases hin : a1 + a2 + a3 ≤ (l0_0.length : Int)
    · rw [if_pos hin] at h
      obtain ⟨v, hv, h⟩ := Option.bind_eq_some_iff.mp h
      simp only [Option.some.injEq, Prod.mk.injEq] at h
      obtain ⟨rfl, rfl, rfl, rfl⟩ := h
      have HV := Aside0.mk hv
      have HI := Aside0.mk hI
      have HB0 := Aside0.mk hB
      have HO := Aside0.mk ho0_0
      have HF := Aside0.mk hf
      have HN := Aside0.mk hin
      have HP := Aside0.mk (show (0 ≤ a1 ∧ 0 ≤ a2) ∧ (0 < a3 ∧ a3 ≤ 8) ∧ a1 + a2 + a3 ≤ (l0_0.length : Int) from ⟨⟨hf.2.1.1, hf.2.2.1⟩, by have := hf.1; omega, hin⟩)
      clear hv hI hB ho0_0 hf hin
      go_enter Try.func20, Try.ntmps20
      go_wp2_with (first
        | ((with_reducible refine gate_callee (f := 33) rfl ?_); refine goesL_ (some 18) rfl rfl Try.func33 (by kernel_rfl) rfl #[.pointer (some ⟨g, 0, none⟩), .int .i64 a1, .int .i64 a2, .int .i64 a3] rfl (by (try simp only [List.map_toArray, List.map_cons, List.map_nil]); first | done | rfl) ?_
           (with_reducible refine (mem_Memory_Load.word_there g P0_0_ u9000_ l0_0 s0_1 a1 a2 a3 w0 _ HI.out HB0.out HO.out HF.out HN.out).mono ?_)
           rintro e w10 ⟨b, c, c', rfl, hc', ho0, hi, hb, hkp⟩
           refine ⟨_, rfl, ?_⟩
           have HK1 := Aside0.mk hkp
           have HB1 := Aside0.mk hb
           have HI1 := Aside0.mk hi
           have HO1 := Aside0.mk ho0
           have HC1 := Aside0.mk hc'
           have hCm := Kd.C_mid (lo := (a1 + a2).toNat) (hi := (a1 + a2 + a3).toNat) (Kd.R_reads' ho0).2.2 (by have := HP.out; omega) (by have := HP.out; omega) (Kd.R_reads' ho0).2.1
           rw [if_neg (by have := HP.out; have := (Kd.R_reads' ho0).2.1; omega : ¬ c = (a1 + a2).toNat)] at hCm
           rw [show (Option.map (fun x => x.add ((a1 + a2).toNat * (Kd.int .u8).sz)) (some (⟨b, 0, none⟩ : Addr))) = some ⟨b, (a1 + a2).toNat, none⟩ from by
             show (some ((⟨b, 0, none⟩ : Addr).add ((a1 + a2).toNat * 1))) = _
             unfold Addr.add; by_cases hl : (a1 + a2).toNat = 0 <;> simp [hl]] at hCm
           have HCM := Aside0.mk (show Kd.C (Kd.int .u8) w10 (some ⟨b, (a1 + a2).toNat, none⟩) (mem_Memory_Load.sub l0_0 a1 a2 a3).length (mem_Memory_Load.sub l0_0 a1 a2 a3) from hCm)
           clear hkp hb hi ho0 hc' hCm)
        | (go_at_call 34; (with_reducible refine (mem_word_get.calls k _ _ _ _ _ HCM.out HC1.out HV.out).mono ?_); rintro e w7 ⟨rfl, ⟨n7, rfl⟩⟩))
      go_ret2
      exact ⟨_, rfl, Kd.R_drewN HO1.out _, IsS72.drewN HI1.out _, pw_below_drewN HB1.out _, Kept.drewN HK1.out _⟩
    · rw [if_neg hin] at h
      obtain ⟨v, hv, h⟩ := Option.bind_eq_some_iff.mp h
      simp only [Option.some.injEq, Prod.mk.injEq] at h
      obtain ⟨rfl, rfl, rfl, rfl⟩ := h
      have HV := Aside0.mk hv
      have HI := Aside0.mk hI
      have HB0 := Aside0.mk hB
      have HO := Aside0.mk ho0_0
      have HF := Aside0.mk hf
      have HN := Aside0.mk hin
      clear hv hI hB ho0_0 hf hin
      go_enter Try.func20, Try.ntmps20
      go_wp2_with (first
        | ((with_reducible refine gate_callee (f := 33) rfl ?_); refine goesL_ (some 18) rfl rfl Try.func33 (by kernel_rfl) rfl #[.pointer (some ⟨g, 0, none⟩), .int .i64 a1, .int .i64 a2, .int .i64 a3] rfl (by (try simp only [List.map_toArray, List.map_cons, List.map_nil]); first | done | rfl) ?_
           (with_reducible refine (mem_Memory_Load.word_fault g P0_0_ u9000_ l0_0 s0_1 a1 a2 a3 w0 _ HI.out HB0.out HO.out HF.out HN.out).mono ?_)
           rintro e w10 ⟨v1_, rfl, ho0, hi, hb, hkp⟩
           refine ⟨_, rfl, ?_⟩
           have HK1 := Aside0.mk hkp
           have HB1 := Aside0.mk hb
           have HI1 := Aside0.mk hi
           have HO1 := Aside0.mk ho0
           clear hkp hb hi ho0)
        | (go_at_call 34; (with_reducible refine (mem_Memory_Load.get_nil k _ _ HV.out).mono ?_); rintro e w7 ⟨rfl, ⟨n7, rfl⟩⟩))
      go_ret2
      exact ⟨_, rfl, Kd.R_drewN HO1.out _, IsS72.drewN HI1.out _, pw_below_drewN HB1.out _, Kept.drewN HK1.out _⟩
  · rw [if_neg hf] at h
    obtain ⟨v, hv, h⟩ := Option.bind_eq_some_iff.mp h
    simp only [Option.some.injEq, Prod.mk.injEq] at h
    obtain ⟨rfl, rfl, rfl, rfl⟩ := h
    have HV := Aside0.mk hv
    have HI := Aside0.mk hI
    have HB0 := Aside0.mk hB
    have HO := Aside0.mk ho0_0
    have HF := Aside0.mk hf
    clear hv hI hB ho0_0 hf
    go_enter Try.func20, Try.ntmps20
    go_wp2_with (first
      | ((with_reducible refine gate_callee (f := 33) rfl ?_); refine goesL_ (some 18) rfl rfl Try.func33 (by kernel_rfl) rfl #[.pointer (some ⟨g, 0, none⟩), .int .i64 a1, .int .i64 a2, .int .i64 a3] rfl (by (try simp only [List.map_toArray, List.map_cons, List.map_nil]); first | done | rfl) ?_
         (with_reducible refine (mem_Memory_Load.word_form a1 a2 a3 _ _ HF.out).mono ?_)
         rintro e w10 ⟨rfl, ⟨n6, rfl⟩⟩
         refine ⟨_, rfl, ?_⟩)
      | (go_at_call 34; (with_reducible refine (mem_Memory_Load.get_nil k _ _ HV.out).mono ?_); rintro e w7 ⟨rfl, ⟨n7, rfl⟩⟩))
    go_ret2
    exact ⟨_, rfl, Kd.R_mono (Kd.R_drewN HO.out _) (fun _ hk => .inl hk), IsS72.drewN HI.out _, pw_below_drewN HB0.out _, Kept.drewN (Kept.refl _ _) _⟩



/-! ### mem_Memory_Store: function 31 (by hand) -/
def mem_Memory_Store.f (l0_0 : List Int) (s0_1 : Int) (a1 a2 a3 a4 : Int) : Option (Int × List Int × Int) :=
  some (if mem_Memory_Load.form a1 a2 a3 then
    if a1 + a2 + a3 ≤ (l0_0.length : Int) then (0, Go.Proofs.YtpaodfhhnhbacaaU.splice l0_0 (a1 + a2).toNat (Go.Proofs.YtpaodfhhnhbacaaU.le a4 a3.toNat), s0_1)
    else (21, l0_0, s0_1)
  else (100, l0_0, s0_1))
set_option maxHeartbeats 8000000 in
set_option maxRecDepth 100000 in
theorem mem_Memory_Store.set_nil (v : Int) (w : World) : Calls Try.prog 38 #[.slice none 0 0, .int .u64 v] w fun e w' => e = .returned (.tuple #[]) ∧ Drawn0 w w' := by
  go_enter Try.func38, Try.ntmps38
  go_wp2
  go_loopg [7] 1 (fun kq v7 w' => v7 = .int .i64 0 ∧ Aside0 (Drawn0 w w'))
  case atStart => exact ⟨rfl, ⟨Drawn0.refl _⟩⟩
  case round =>
    obtain ⟨rfl, HD⟩ := hrel
    go_wp2
    first | go_end0 | ((try simp only [Exit.inBlock, Exit.then]); refine bodyPost_ret (results_none rfl _ _ _) rfl ?_)
    exact ⟨rfl, HD.out⟩
set_option maxHeartbeats 8000000 in
set_option maxRecDepth 100000 in
theorem mem_Memory_Store.set_ (b c c' lo n : Nat) (P_ : Nat → Prop) (l : List Int) (v : Int) (w0 w : World) (hB : Below w0.heap.size w0 w) (ho : Kd.R (Kd.int .u8) 5 w w0.heap.size P_ (.slice (some ⟨b, 0, none⟩) l.length c) l) (hn : lo + n ≤ l.length) (h8 : n ≤ 8) :
    Calls Try.prog 38 #[.slice (some ⟨b, lo, none⟩) n c', .int .u64 v] w fun e w' => e = .returned (.tuple #[]) ∧ Kd.R (Kd.int .u8) 5 w' w0.heap.size P_ (.slice (some ⟨b, 0, none⟩) l.length c) (Go.Proofs.YtpaodfhhnhbacaaU.splice l lo (Go.Proofs.YtpaodfhhnhbacaaU.le v n)) ∧ Below w0.heap.size w0 w' ∧ w.grownBy w' (some b) := by
  have HB := Aside0.mk hB
  have HO := Aside0.mk ho
  have HN := Aside0.mk (show lo + n ≤ l.length ∧ n ≤ 8 from ⟨hn, h8⟩)
  clear hB ho hn h8
  go_enter Try.func38, Try.ntmps38
  go_wp2
  go_loopg [7] n (fun kq v7 w' => ∃ i : Nat, v7 = .int .i64 (i : Int) ∧ Aside0 (kq + i = n) ∧ Aside0 (Kd.R (Kd.int .u8) 5 w' w0.heap.size P_ (.slice (some ⟨b, 0, none⟩) l.length c) (Go.Proofs.YtpaodfhhnhbacaaU.splice l lo (Go.Proofs.YtpaodfhhnhbacaaU.le v i))) ∧ Aside0 (Below w0.heap.size w0 w') ∧ Aside0 (w.grownBy w' (some b)))
  case atStart => exact ⟨0, rfl, ⟨rfl⟩, ⟨by rw [Go.Proofs.YtpaodfhhnhbacaaU.le_zero, Go.Proofs.YtpaodfhhnhbacaaU.splice_nil]; exact HO.out⟩, HB, ⟨World.grownBy.refl w _⟩⟩
  case round =>
    obtain ⟨i, rfl, HK1, HO1, HB1, HG1⟩ := hrel
    by_cases hlt : i < n
    · obtain ⟨k1, rfl⟩ : ∃ k1, gk = k1 + 1 := ⟨gk - 1, by have := HK1.out; omega⟩
      have HLT := Aside0.mk hlt
      have hd : decide ((i : Int) < (n : Int)) = true := decide_eq_true (by omega)
      have hd2 : decide (i < n) = true := decide_eq_true hlt
      have hw8 : wrap64 (8 * (i : Int)) = 8 * (i : Int) := by have := HN.out; unfold wrap64; omega
      have hw1 : wrap64 ((i : Int) + 1) = ((i + 1 : Nat) : Int) := (Go.Proofs.YtpaodfhhnhbacaaU.w64 (by omega) (by have := HN.out; omega)).trans (by simp)
      obtain ⟨hx, hf⟩ := Kd.R_celln 0 HO1.out ((lo + i : Nat) : Int) (by omega) (by have := HN.out; omega)
      have hput := Kd.R_putg HO1.out ((lo + i : Nat) : Int) (v / 2 ^ (8 * i) % 256)
      simp only [Int.toNat_natCast] at hx hf hput
      have HP := Aside0.mk hput
      have hsp : (Go.Proofs.YtpaodfhhnhbacaaU.splice l lo (Go.Proofs.YtpaodfhhnhbacaaU.le v i)).set (lo + i) (v / 2 ^ (8 * i) % 256) = Go.Proofs.YtpaodfhhnhbacaaU.splice l lo (Go.Proofs.YtpaodfhhnhbacaaU.le v (i + 1)) := by
        have h1 := Go.Proofs.YtpaodfhhnhbacaaU.splice_set (b := l) (i := lo) (p := Go.Proofs.YtpaodfhhnhbacaaU.le v i) (v / 2 ^ (8 * i) % 256) (by rw [Go.Proofs.YtpaodfhhnhbacaaU.le_length]; have := HN.out; omega)
        rw [Go.Proofs.YtpaodfhhnhbacaaU.le_length] at h1
        rw [h1, Go.Proofs.YtpaodfhhnhbacaaU.le_succ]
      have HSP := Aside0.mk hsp
      clear hput hsp hlt
      have c0 := eq_true (show 0 ≤ 8 * (i : Int) by omega)
      have c1 : decide (0 ≤ 8 * (i : Int)) = true := decide_eq_true (by omega)
      have c2 : decide (0 ≤ (i : Int)) = true := decide_eq_true (by omega)
      obtain ⟨q, hq⟩ : ∃ q, v / 2 ^ (8 * i) = q := ⟨_, rfl⟩
      have hsh : v / 2 ^ min (8 * (i : Int)).toNat 64 = q := by rw [show min (8 * (i : Int)).toNat 64 = 8 * i from by have := HN.out; have := HLT.out; omega]; exact hq
      have hsz : 8 * (i : Int) ≤ 64 → v / 2 ^ (8 * (i : Int)).toNat = q := fun _ => by rw [show (8 * (i : Int)).toNat = 8 * i from by omega]; exact hq
      rw [hq] at HP HSP
      clear hq
      have hge := (Kd.R_base HO1.out b rfl)
      have HGE := Aside0.mk hge
      clear hge
      have c3 := eq_true HLT.out
      go_wp2
      go_roundg k1
      case measure => have := HK1.out; omega
      case rel => exact ⟨i + 1, by first | rfl | (congr 1), ⟨by have := HK1.out; omega⟩, ⟨by rw [← HSP.out]; exact HP.out.1⟩, ⟨below_set HB1.out HGE.out⟩, ⟨HG1.out.trans HP.out.2⟩⟩
    · have hd : decide ((i : Int) < (n : Int)) = false := decide_eq_false (by omega)
      have hd2 : decide (i < n) = false := decide_eq_false hlt
      have c3 := eq_false hlt
      have HE := Aside0.mk (show i = n by have := HK1.out; omega)
      clear hlt
      go_wp2
      first | go_end0 | ((try simp only [Exit.inBlock, Exit.then]); refine bodyPost_ret (results_none rfl _ _ _) rfl ?_)
      exact ⟨rfl, by rw [← HE.out]; exact HO1.out, HB1.out, HG1.out⟩
set_option maxHeartbeats 8000000 in
set_option maxRecDepth 100000 in
theorem mem_Memory_Store.calls (g : Nat) (P0_0_ : Nat → Prop) (u9000_ : Value) (l0_0 : List Int) (s0_1 : Int) (a1 : Int) (a2 : Int) (a3 : Int) (a4 : Int) (r1 : Int) (r2 : List Int) (r3 : Int) (w0 w : World) (hI : IsS72 w0 w g u9000_ s0_1) (hB : Below w0.heap.size w0 w) (ho0_0 : Kd.R (Kd.int .u8) 5 w w0.heap.size P0_0_ u9000_ l0_0) (h : mem_Memory_Store.f l0_0 s0_1 a1 a2 a3 a4 = some (r1, r2, r3)) :
    Calls Try.prog 31 #[.pointer (some ⟨g, 0, none⟩), .int .i64 a1, .int .i64 a2, .int .i64 a3, .int .u64 a4] w fun e w' => ∃ v1_ : Value, e = .returned (.int .i64 r1) ∧ Kd.R (Kd.int .u8) 5 w' w0.heap.size (fun k_ => (P0_0_ k_ ∨ w.heap.size ≤ k_)) v1_ r2 ∧ IsS72 w0 w' g v1_ r3 ∧ Below w0.heap.size w0 w' ∧ Kept w w' (fun k_ => (P0_0_ k_) ∨ k_ = g) := by
  by_cases hf : mem_Memory_Load.form a1 a2 a3
  · by_cases hin : a1 + a2 + a3 ≤ (l0_0.length : Int)
    · simp only [mem_Memory_Store.f, if_pos hf, if_pos hin, Option.some.injEq, Prod.mk.injEq] at h
      obtain ⟨rfl, rfl, rfl⟩ := h
      have HI := Aside0.mk hI
      have HB0 := Aside0.mk hB
      have HO := Aside0.mk ho0_0
      have HF := Aside0.mk hf
      have HN := Aside0.mk hin
      have HP := Aside0.mk (show (0 ≤ a1 ∧ 0 ≤ a2) ∧ (0 < a3 ∧ a3 ≤ 8) ∧ a1 + a2 + a3 ≤ (l0_0.length : Int) from ⟨⟨hf.2.1.1, hf.2.2.1⟩, by have := hf.1; omega, hin⟩)
      have HS := Aside0.mk (show (mem_Memory_Load.sub l0_0 a1 a2 a3).length = a3.toNat by
        rw [mem_Memory_Load.sub_len l0_0 a1 a2 a3 HP.out.1 HP.out.2.1 HP.out.2.2]; have := HP.out; omega)
      clear hI hB ho0_0 hf hin
      go_enter Try.func31, Try.ntmps31
      go_wp2_with (first
        | ((with_reducible refine gate_callee (f := 33) rfl ?_); refine goesL_ (some 19) rfl rfl Try.func33 (by kernel_rfl) rfl #[.pointer (some ⟨g, 0, none⟩), .int .i64 a1, .int .i64 a2, .int .i64 a3] rfl (by (try simp only [List.map_toArray, List.map_cons, List.map_nil]); first | done | rfl) ?_
           (with_reducible refine (mem_Memory_Load.word_there g P0_0_ u9000_ l0_0 s0_1 a1 a2 a3 w0 _ HI.out HB0.out HO.out HF.out HN.out).mono ?_)
           rintro e w10 ⟨b, c, c', rfl, hc', ho0, hi, hb, hkp⟩
           refine ⟨_, rfl, ?_⟩
           have HK1 := Aside0.mk hkp
           have HB1 := Aside0.mk hb
           have HI1 := Aside0.mk hi
           have HO1 := Aside0.mk ho0
           clear hkp hb hi ho0 hc')
        | (go_at_call 38
           (with_reducible refine (mem_Memory_Store.set_ b c c' (a1 + a2).toNat _ _ l0_0 a4 w0 _ HB1.out HO1.out (by rw [HS.out]; have := HP.out; omega) (by rw [HS.out]; have := HP.out; omega)).mono ?_)
           rintro e w12 ⟨rfl, ho, hb, hg⟩
           have HO2 := Aside0.mk ho
           have HB2 := Aside0.mk hb
           have HI2 := Aside0.mk (HI1.out.grown hg (IsS72.own_ne HI1.out HO1.out (by decide)))
           have HK2 := Aside0.mk (Kept.of_grown (S := (fun k_ => (P0_0_ k_) ∨ k_ = g)) hg HK1.out (fun k_ e_ => Or.imp_left Or.inl (HO1.out.1 k_ e_)))
           clear ho hb hg))
      go_ret
      refine ⟨.slice (some ⟨b, 0, none⟩) l0_0.length c, rfl, ?_, HI2.out, HB2.out, HK2.out⟩
      have := HO2.out
      rwa [HS.out] at this
    · simp only [mem_Memory_Store.f, if_pos hf, if_neg hin, Option.some.injEq, Prod.mk.injEq] at h
      obtain ⟨rfl, rfl, rfl⟩ := h
      have HI := Aside0.mk hI
      have HB0 := Aside0.mk hB
      have HO := Aside0.mk ho0_0
      have HF := Aside0.mk hf
      have HN := Aside0.mk hin
      clear hI hB ho0_0 hf hin
      go_enter Try.func31, Try.ntmps31
      go_wp2_with (first
        | ((with_reducible refine gate_callee (f := 33) rfl ?_); refine goesL_ (some 19) rfl rfl Try.func33 (by kernel_rfl) rfl #[.pointer (some ⟨g, 0, none⟩), .int .i64 a1, .int .i64 a2, .int .i64 a3] rfl (by (try simp only [List.map_toArray, List.map_cons, List.map_nil]); first | done | rfl) ?_
           (with_reducible refine (mem_Memory_Load.word_fault g P0_0_ u9000_ l0_0 s0_1 a1 a2 a3 w0 _ HI.out HB0.out HO.out HF.out HN.out).mono ?_)
           rintro e w10 ⟨v1_, rfl, ho0, hi, hb, hkp⟩
           refine ⟨_, rfl, ?_⟩
           have HK1 := Aside0.mk hkp
           have HB1 := Aside0.mk hb
           have HI1 := Aside0.mk hi
           have HO1 := Aside0.mk ho0
           clear hkp hb hi ho0)
        | (go_at_call 38; (with_reducible refine (mem_Memory_Store.set_nil a4 _).mono ?_); rintro e w7 ⟨rfl, ⟨n7, rfl⟩⟩))
      go_ret
      exact ⟨_, rfl, Kd.R_drewN HO1.out _, IsS72.drewN HI1.out _, pw_below_drewN HB1.out _, Kept.drewN HK1.out _⟩
  · simp only [mem_Memory_Store.f, if_neg hf, Option.some.injEq, Prod.mk.injEq] at h
    obtain ⟨rfl, rfl, rfl⟩ := h
    have HI := Aside0.mk hI
    have HB0 := Aside0.mk hB
    have HO := Aside0.mk ho0_0
    have HF := Aside0.mk hf
    clear hI hB ho0_0 hf
    go_enter Try.func31, Try.ntmps31
    go_wp2_with (first
      | ((with_reducible refine gate_callee (f := 33) rfl ?_); refine goesL_ (some 19) rfl rfl Try.func33 (by kernel_rfl) rfl #[.pointer (some ⟨g, 0, none⟩), .int .i64 a1, .int .i64 a2, .int .i64 a3] rfl (by (try simp only [List.map_toArray, List.map_cons, List.map_nil]); first | done | rfl) ?_
         (with_reducible refine (mem_Memory_Load.word_form a1 a2 a3 _ _ HF.out).mono ?_)
         rintro e w10 ⟨rfl, ⟨n6, rfl⟩⟩
         refine ⟨_, rfl, ?_⟩)
      | (go_at_call 38; (with_reducible refine (mem_Memory_Store.set_nil a4 _).mono ?_); rintro e w7 ⟨rfl, ⟨n7, rfl⟩⟩))
    go_ret
    exact ⟨_, rfl, Kd.R_mono (Kd.R_drewN HO.out _) (fun _ hk => .inl hk), IsS72.drewN HI.out _, pw_below_drewN HB0.out _, Kept.drewN (Kept.refl _ _) _⟩


/-! ### env_Lay: function 17 -/
mutual
def env_Lay.l0 : Nat → List ByteArray → Int → Int → Int → List ByteArray → Int → Int → List Int → Int → Option (Int × List Int × Int)
  | 0, _, _, _, _, _, _, _, _, _ => none
  | k + 1, x1, x2, x3, x14, x51, x52, x53, x1000, x1001 => if x53 < x52 then (if 0 ≤ x53 then (if x53 < (x51.length : Int) then ((mem_Memory_Store.f x1000 x1001 (wrap64 (x2 + (wrap64 (4 * x53)))) 0 4 (IntKind.u64.wrap (x14))).bind fun bt247 => (env_Lay.l0 k x1 x2 x3 (wrap64 (x14 + (wrap64 (((rdOf ByteArray.empty x51 x53).size : Int) + 1)))) x51 x52 (wrap64 (x53 + 1)) bt247.2.1 bt247.2.2)) else (none)) else (none)) else (env_Lay.l1 k x3 x1 (x1.length : Int) 0 x1000 x1001)
def env_Lay.l1 : Nat → Int → List ByteArray → Int → Int → List Int → Int → Option (Int × List Int × Int)
  | 0, _, _, _, _, _, _ => none
  | k + 1, x14, x73, x74, x75, x1000, x1001 => if x75 < x74 then (if 0 ≤ x75 then (if x75 < (x73.length : Int) then (if (rdOf ByteArray.empty x73 x75).size + 1 ≤ 140737488355328 then ((mem_Memory_Write.f x1000 x1001 x14 (bytesOf (rdOf ByteArray.empty x73 x75) ++ [0])).bind fun bt256 => (env_Lay.l1 k (wrap64 (x14 + (wrap64 (((rdOf ByteArray.empty x73 x75).size : Int) + 1)))) x73 x74 (wrap64 (x75 + 1)) bt256.2.1 bt256.2.2)) else (none)) else (none)) else (none)) else (some (0, x1000, x1001))
end
def env_Lay.f (k : Nat) (l0_0 : List Int) (s0_1 : Int) (l1 : List ByteArray) (a2 : Int) (a3 : Int) : Option (Int × List Int × Int) := (env_Sizes.f k l1).bind fun bt233 => (if bt233.2.2 = 0 then ((mem_Memory_Has.f l0_0 s0_1 a2 (wrap64 (4 * bt233.1))).bind fun bt236 => (if bt236.1 = true then ((mem_Memory_Has.f bt236.2.1 bt236.2.2 a3 bt233.2.1).bind fun bt241 => (if bt241.1 = true then (env_Lay.l0 k l1 a2 a3 a3 l1 (l1.length : Int) 0 bt241.2.1 bt241.2.2) else (some (21, bt241.2.1, bt241.2.2)))) else (some (21, bt236.2.1, bt236.2.2)))) else (some (100, l0_0, s0_1)))
theorem env_Lay.mono_l : ∀ k, (∀ y0 y1 y2 y3 y4 y5 y6 y7 y8, LeO (env_Lay.l0 k y0 y1 y2 y3 y4 y5 y6 y7 y8) (env_Lay.l0 (k + 1) y0 y1 y2 y3 y4 y5 y6 y7 y8)) ∧ (∀ y0 y1 y2 y3 y4 y5, LeO (env_Lay.l1 k y0 y1 y2 y3 y4 y5) (env_Lay.l1 (k + 1) y0 y1 y2 y3 y4 y5))
  | 0 => ⟨fun _ _ _ _ _ _ _ _ _ r h => by simp [env_Lay.l0] at h, fun _ _ _ _ _ _ r h => by simp [env_Lay.l1] at h⟩
  | k + 1 => by
    obtain ⟨ih0, ih1⟩ := env_Lay.mono_l k
    refine ⟨?_, ?_⟩
    · intro y0 y1 y2 y3 y4 y5 y6 y7 y8
      unfold env_Lay.l0
      repeat' first
      | (with_reducible exact ih0 _ _ _ _ _ _ _ _ _)
      | (with_reducible exact ih1 _ _ _ _ _ _)
      | (with_reducible exact env_Sizes.mono _ _)
      | (with_reducible exact LeO.refl _)
      | (with_reducible exact LeO.none _)
      | (with_reducible refine LeO.ite ?_ ?_)
      | (with_reducible refine LeO.bind ?_ (fun _ => ?_))
      | exact ih0 _ _ _ _ _ _ _ _ _
      | exact ih1 _ _ _ _ _ _
      | exact env_Sizes.mono _ _
      | exact LeO.none _
      | refine LeO.ite ?_ ?_
      | refine LeO.bind ?_ (fun _ => ?_)
    · intro y0 y1 y2 y3 y4 y5
      unfold env_Lay.l1
      repeat' first
      | (with_reducible exact ih0 _ _ _ _ _ _ _ _ _)
      | (with_reducible exact ih1 _ _ _ _ _ _)
      | (with_reducible exact env_Sizes.mono _ _)
      | (with_reducible exact LeO.refl _)
      | (with_reducible exact LeO.none _)
      | (with_reducible refine LeO.ite ?_ ?_)
      | (with_reducible refine LeO.bind ?_ (fun _ => ?_))
      | exact ih0 _ _ _ _ _ _ _ _ _
      | exact ih1 _ _ _ _ _ _
      | exact env_Sizes.mono _ _
      | exact LeO.none _
      | refine LeO.ite ?_ ?_
      | refine LeO.bind ?_ (fun _ => ?_)
theorem env_Lay.mono : ∀ a0 a1 a2 a3 a4 k, LeO (env_Lay.f k a0 a1 a2 a3 a4) (env_Lay.f (k + 1) a0 a1 a2 a3 a4) := by
  intro a0 a1 a2 a3 a4 k
  obtain ⟨ih0, ih1⟩ := env_Lay.mono_l k
  unfold env_Lay.f
  repeat' first
      | (with_reducible exact ih0 _ _ _ _ _ _ _ _ _)
      | (with_reducible exact ih1 _ _ _ _ _ _)
      | (with_reducible exact env_Sizes.mono _ _)
      | (with_reducible exact LeO.refl _)
      | (with_reducible exact LeO.none _)
      | (with_reducible refine LeO.ite ?_ ?_)
      | (with_reducible refine LeO.bind ?_ (fun _ => ?_))
      | exact ih0 _ _ _ _ _ _ _ _ _
      | exact ih1 _ _ _ _ _ _
      | exact env_Sizes.mono _ _
      | exact LeO.none _
      | refine LeO.ite ?_ ?_
      | refine LeO.bind ?_ (fun _ => ?_)
set_option maxHeartbeats 8000000 in
set_option maxRecDepth 100000 in
theorem env_Lay.calls (k : Nat) (g : Nat) (P0_0_ : Nat → Prop) (u9000_ : Value) (l0_0 : List Int) (s0_1 : Int) (A1 : Option Addr) (c1 : Nat) (l1 : List ByteArray) (a2 : Int) (a3 : Int) (r1 : Int) (r2 : List Int) (r3 : Int) (w0 w : World) (hI : IsS72 w0 w g u9000_ s0_1) (hB : Below w0.heap.size w0 w) (ho0_0 : Kd.R (Kd.int .u8) 5 w w0.heap.size P0_0_ u9000_ l0_0) (hr1 : ∀ W_, Kept w W_ (fun k_ => (P0_0_ k_) ∨ k_ = g) → Kd.C Kd.string W_ A1 l1.length l1) (hc1 : l1.length ≤ c1) (h : env_Lay.f k l0_0 s0_1 l1 a2 a3 = some (r1, r2, r3)) :
    Calls Try.prog 17 #[.pointer (some ⟨g, 0, none⟩), .slice A1 l1.length c1, .int .i64 a2, .int .i64 a3] w fun e w' => ∃ v1_ : Value, e = .returned (.int .i64 r1) ∧ Kd.R (Kd.int .u8) 5 w' w0.heap.size (fun k_ => (P0_0_ k_ ∨ w.heap.size ≤ k_)) v1_ r2 ∧ IsS72 w0 w' g v1_ r3 ∧ Below w0.heap.size w0 w' ∧ Kept w w' (fun k_ => (P0_0_ k_) ∨ k_ = g) := by
  have HO0_0 := Aside0.mk (show Kd.R (Kd.int .u8) 5 w w0.heap.size (fun k_ => (P0_0_ k_ ∨ w.heap.size ≤ k_)) u9000_ l0_0 from Kd.R_mono ho0_0 (fun k_ hk => (.inl hk)))
  have HR1 := Aside0.mk hr1
  have HC1 := Aside0.mk hc1
  clear hr1 hc1
  have HI0 := Aside0.mk hI
  have HL := Aside0.mk hB.size
  clear hI
  have HK := Aside0.mk (Kept.refl w (fun k_ => (P0_0_ k_) ∨ k_ = g))
  have HW0 := Aside0.mk hB.size
  have HB := Aside0.mk hB
  clear hB
  have H : ((env_Sizes.f k l1).bind fun bt233 => (if bt233.2.2 = 0 then ((mem_Memory_Has.f l0_0 s0_1 a2 (wrap64 (4 * bt233.1))).bind fun bt236 => (if bt236.1 = true then ((mem_Memory_Has.f bt236.2.1 bt236.2.2 a3 bt233.2.1).bind fun bt241 => (if bt241.1 = true then (env_Lay.l0 k l1 a2 a3 a3 l1 (l1.length : Int) 0 bt241.2.1 bt241.2.2) else (some (21, bt241.2.1, bt241.2.2)))) else (some (21, bt236.2.1, bt236.2.2)))) else (some (100, l0_0, s0_1)))) = some (r1, r2, r3) := h
  clear h
  replace H := Option.bind_eq_some_iff.mp H
  obtain ⟨⟨t233, t234, t235⟩, A50, H⟩ := H
  replace H : (if t235 = 0 then ((mem_Memory_Has.f l0_0 s0_1 a2 (wrap64 (4 * t233))).bind fun bt236 => (if bt236.1 = true then ((mem_Memory_Has.f bt236.2.1 bt236.2.2 a3 t234).bind fun bt241 => (if bt241.1 = true then (env_Lay.l0 k l1 a2 a3 a3 l1 (l1.length : Int) 0 bt241.2.1 bt241.2.2) else (some (21, bt241.2.1, bt241.2.2)))) else (some (21, bt236.2.1, bt236.2.2)))) else (some (100, l0_0, s0_1))) = some (r1, r2, r3) := H
  have A5 := Aside0.mk A50
  clear A50
  by_cases c6 : t235 = 0
  · rw [if_pos c6] at H
    have c6b0 : (t235 == 0) = true := beq_iff_eq.mpr c6
    have c6b1 : (t235 != 0) = false := bne_eq_false_iff_eq.mpr c6
    clear c6
    replace H := Option.bind_eq_some_iff.mp H
    obtain ⟨⟨t236, t237, t240⟩, A70, H⟩ := H
    replace H : (if t236 = true then ((mem_Memory_Has.f t237 t240 a3 t234).bind fun bt241 => (if bt241.1 = true then (env_Lay.l0 k l1 a2 a3 a3 l1 (l1.length : Int) 0 bt241.2.1 bt241.2.2) else (some (21, bt241.2.1, bt241.2.2)))) else (some (21, t237, t240))) = some (r1, r2, r3) := H
    have A7 := Aside0.mk A70
    clear A70
    by_cases c8 : t236 = true
    · subst c8
      have H1 : ((mem_Memory_Has.f t237 t240 a3 t234).bind fun bt241 => (if bt241.1 = true then (env_Lay.l0 k l1 a2 a3 a3 l1 (l1.length : Int) 0 bt241.2.1 bt241.2.2) else (some (21, bt241.2.1, bt241.2.2)))) = some (r1, r2, r3) := by rw [if_pos rfl] at H; exact H
      clear H
      have H := H1
      clear H1
      replace H := Option.bind_eq_some_iff.mp H
      obtain ⟨⟨t241, t242, t245⟩, A90, H⟩ := H
      replace H : (if t241 = true then (env_Lay.l0 k l1 a2 a3 a3 l1 (l1.length : Int) 0 t242 t245) else (some (21, t242, t245))) = some (r1, r2, r3) := H
      have A9 := Aside0.mk A90
      clear A90
      by_cases c10 : t241 = true
      · subst c10
        have H1 : (env_Lay.l0 k l1 a2 a3 a3 l1 (l1.length : Int) 0 t242 t245) = some (r1, r2, r3) := by rw [if_pos rfl] at H; exact H
        clear H
        have H := H1
        clear H1
        have H' := Aside0.mk H
        clear H
        go_enter Try.func17, Try.ntmps17
        go_wp2_with (first | ((with_reducible refine gate_callee (f := 7) rfl ?_); refine goesL_ (some 21) rfl rfl Try.func7 (by kernel_rfl) rfl #[.slice A1 l1.length c1] rfl (by (try simp only [List.map_toArray, List.map_cons, List.map_nil]); first | done | rfl | (simp only [List.length_drop, List.length_take]; rfl)) ?_; (with_reducible refine (env_Sizes.calls k _ _ l1 t233 t234 t235 _ ?side1 ?side2 A5.out).mono ?_); (case side1 => exact Kd.C_kept_now HR1.out (by repeat (first | (with_reducible first | exact HK.out | apply Kept.alloc | apply Kept.drewN | apply Kept.drew | refine Kept.setCell ?_ (.inl (.inr rfl)) _) | exact HK.out))); (case side2 => exact HC1.out); rintro e w' ⟨rfl, ⟨nd, rfl⟩⟩; refine ⟨_, rfl, ?_⟩) | ((with_reducible refine gate_callee (f := 30) rfl ?_); refine goesL_ (some 37) rfl rfl Try.func30 (by kernel_rfl) rfl #[.pointer (some ⟨g, 0, none⟩), .int .i64 a2, .int .i64 (wrap64 (4 * t233))] rfl (by (try simp only [List.map_toArray, List.map_cons, List.map_nil]); first | done | rfl | (simp only [List.length_drop, List.length_take]; rfl)) ?_; (with_reducible refine (mem_Memory_Has.calls g (fun k_ => some k_ = (u9000_ : Value).ownBlock) u9000_ l0_0 s0_1 a2 (wrap64 (4 * t233)) true t237 t240 w0 _ ?side1 ?side2 ?side3 A7.out).mono ?_); (case side1 => repeat (first | (with_reducible first | exact HI0.out | apply IsS72.alloc | apply IsS72.drewN | apply IsS72.drew | apply IsS72.set_0 | apply IsS72.set_1) | exact HI0.out)); (case side2 => repeat (first | (with_reducible first | exact HB.out | apply below_alloc | apply pw_below_drewN | apply below_drew1 | refine below_set ?_ (IsS72.ge HI0.out)) | exact HB.out)); (case side3 => exact Kd.R_tight rfl HO0_0.out); rintro e w11 ⟨v238, rfl, ho0, hi, hb, hkp⟩; refine ⟨_, rfl, ?_⟩; have n0_ := Aside0.mk (hi); have n1_ := Aside0.mk (Kd.R_mono (ok' := fun k_ => (P0_0_ k_ ∨ w.heap.size ≤ k_)) ho0 (fun k_ hk_ => Or.elim hk_ (fun hs_ => (HO0_0.out.1 k_ (hs_).symm)) (fun hn_ => (.inr (Nat.le_trans (by first | exact HK.out.1 | exact (show Kept w _ (fun k_ => (P0_0_ k_) ∨ k_ = g) from by repeat (first | (with_reducible first | exact HK.out | apply Kept.alloc | apply Kept.drewN | apply Kept.drew | refine Kept.setCell ?_ (.inl (.inr rfl)) _) | exact HK.out)).1) hn_))))); have n2_ := Aside0.mk (Kept.then_ (S := (fun k_ => (P0_0_ k_) ∨ k_ = g)) (by repeat (first | (with_reducible first | exact HK.out | apply Kept.alloc | apply Kept.drewN | apply Kept.drew | refine Kept.setCell ?_ (.inl (.inr rfl)) _) | exact HK.out)) hkp (fun k_ hs_ => Or.elim hs_ (fun hs_ => (fun e_ => Or.imp_left Or.inl ((HO0_0.out.1 k_ e_.symm))) hs_) (fun e_ => .inl (.inr e_)))); have n3_ := Aside0.mk (hb); clear HI0; clear HK; clear HB; clear HO0_0; have HI0 := n0_; have HO239 := n1_; have HK := n2_; have HB := n3_; clear n0_ n1_ n2_ n3_; (try clear hb); (try clear hkp); (try clear ho0)) | (go_at_call 30; (with_reducible refine (mem_Memory_Has.calls g (fun k_ => some k_ = (v238 : Value).ownBlock) v238 t237 t240 a3 t234 true t242 t245 w0 _ ?side1 ?side2 ?side3 A9.out).mono ?_); (case side1 => repeat (first | (with_reducible first | exact HI0.out | apply IsS72.alloc | apply IsS72.drewN | apply IsS72.drew | apply IsS72.set_0 | apply IsS72.set_1) | exact HI0.out)); (case side2 => repeat (first | (with_reducible first | exact HB.out | apply below_alloc | apply pw_below_drewN | apply below_drew1 | refine below_set ?_ (IsS72.ge HI0.out)) | exact HB.out)); (case side3 => exact Kd.R_tight rfl HO239.out); rintro e w12 ⟨v243, rfl, ho0, hi, hb, hkp⟩; have n0_ := Aside0.mk (hi); have n1_ := Aside0.mk (Kd.R_mono (ok' := fun k_ => (P0_0_ k_ ∨ w.heap.size ≤ k_)) ho0 (fun k_ hk_ => Or.elim hk_ (fun hs_ => (HO239.out.1 k_ (hs_).symm)) (fun hn_ => (.inr (Nat.le_trans (by first | exact HK.out.1 | exact (show Kept w _ (fun k_ => (P0_0_ k_) ∨ k_ = g) from by repeat (first | (with_reducible first | exact HK.out | apply Kept.alloc | apply Kept.drewN | apply Kept.drew | refine Kept.setCell ?_ (.inl (.inr rfl)) _) | exact HK.out)).1) hn_))))); have n2_ := Aside0.mk (Kept.then_ (S := (fun k_ => (P0_0_ k_) ∨ k_ = g)) (by repeat (first | (with_reducible first | exact HK.out | apply Kept.alloc | apply Kept.drewN | apply Kept.drew | refine Kept.setCell ?_ (.inl (.inr rfl)) _) | exact HK.out)) hkp (fun k_ hs_ => Or.elim hs_ (fun hs_ => (fun e_ => Or.imp_left Or.inl ((HO239.out.1 k_ e_.symm))) hs_) (fun e_ => .inl (.inr e_)))); have n3_ := Aside0.mk (hb); clear HI0; clear HK; clear HB; clear HO239; have HI0 := n0_; have HO244 := n1_; have HK := n2_; have HB := n3_; clear n0_ n1_ n2_ n3_; (try clear hb); (try clear hkp); (try clear ho0)))
        go_loopg [14, 53] k (fun kq v14 v53 w' => ∃ (x14_1 : Int) (x53_1 : Int) (x1000_1 : List Int) (x1001_1 : Int) (u1000 : Value), v14 = .int .i64 x14_1 ∧ v53 = .int .i64 x53_1 ∧ Aside0 (env_Lay.l0 kq l1 a2 a3 x14_1 l1 (l1.length : Int) x53_1 x1000_1 x1001_1 = some (r1, r2, r3)) ∧ Aside0 (kq ≤ k) ∧ Aside0 (Kd.R (Kd.int .u8) 5 w' w0.heap.size (fun k_ => (P0_0_ k_ ∨ w.heap.size ≤ k_)) u1000 x1000_1) ∧ Aside0 (IsS72 w0 w' g u1000 x1001_1) ∧ Aside0 (Kept w w' (fun k_ => (P0_0_ k_) ∨ k_ = g)) ∧ Aside0 (Below w0.heap.size w0 w'))
        case atStart => exact ⟨(a3), (0), (t242), (t245), (v243), (by first | rfl | (simp; done) | (simp [*]; done)), (by first | rfl | (simp; done) | (simp [*]; done)), H', ⟨Nat.le_refl _⟩, ⟨by (with_reducible repeat (first | apply Kd.R_alloc | apply Kd.R_drewN | apply Kd.R_drew)); exact HO244.out⟩, ⟨by repeat (first | (with_reducible first | exact HI0.out | apply IsS72.alloc | apply IsS72.drewN | apply IsS72.drew | apply IsS72.set_0 | apply IsS72.set_1) | exact HI0.out)⟩, ⟨by repeat (first | (with_reducible first | exact HK.out | apply Kept.alloc | apply Kept.drewN | apply Kept.drew | refine Kept.setCell ?_ (.inl (.inr rfl)) _) | exact HK.out)⟩, ⟨by repeat (first | (with_reducible first | exact HB.out | apply below_alloc | apply pw_below_drewN | apply below_drew1 | refine below_set ?_ (IsS72.ge HI0.out)) | exact HB.out)⟩⟩
        case round =>
          clear H'
          try clear c1
          try clear p2
          try clear c3
          try clear c6
          try clear c6b0
          try clear c6b1
          try clear p6
          try clear c7
          try clear c8
          try clear c10
          obtain ⟨x14_1, x53_1, x1000_1, x1001_1, u1000, rfl, rfl, HA, HK1, HO_1000, HI0, HK, HB⟩ := hrel
          cases gk with
          | zero => exact absurd HA.out (by simp [env_Lay.l0])
          | succ k1 =>
            have H := HA.out
            clear HA
            simp only [env_Lay.l0] at H
            by_cases c13 : x53_1 < (l1.length : Int)
            · rw [if_pos c13] at H
              have c13b0 : decide (x53_1 < (l1.length : Int)) = true := decide_eq_true c13
              clear c13
              by_cases c14 : 0 ≤ x53_1
              · rw [if_pos c14] at H
                have c14b0 : decide (0 ≤ x53_1) = true := decide_eq_true c14
                clear c14
                by_cases c15 : x53_1 < (l1.length : Int)
                · rw [if_pos c15] at H
                  have c15b0 : decide (x53_1 < (l1.length : Int)) = true := decide_eq_true c15
                  clear c15
                  replace H := Option.bind_eq_some_iff.mp H
                  obtain ⟨⟨t247, t248, t251⟩, A160, H⟩ := H
                  replace H : (env_Lay.l0 k1 l1 a2 a3 (wrap64 (x14_1 + (wrap64 (((rdOf ByteArray.empty l1 x53_1).size : Int) + 1)))) l1 (l1.length : Int) (wrap64 (x53_1 + 1)) t248 t251) = some (r1, r2, r3) := H
                  have A16 := Aside0.mk A160
                  clear A160
                  have H' := Aside0.mk H
                  clear H
                  have p246 : 0 ≤ (x53_1 : Int) := of_decide_eq_true (by first | (with_reducible assumption) | assumption)
                  have q246 : x53_1 < (l1.length : Int) := of_decide_eq_true (by first | (with_reducible assumption) | assumption)
                  obtain ⟨ad246, e246, hx246_0⟩ := Kd.at_string (Kd.C_kept_now HR1.out HK.out) x53_1 p246 q246
                  cases e246
                  replace p246 := eq_true p246
                  replace q246 := eq_true q246
                  go_wp2_with (first | ((with_reducible refine Go.Proofs.YtpaodfhhnhbacaaO.gate_value (F := .tmp 58) rfl ?_); refine Go.Proofs.YtpaodfhhnhbacaaO.goesM_ (some 65) rfl rfl Try.func31 (by kernel_rfl) rfl #[.pointer (some ⟨g, 0, none⟩), .int .i64 (wrap64 (a2 + (wrap64 (4 * x53_1)))), .int .i64 0, .int .i64 4, .int .u64 (IntKind.u64.wrap (x14_1))] rfl rfl (by (try simp only [List.map_toArray, List.map_cons, List.map_nil]); first | done | rfl | (simp; done) | rfl | (simp only [List.length_drop, List.length_take]; rfl)) ?_; (with_reducible refine (mem_Memory_Store.calls g (fun k_ => some k_ = (u1000 : Value).ownBlock) u1000 x1000_1 x1001_1 (wrap64 (a2 + (wrap64 (4 * x53_1)))) 0 4 (IntKind.u64.wrap (x14_1)) t247 t248 t251 w0 _ ?side1 ?side2 ?side3 A16.out).mono ?_); (case side1 => repeat (first | (with_reducible first | exact HI0.out | apply IsS72.alloc | apply IsS72.drewN | apply IsS72.drew | apply IsS72.set_0 | apply IsS72.set_1) | exact HI0.out)); (case side2 => repeat (first | (with_reducible first | exact HB.out | apply below_alloc | apply pw_below_drewN | apply below_drew1 | refine below_set ?_ (IsS72.ge HI0.out)) | exact HB.out)); (case side3 => exact Kd.R_tight rfl HO_1000.out); rintro e w17 ⟨v249, rfl, ho0, hi, hb, hkp⟩; refine ⟨_, rfl, ?_⟩; have n0_ := Aside0.mk (hi); have n1_ := Aside0.mk (Kd.R_mono (ok' := fun k_ => (P0_0_ k_ ∨ w.heap.size ≤ k_)) ho0 (fun k_ hk_ => Or.elim hk_ (fun hs_ => (HO_1000.out.1 k_ (hs_).symm)) (fun hn_ => (.inr (Nat.le_trans (by first | exact HK.out.1 | exact (show Kept w _ (fun k_ => (P0_0_ k_) ∨ k_ = g) from by repeat (first | (with_reducible first | exact HK.out | apply Kept.alloc | apply Kept.drewN | apply Kept.drew | refine Kept.setCell ?_ (.inl (.inr rfl)) _) | exact HK.out)).1) hn_))))); have n2_ := Aside0.mk (Kept.then_ (S := (fun k_ => (P0_0_ k_) ∨ k_ = g)) (by repeat (first | (with_reducible first | exact HK.out | apply Kept.alloc | apply Kept.drewN | apply Kept.drew | refine Kept.setCell ?_ (.inl (.inr rfl)) _) | exact HK.out)) hkp (fun k_ hs_ => Or.elim hs_ (fun hs_ => (fun e_ => Or.imp_left Or.inl ((HO_1000.out.1 k_ e_.symm))) hs_) (fun e_ => .inl (.inr e_)))); have n3_ := Aside0.mk (hb); clear HI0; clear HK; clear HB; clear HO_1000; have HI0 := n0_; have HO250 := n1_; have HK := n2_; have HB := n3_; clear n0_ n1_ n2_ n3_; (try clear hb); (try clear hkp); (try clear ho0)))
                  go_roundg k1
                  case measure => have := HK1.out; omega
                  case rel => exact ⟨(wrap64 (x14_1 + (wrap64 (((rdOf ByteArray.empty l1 x53_1).size : Int) + 1)))), (wrap64 (x53_1 + 1)), (t248), (t251), (v249), (by first | rfl | (simp; done) | (simp [*]; done)), (by first | rfl | (simp; done) | (simp [*]; done)), H', ⟨by have := HK1.out; omega⟩, ⟨by (with_reducible repeat (first | apply Kd.R_alloc | apply Kd.R_drewN | apply Kd.R_drew)); exact HO250.out⟩, ⟨by repeat (first | (with_reducible first | exact HI0.out | apply IsS72.alloc | apply IsS72.drewN | apply IsS72.drew | apply IsS72.set_0 | apply IsS72.set_1) | exact HI0.out)⟩, ⟨by repeat (first | (with_reducible first | exact HK.out | apply Kept.alloc | apply Kept.drewN | apply Kept.drew | refine Kept.setCell ?_ (.inl (.inr rfl)) _) | exact HK.out)⟩, ⟨by repeat (first | (with_reducible first | exact HB.out | apply below_alloc | apply pw_below_drewN | apply below_drew1 | refine below_set ?_ (IsS72.ge HI0.out)) | exact HB.out)⟩⟩
                · rw [if_neg c15] at H
                  exact absurd H (by simp)
              · rw [if_neg c14] at H
                exact absurd H (by simp)
            · rw [if_neg c13] at H
              have c13b0 : decide (x53_1 < (l1.length : Int)) = false := decide_eq_false c13
              clear c13
              have H' := Aside0.mk H
              clear H
              go_wp2
              go_loopg [14, 75] k1 (fun kq v14 v75 w' => ∃ (x14_2 : Int) (x75_2 : Int) (x1000_2 : List Int) (x1001_2 : Int) (u1000 : Value), v14 = .int .i64 x14_2 ∧ v75 = .int .i64 x75_2 ∧ Aside0 (env_Lay.l1 kq x14_2 l1 (l1.length : Int) x75_2 x1000_2 x1001_2 = some (r1, r2, r3)) ∧ Aside0 (kq ≤ k1) ∧ Aside0 (Kd.R (Kd.int .u8) 5 w' w0.heap.size (fun k_ => (P0_0_ k_ ∨ w.heap.size ≤ k_)) u1000 x1000_2) ∧ Aside0 (IsS72 w0 w' g u1000 x1001_2) ∧ Aside0 (Kept w w' (fun k_ => (P0_0_ k_) ∨ k_ = g)) ∧ Aside0 (Below w0.heap.size w0 w'))
              case atStart => exact ⟨(a3), (0), (x1000_1), (x1001_1), (u1000), (by first | rfl | (simp; done) | (simp [*]; done)), (by first | rfl | (simp; done) | (simp [*]; done)), H', ⟨Nat.le_refl _⟩, ⟨by (with_reducible repeat (first | apply Kd.R_alloc | apply Kd.R_drewN | apply Kd.R_drew)); exact HO_1000.out⟩, ⟨by repeat (first | (with_reducible first | exact HI0.out | apply IsS72.alloc | apply IsS72.drewN | apply IsS72.drew | apply IsS72.set_0 | apply IsS72.set_1) | exact HI0.out)⟩, ⟨by repeat (first | (with_reducible first | exact HK.out | apply Kept.alloc | apply Kept.drewN | apply Kept.drew | refine Kept.setCell ?_ (.inl (.inr rfl)) _) | exact HK.out)⟩, ⟨by repeat (first | (with_reducible first | exact HB.out | apply below_alloc | apply pw_below_drewN | apply below_drew1 | refine below_set ?_ (IsS72.ge HI0.out)) | exact HB.out)⟩⟩
              case round =>
                clear H'
                try clear c1
                try clear p2
                try clear q2
                try clear hx2
                try clear c3
                try clear c6
                try clear c6b0
                try clear c6b1
                try clear p6
                try clear c7
                try clear c8
                try clear c10
                try clear c13
                try clear c13b0
                try clear c14
                try clear c14b0
                try clear c15
                try clear c15b0
                try clear c17
                try clear hx246_0
                try clear p2
                try clear p246
                try clear p6
                try clear q246
                obtain ⟨x14_2, x75_2, x1000_2, x1001_2, u1000, rfl, rfl, HA, HK2, HO_1000, HI0, HK, HB⟩ := hrel
                cases gk with
                | zero => exact absurd HA.out (by simp [env_Lay.l1])
                | succ k2 =>
                  have H := HA.out
                  clear HA
                  simp only [env_Lay.l1] at H
                  by_cases c18 : x75_2 < (l1.length : Int)
                  · rw [if_pos c18] at H
                    have c18b0 : decide (x75_2 < (l1.length : Int)) = true := decide_eq_true c18
                    clear c18
                    by_cases c19 : 0 ≤ x75_2
                    · rw [if_pos c19] at H
                      have c19b0 : decide (0 ≤ x75_2) = true := decide_eq_true c19
                      clear c19
                      by_cases c20 : x75_2 < (l1.length : Int)
                      · rw [if_pos c20] at H
                        have c20b0 : decide (x75_2 < (l1.length : Int)) = true := decide_eq_true c20
                        clear c20
                        by_cases c21 : (rdOf ByteArray.empty l1 x75_2).size + 1 ≤ 140737488355328
                        · rw [if_pos c21] at H
                          have LMc21 := Aside0.mk c21
                          clear c21
                          obtain ⟨y253, hy253⟩ : ∃ y_ : List Int, y_ = (bytesOf (rdOf ByteArray.empty l1 x75_2) ++ [0]) := ⟨_, rfl⟩
                          replace H : ((mem_Memory_Write.f x1000_2 x1001_2 x14_2 y253).bind fun bt256 => (env_Lay.l1 k2 (wrap64 (x14_2 + (wrap64 (((rdOf ByteArray.empty l1 x75_2).size : Int) + 1)))) l1 (l1.length : Int) (wrap64 (x75_2 + 1)) bt256.2.1 bt256.2.2)) = some (r1, r2, r3) := by first | (rw [hy253]; with_reducible exact H) | (have H2_ := (Option.bind_some _ _).symm.trans H; rw [hy253]; with_reducible exact H2_) | (have H2_ := (Option.bind_some _ _).symm.trans H; with_reducible exact H2_) | with_reducible exact H | (rw [hy253]; exact H) | exact H
                          have Ny253 := Aside0.mk hy253
                          clear hy253
                          replace H := Option.bind_eq_some_iff.mp H
                          obtain ⟨⟨t256, t257, t260⟩, A220, H⟩ := H
                          replace H : (env_Lay.l1 k2 (wrap64 (x14_2 + (wrap64 (((rdOf ByteArray.empty l1 x75_2).size : Int) + 1)))) l1 (l1.length : Int) (wrap64 (x75_2 + 1)) t257 t260) = some (r1, r2, r3) := H
                          have A22 := Aside0.mk A220
                          clear A220
                          have H' := Aside0.mk H
                          clear H
                          have p252 : 0 ≤ (x75_2 : Int) := of_decide_eq_true (by first | (with_reducible assumption) | assumption)
                          have q252 : x75_2 < (l1.length : Int) := of_decide_eq_true (by first | (with_reducible assumption) | assumption)
                          obtain ⟨ad252, e252, hx252_0⟩ := Kd.at_string (Kd.C_kept_now HR1.out HK.out) x75_2 p252 q252
                          cases e252
                          replace p252 := eq_true p252
                          replace q252 := eq_true q252
                          have hcv255 := fun w_ : World => Go.Lib.run_convert_string_bytes (P := Try.prog) w_ 9 32 5 (rdOf ByteArray.empty l1 x75_2) Try.underlying9 Try.underlying32 Try.underlying5
                          go_wp2_with (first | ((with_reducible refine gate_builtin (b := .append) (xs := #[.tmp 82, .tmp 83]) rfl ?_); at_builtin; refine Go.Proofs.YtpaodfhhnhbacaaO.bytes_append rfl (.tmp 82) (.tmp 83) 32 5 rfl Try.underlying32 info5 (str := (rdOf ByteArray.empty l1 x75_2)) (b := 0) (l := y253) Ny253.out LMc21.out rfl rfl ?_; intro A255 c255 w23 hf_ hc_ hb; have n0_ := Aside0.mk (Kd.R_below (by (with_reducible repeat (first | apply Kd.R_alloc | apply Kd.R_drewN | apply Kd.R_drew)); exact HO_1000.out) hb); have n1_ := Aside0.mk (IsS72.below (by repeat (first | (with_reducible first | exact HI0.out | apply IsS72.alloc | apply IsS72.drewN | apply IsS72.drew | apply IsS72.set_0 | apply IsS72.set_1) | exact HI0.out)) hb); have n2_ := Aside0.mk ((hf_ _ (fun _ _ _ => rfl))); have n3_ := Aside0.mk (hc_); have n4_ := Aside0.mk (hf_); have n5_ := Aside0.mk (Kd.R_lt HO_1000.out); have n6_ := Aside0.mk (IsS72.lt HI0.out); have n7_ := Aside0.mk (Kept.below (S := (fun k_ => (P0_0_ k_) ∨ k_ = g)) (by repeat (first | (with_reducible first | exact HK.out | apply Kept.alloc | apply Kept.drewN | apply Kept.drew | refine Kept.setCell ?_ (.inl (.inr rfl)) _) | exact HK.out)) hb); have n8_ := Aside0.mk (below_step (by repeat (first | (with_reducible first | exact HB.out | apply below_alloc | apply pw_below_drewN | apply below_drew1 | refine below_set ?_ (IsS72.ge HI0.out)) | exact HB.out)) hb); clear HO_1000; clear HI0; clear HK; clear HB; have HO_1000 := n0_; have HI0 := n1_; have HR255 := n2_; have HC255 := n3_; have HF255 := n4_; have HQ255_HO_1000 := n5_; have HQ255_HI0 := n6_; have HK := n7_; have HB := n8_; clear n0_ n1_ n2_ n3_ n4_ n5_ n6_ n7_ n8_; clear hb hf_ hc_) | ((with_reducible refine Go.Proofs.YtpaodfhhnhbacaaO.gate_value (F := .tmp 79) rfl ?_); refine Go.Proofs.YtpaodfhhnhbacaaO.goesM_ (some 85) rfl rfl Try.func26 (by kernel_rfl) rfl #[.pointer (some ⟨g, 0, none⟩), .int .i64 x14_2, .slice A255 y253.length c255] rfl rfl (by (try simp only [List.map_toArray, List.map_cons, List.map_nil]); first | done | rfl | (simp; done) | rfl | (simp only [List.length_drop, List.length_take]; rfl)) ?_; (with_reducible refine (mem_Memory_Write.calls g (fun k_ => some k_ = (u1000 : Value).ownBlock) u1000 x1000_2 x1001_2 x14_2 _ _ y253 t256 t257 t260 w0 _ ?side1 ?side2 ?side3 ?side4 ?side5 A22.out).mono ?_); (case side1 => repeat (first | (with_reducible first | exact HI0.out | apply IsS72.alloc | apply IsS72.drewN | apply IsS72.drew | apply IsS72.set_0 | apply IsS72.set_1) | exact HI0.out)); (case side2 => repeat (first | (with_reducible first | exact HB.out | apply below_alloc | apply pw_below_drewN | apply below_drew1 | refine below_set ?_ (IsS72.ge HI0.out)) | exact HB.out)); (case side3 => exact Kd.R_tight rfl HO_1000.out); (case side4 => exact fun W_ hk_ => HF255.out W_ (fun k_ h1_ h2_ => hk_.2 k_ h2_ (fun hs_ => Or.elim hs_ (fun hs_ => (fun e_ => Nat.lt_irrefl _ (Nat.lt_of_lt_of_le (HQ255_HO_1000.out k_ e_.symm) h1_)) hs_) (fun e_ => Nat.lt_irrefl _ (Nat.lt_of_lt_of_le (by rw [e_]; exact HQ255_HI0.out) h1_))))); (case side5 => exact HC255.out); rintro e w24 ⟨v258, rfl, ho0, hi, hb, hkp⟩; refine ⟨_, rfl, ?_⟩; have n0_ := Aside0.mk (hi); have n1_ := Aside0.mk (Kd.R_mono (ok' := fun k_ => (P0_0_ k_ ∨ w.heap.size ≤ k_)) ho0 (fun k_ hk_ => Or.elim hk_ (fun hs_ => (HO_1000.out.1 k_ (hs_).symm)) (fun hn_ => (.inr (Nat.le_trans (by first | exact HK.out.1 | exact (show Kept w _ (fun k_ => (P0_0_ k_) ∨ k_ = g) from by repeat (first | (with_reducible first | exact HK.out | apply Kept.alloc | apply Kept.drewN | apply Kept.drew | refine Kept.setCell ?_ (.inl (.inr rfl)) _) | exact HK.out)).1) hn_))))); have n2_ := Aside0.mk (Kept.then_ (S := (fun k_ => (P0_0_ k_) ∨ k_ = g)) (by repeat (first | (with_reducible first | exact HK.out | apply Kept.alloc | apply Kept.drewN | apply Kept.drew | refine Kept.setCell ?_ (.inl (.inr rfl)) _) | exact HK.out)) hkp (fun k_ hs_ => Or.elim hs_ (fun hs_ => (fun e_ => Or.imp_left Or.inl ((HO_1000.out.1 k_ e_.symm))) hs_) (fun e_ => .inl (.inr e_)))); have n3_ := Aside0.mk (hb); clear HI0; clear HK; clear HB; clear HO_1000; have HI0 := n0_; have HO259 := n1_; have HK := n2_; have HB := n3_; clear n0_ n1_ n2_ n3_; (try clear hb); (try clear hkp); (try clear ho0)))
                          go_roundg k2
                          case measure => have := HK1.out; have := HK2.out; omega
                          case rel => exact ⟨(wrap64 (x14_2 + (wrap64 (((rdOf ByteArray.empty l1 x75_2).size : Int) + 1)))), (wrap64 (x75_2 + 1)), (t257), (t260), (v258), (by first | rfl | (simp; done) | (simp [*]; done)), (by first | rfl | (simp; done) | (simp [*]; done)), H', ⟨by have := HK1.out; have := HK2.out; omega⟩, ⟨by (with_reducible repeat (first | apply Kd.R_alloc | apply Kd.R_drewN | apply Kd.R_drew)); exact HO259.out⟩, ⟨by repeat (first | (with_reducible first | exact HI0.out | apply IsS72.alloc | apply IsS72.drewN | apply IsS72.drew | apply IsS72.set_0 | apply IsS72.set_1) | exact HI0.out)⟩, ⟨by repeat (first | (with_reducible first | exact HK.out | apply Kept.alloc | apply Kept.drewN | apply Kept.drew | refine Kept.setCell ?_ (.inl (.inr rfl)) _) | exact HK.out)⟩, ⟨by repeat (first | (with_reducible first | exact HB.out | apply below_alloc | apply pw_below_drewN | apply below_drew1 | refine below_set ?_ (IsS72.ge HI0.out)) | exact HB.out)⟩⟩
                        · rw [if_neg c21] at H
                          exact absurd H (by simp)
                      · rw [if_neg c20] at H
                        exact absurd H (by simp)
                    · rw [if_neg c19] at H
                      exact absurd H (by simp)
                  · rw [if_neg c18] at H
                    have c18b0 : decide (x75_2 < (l1.length : Int)) = false := decide_eq_false c18
                    clear c18
                    simp only [Option.some.injEq, Prod.mk.injEq] at H
                    obtain ⟨rfl, rfl, rfl⟩ := H
                    go_wp2
                    go_ret
                    exact ⟨_, by first | rfl | (simp [errW_none, errW_some] <;> rfl) | (simp [*, errW_none, errW_some] <;> rfl), by (with_reducible repeat (first | apply Kd.R_alloc | apply Kd.R_drewN | apply Kd.R_drew)); exact HO_1000.out, by repeat (first | (with_reducible first | exact HI0.out | apply IsS72.alloc | apply IsS72.drewN | apply IsS72.drew | apply IsS72.set_0 | apply IsS72.set_1) | exact HI0.out), by repeat (first | (with_reducible first | exact HB.out | apply below_alloc | apply pw_below_drewN | apply below_drew1 | refine below_set ?_ (IsS72.ge HI0.out)) | exact HB.out), by repeat (first | (with_reducible first | exact HK.out | apply Kept.alloc | apply Kept.drewN | apply Kept.drew | refine Kept.setCell ?_ (.inl (.inr rfl)) _) | exact HK.out)⟩
      · replace c10 := Bool.eq_false_iff.mpr c10
        subst c10
        have H1 : (some (21, t242, t245)) = some (r1, r2, r3) := by rw [if_neg (show ¬ (false = true) by decide)] at H; exact H
        clear H
        have H := H1
        clear H1
        simp only [Option.some.injEq, Prod.mk.injEq] at H
        obtain ⟨rfl, rfl, rfl⟩ := H
        go_enter Try.func17, Try.ntmps17
        go_wp2_with (first | ((with_reducible refine gate_callee (f := 7) rfl ?_); refine goesL_ (some 21) rfl rfl Try.func7 (by kernel_rfl) rfl #[.slice A1 l1.length c1] rfl (by (try simp only [List.map_toArray, List.map_cons, List.map_nil]); first | done | rfl | (simp only [List.length_drop, List.length_take]; rfl)) ?_; (with_reducible refine (env_Sizes.calls k _ _ l1 t233 t234 t235 _ ?side1 ?side2 A5.out).mono ?_); (case side1 => exact Kd.C_kept_now HR1.out (by repeat (first | (with_reducible first | exact HK.out | apply Kept.alloc | apply Kept.drewN | apply Kept.drew | refine Kept.setCell ?_ (.inl (.inr rfl)) _) | exact HK.out))); (case side2 => exact HC1.out); rintro e w' ⟨rfl, ⟨nd, rfl⟩⟩; refine ⟨_, rfl, ?_⟩) | ((with_reducible refine gate_callee (f := 30) rfl ?_); refine goesL_ (some 37) rfl rfl Try.func30 (by kernel_rfl) rfl #[.pointer (some ⟨g, 0, none⟩), .int .i64 a2, .int .i64 (wrap64 (4 * t233))] rfl (by (try simp only [List.map_toArray, List.map_cons, List.map_nil]); first | done | rfl | (simp only [List.length_drop, List.length_take]; rfl)) ?_; (with_reducible refine (mem_Memory_Has.calls g (fun k_ => some k_ = (u9000_ : Value).ownBlock) u9000_ l0_0 s0_1 a2 (wrap64 (4 * t233)) true t237 t240 w0 _ ?side1 ?side2 ?side3 A7.out).mono ?_); (case side1 => repeat (first | (with_reducible first | exact HI0.out | apply IsS72.alloc | apply IsS72.drewN | apply IsS72.drew | apply IsS72.set_0 | apply IsS72.set_1) | exact HI0.out)); (case side2 => repeat (first | (with_reducible first | exact HB.out | apply below_alloc | apply pw_below_drewN | apply below_drew1 | refine below_set ?_ (IsS72.ge HI0.out)) | exact HB.out)); (case side3 => exact Kd.R_tight rfl HO0_0.out); rintro e w25 ⟨v238, rfl, ho0, hi, hb, hkp⟩; refine ⟨_, rfl, ?_⟩; have n0_ := Aside0.mk (hi); have n1_ := Aside0.mk (Kd.R_mono (ok' := fun k_ => (P0_0_ k_ ∨ w.heap.size ≤ k_)) ho0 (fun k_ hk_ => Or.elim hk_ (fun hs_ => (HO0_0.out.1 k_ (hs_).symm)) (fun hn_ => (.inr (Nat.le_trans (by first | exact HK.out.1 | exact (show Kept w _ (fun k_ => (P0_0_ k_) ∨ k_ = g) from by repeat (first | (with_reducible first | exact HK.out | apply Kept.alloc | apply Kept.drewN | apply Kept.drew | refine Kept.setCell ?_ (.inl (.inr rfl)) _) | exact HK.out)).1) hn_))))); have n2_ := Aside0.mk (Kept.then_ (S := (fun k_ => (P0_0_ k_) ∨ k_ = g)) (by repeat (first | (with_reducible first | exact HK.out | apply Kept.alloc | apply Kept.drewN | apply Kept.drew | refine Kept.setCell ?_ (.inl (.inr rfl)) _) | exact HK.out)) hkp (fun k_ hs_ => Or.elim hs_ (fun hs_ => (fun e_ => Or.imp_left Or.inl ((HO0_0.out.1 k_ e_.symm))) hs_) (fun e_ => .inl (.inr e_)))); have n3_ := Aside0.mk (hb); clear HI0; clear HK; clear HB; clear HO0_0; have HI0 := n0_; have HO239 := n1_; have HK := n2_; have HB := n3_; clear n0_ n1_ n2_ n3_; (try clear hb); (try clear hkp); (try clear ho0)) | (go_at_call 30; (with_reducible refine (mem_Memory_Has.calls g (fun k_ => some k_ = (v238 : Value).ownBlock) v238 t237 t240 a3 t234 false t242 t245 w0 _ ?side1 ?side2 ?side3 A9.out).mono ?_); (case side1 => repeat (first | (with_reducible first | exact HI0.out | apply IsS72.alloc | apply IsS72.drewN | apply IsS72.drew | apply IsS72.set_0 | apply IsS72.set_1) | exact HI0.out)); (case side2 => repeat (first | (with_reducible first | exact HB.out | apply below_alloc | apply pw_below_drewN | apply below_drew1 | refine below_set ?_ (IsS72.ge HI0.out)) | exact HB.out)); (case side3 => exact Kd.R_tight rfl HO239.out); rintro e w26 ⟨v243, rfl, ho0, hi, hb, hkp⟩; have n0_ := Aside0.mk (hi); have n1_ := Aside0.mk (Kd.R_mono (ok' := fun k_ => (P0_0_ k_ ∨ w.heap.size ≤ k_)) ho0 (fun k_ hk_ => Or.elim hk_ (fun hs_ => (HO239.out.1 k_ (hs_).symm)) (fun hn_ => (.inr (Nat.le_trans (by first | exact HK.out.1 | exact (show Kept w _ (fun k_ => (P0_0_ k_) ∨ k_ = g) from by repeat (first | (with_reducible first | exact HK.out | apply Kept.alloc | apply Kept.drewN | apply Kept.drew | refine Kept.setCell ?_ (.inl (.inr rfl)) _) | exact HK.out)).1) hn_))))); have n2_ := Aside0.mk (Kept.then_ (S := (fun k_ => (P0_0_ k_) ∨ k_ = g)) (by repeat (first | (with_reducible first | exact HK.out | apply Kept.alloc | apply Kept.drewN | apply Kept.drew | refine Kept.setCell ?_ (.inl (.inr rfl)) _) | exact HK.out)) hkp (fun k_ hs_ => Or.elim hs_ (fun hs_ => (fun e_ => Or.imp_left Or.inl ((HO239.out.1 k_ e_.symm))) hs_) (fun e_ => .inl (.inr e_)))); have n3_ := Aside0.mk (hb); clear HI0; clear HK; clear HB; clear HO239; have HI0 := n0_; have HO244 := n1_; have HK := n2_; have HB := n3_; clear n0_ n1_ n2_ n3_; (try clear hb); (try clear hkp); (try clear ho0)))
        go_ret
        exact ⟨_, by first | rfl | (simp [errW_none, errW_some] <;> rfl) | (simp [*, errW_none, errW_some] <;> rfl), by (with_reducible repeat (first | apply Kd.R_alloc | apply Kd.R_drewN | apply Kd.R_drew)); exact HO244.out, by repeat (first | (with_reducible first | exact HI0.out | apply IsS72.alloc | apply IsS72.drewN | apply IsS72.drew | apply IsS72.set_0 | apply IsS72.set_1) | exact HI0.out), by repeat (first | (with_reducible first | exact HB.out | apply below_alloc | apply pw_below_drewN | apply below_drew1 | refine below_set ?_ (IsS72.ge HI0.out)) | exact HB.out), by repeat (first | (with_reducible first | exact HK.out | apply Kept.alloc | apply Kept.drewN | apply Kept.drew | refine Kept.setCell ?_ (.inl (.inr rfl)) _) | exact HK.out)⟩
    · replace c8 := Bool.eq_false_iff.mpr c8
      subst c8
      have H1 : (some (21, t237, t240)) = some (r1, r2, r3) := by rw [if_neg (show ¬ (false = true) by decide)] at H; exact H
      clear H
      have H := H1
      clear H1
      simp only [Option.some.injEq, Prod.mk.injEq] at H
      obtain ⟨rfl, rfl, rfl⟩ := H
      go_enter Try.func17, Try.ntmps17
      go_wp2_with (first | ((with_reducible refine gate_callee (f := 7) rfl ?_); refine goesL_ (some 21) rfl rfl Try.func7 (by kernel_rfl) rfl #[.slice A1 l1.length c1] rfl (by (try simp only [List.map_toArray, List.map_cons, List.map_nil]); first | done | rfl | (simp only [List.length_drop, List.length_take]; rfl)) ?_; (with_reducible refine (env_Sizes.calls k _ _ l1 t233 t234 t235 _ ?side1 ?side2 A5.out).mono ?_); (case side1 => exact Kd.C_kept_now HR1.out (by repeat (first | (with_reducible first | exact HK.out | apply Kept.alloc | apply Kept.drewN | apply Kept.drew | refine Kept.setCell ?_ (.inl (.inr rfl)) _) | exact HK.out))); (case side2 => exact HC1.out); rintro e w' ⟨rfl, ⟨nd, rfl⟩⟩; refine ⟨_, rfl, ?_⟩) | ((with_reducible refine gate_callee (f := 30) rfl ?_); refine goesL_ (some 37) rfl rfl Try.func30 (by kernel_rfl) rfl #[.pointer (some ⟨g, 0, none⟩), .int .i64 a2, .int .i64 (wrap64 (4 * t233))] rfl (by (try simp only [List.map_toArray, List.map_cons, List.map_nil]); first | done | rfl | (simp only [List.length_drop, List.length_take]; rfl)) ?_; (with_reducible refine (mem_Memory_Has.calls g (fun k_ => some k_ = (u9000_ : Value).ownBlock) u9000_ l0_0 s0_1 a2 (wrap64 (4 * t233)) false t237 t240 w0 _ ?side1 ?side2 ?side3 A7.out).mono ?_); (case side1 => repeat (first | (with_reducible first | exact HI0.out | apply IsS72.alloc | apply IsS72.drewN | apply IsS72.drew | apply IsS72.set_0 | apply IsS72.set_1) | exact HI0.out)); (case side2 => repeat (first | (with_reducible first | exact HB.out | apply below_alloc | apply pw_below_drewN | apply below_drew1 | refine below_set ?_ (IsS72.ge HI0.out)) | exact HB.out)); (case side3 => exact Kd.R_tight rfl HO0_0.out); rintro e w27 ⟨v238, rfl, ho0, hi, hb, hkp⟩; refine ⟨_, rfl, ?_⟩; have n0_ := Aside0.mk (hi); have n1_ := Aside0.mk (Kd.R_mono (ok' := fun k_ => (P0_0_ k_ ∨ w.heap.size ≤ k_)) ho0 (fun k_ hk_ => Or.elim hk_ (fun hs_ => (HO0_0.out.1 k_ (hs_).symm)) (fun hn_ => (.inr (Nat.le_trans (by first | exact HK.out.1 | exact (show Kept w _ (fun k_ => (P0_0_ k_) ∨ k_ = g) from by repeat (first | (with_reducible first | exact HK.out | apply Kept.alloc | apply Kept.drewN | apply Kept.drew | refine Kept.setCell ?_ (.inl (.inr rfl)) _) | exact HK.out)).1) hn_))))); have n2_ := Aside0.mk (Kept.then_ (S := (fun k_ => (P0_0_ k_) ∨ k_ = g)) (by repeat (first | (with_reducible first | exact HK.out | apply Kept.alloc | apply Kept.drewN | apply Kept.drew | refine Kept.setCell ?_ (.inl (.inr rfl)) _) | exact HK.out)) hkp (fun k_ hs_ => Or.elim hs_ (fun hs_ => (fun e_ => Or.imp_left Or.inl ((HO0_0.out.1 k_ e_.symm))) hs_) (fun e_ => .inl (.inr e_)))); have n3_ := Aside0.mk (hb); clear HI0; clear HK; clear HB; clear HO0_0; have HI0 := n0_; have HO239 := n1_; have HK := n2_; have HB := n3_; clear n0_ n1_ n2_ n3_; (try clear hb); (try clear hkp); (try clear ho0)))
      go_ret
      exact ⟨_, by first | rfl | (simp [errW_none, errW_some] <;> rfl) | (simp [*, errW_none, errW_some] <;> rfl), by (with_reducible repeat (first | apply Kd.R_alloc | apply Kd.R_drewN | apply Kd.R_drew)); exact HO239.out, by repeat (first | (with_reducible first | exact HI0.out | apply IsS72.alloc | apply IsS72.drewN | apply IsS72.drew | apply IsS72.set_0 | apply IsS72.set_1) | exact HI0.out), by repeat (first | (with_reducible first | exact HB.out | apply below_alloc | apply pw_below_drewN | apply below_drew1 | refine below_set ?_ (IsS72.ge HI0.out)) | exact HB.out), by repeat (first | (with_reducible first | exact HK.out | apply Kept.alloc | apply Kept.drewN | apply Kept.drew | refine Kept.setCell ?_ (.inl (.inr rfl)) _) | exact HK.out)⟩
  · rw [if_neg c6] at H
    have c6b0 : (t235 == 0) = false := beq_eq_false_iff_ne.mpr c6
    have c6b1 : (t235 != 0) = true := bne_iff_ne.mpr c6
    simp only [Option.some.injEq, Prod.mk.injEq] at H
    obtain ⟨rfl, rfl, rfl⟩ := H
    go_enter Try.func17, Try.ntmps17
    go_wp2_with (first | ((with_reducible refine gate_callee (f := 7) rfl ?_); refine goesL_ (some 21) rfl rfl Try.func7 (by kernel_rfl) rfl #[.slice A1 l1.length c1] rfl (by (try simp only [List.map_toArray, List.map_cons, List.map_nil]); first | done | rfl | (simp only [List.length_drop, List.length_take]; rfl)) ?_; (with_reducible refine (env_Sizes.calls k _ _ l1 t233 t234 t235 _ ?side1 ?side2 A5.out).mono ?_); (case side1 => exact Kd.C_kept_now HR1.out (by repeat (first | (with_reducible first | exact HK.out | apply Kept.alloc | apply Kept.drewN | apply Kept.drew | refine Kept.setCell ?_ (.inl (.inr rfl)) _) | exact HK.out))); (case side2 => exact HC1.out); rintro e w' ⟨rfl, ⟨nd, rfl⟩⟩; refine ⟨_, rfl, ?_⟩))
    go_ret
    exact ⟨_, by first | rfl | (simp [errW_none, errW_some] <;> rfl) | (simp [*, errW_none, errW_some] <;> rfl), by (with_reducible repeat (first | apply Kd.R_alloc | apply Kd.R_drewN | apply Kd.R_drew)); exact HO0_0.out, by repeat (first | (with_reducible first | exact HI0.out | apply IsS72.alloc | apply IsS72.drewN | apply IsS72.drew | apply IsS72.set_0 | apply IsS72.set_1) | exact HI0.out), by repeat (first | (with_reducible first | exact HB.out | apply below_alloc | apply pw_below_drewN | apply below_drew1 | refine below_set ?_ (IsS72.ge HI0.out)) | exact HB.out), by repeat (first | (with_reducible first | exact HK.out | apply Kept.alloc | apply Kept.drewN | apply Kept.drew | refine Kept.setCell ?_ (.inl (.inr rfl)) _) | exact HK.out)⟩

/-! ### env_Lay: function 17 (by hand) -/
def env_Lay_nil.f : Option Int := some 100
set_option maxHeartbeats 8000000 in
set_option maxRecDepth 100000 in
theorem env_Lay_nil.calls (r1 : Int) (w : World) (h : env_Lay_nil.f = some r1) :
    Calls Try.prog 17 #[.pointer none, .slice none 0 0, .int .i64 0, .int .i64 0] w fun e w' => e = .returned (.int .i64 r1) ∧ Drawn0 w w' := by
  have hr : r1 = 100 := (Option.some.inj h).symm
  subst hr
  clear h
  have hs : env_Sizes.f 1 [] = some (0, 0, 0) := by rfl
  go_enter Try.func17, Try.ntmps17
  go_wp2_with (first
    | (go_at_call 7
       (refine (env_Sizes.calls 1 none 0 [] 0 0 0 _ ?e1 (Nat.le_refl 0) hs).mono ?_)
       (case e1 => exact Kd.C_nil _ _)
       rintro e w1 ⟨rfl, ⟨nd, rfl⟩⟩))
  go_ret
  exact ⟨rfl, ⟨_, rfl⟩⟩


end Go.Proofs.Ytpaodfhhnhbacaa.PAll
