/- Printed by a copy of the printer that was turned for this claim: functions as plain Lean functions, with proofs that their calls come to these; or words that such proofs use. -/
import Derived.Test.YtdoaininjfbemaaPAllx0
import Derived.Test.YtdoaininjfbemaaPAllx2
import Derived.Test.YtdoaininjfbemaaPAllx3
namespace Go.Proofs.Ytdoaininjfbemaa.PAll
open Go.RowKit Go.Proofs.YtdoaininjfbemaaW.PrintWords Go.Proofs.YtdoaininjfbemaaW.PrintLast Go.Proofs.YtdoaininjfbemaaW.PrintMore
attribute [local go_sem] max2_int min2_int max_two min_two max_three min_three max_four min_four   -- for this text's walks alone
set_option linter.unusedVariables false
set_option linter.unusedSimpArgs false

/-! ### mem_address: function 38 -/
def mem_address.f (a0 : Int) : Option (Bool) := if a0 ≥ 0 then (some (decide (a0 < 4294967296))) else (some false)
set_option maxHeartbeats 8000000 in
set_option maxRecDepth 100000 in
theorem mem_address.calls (a0 : Int) (r : Bool) (w : World) (h : mem_address.f a0 = some r) :
    Calls Try.prog 38 #[.int .i64 a0] w fun e w' => e = .returned (.bool r) ∧ Drawn0 w w' := by
  have H : (if a0 ≥ 0 then (some (decide (a0 < 4294967296))) else (some false)) = some r := h
  clear h
  by_cases c2 : a0 ≥ 0
  · rw [if_pos c2] at H
    have c2b0 : decide (0 ≤ a0) = true := decide_eq_true c2
    clear c2
    obtain rfl := Option.some.inj H
    go_enter Try.func38, Try.ntmps38
    go_wp2
    go_ret
    exact ⟨by first | rfl | (simp; done) | (simp [*]; done), by repeat (first | exact Drawn0.refl _ | apply Drawn0.step)⟩
  · rw [if_neg c2] at H
    have c2b0 : decide (0 ≤ a0) = false := decide_eq_false c2
    clear c2
    obtain rfl := Option.some.inj H
    go_enter Try.func38, Try.ntmps38
    go_wp2
    go_ret
    exact ⟨by first | rfl | (simp; done) | (simp [*]; done), by repeat (first | exact Drawn0.refl _ | apply Drawn0.step)⟩

-- NOT PRINTED: function 33 (mem_Memory_word)

/-! ### mem_word_get: function 34 -/
abbrev mem_word_get.t : Bool := true
abbrev mem_word_get.f_ : Bool := false
theorem mem_word_get.bc {w : World} {g : Nat} {cs : Array Value} {t : TypeId} (h : Aside0 (w.heap[g]? = some (.cells cs t (0, 0)))) (i : Nat) {v : Value} (e : cs[i]? = some v := by rfl) : w.cell? ⟨g, i, none⟩ = some v := (blk_cell h.out i).trans e
theorem mem_word_get.bkept {W0 W W2 : World} {g : Nat} {o : Obj} {S : Nat → Prop} (_b : Aside0 (W0.heap[g]? = some o)) (h : W.heap[g]? = some o) (hk : Kept W W2 S) (hn : ¬ S g) : W2.heap[g]? = some o := blk_kept h hk hn
theorem mem_word_get.bbelow {W0 w w1 : World} {g : Nat} {o : Obj} (_b : Aside0 (W0.heap[g]? = some o)) (h : w.heap[g]? = some o) (hb : Below w.heap.size w w1) : w1.heap[g]? = some o := blk_below h hb
theorem mem_word_get.e1 {α : Type _} (xs : List α) (i : Nat) (a : α) : xs.toArray.setIfInBounds i a = (xs.set i a).toArray := by simp
theorem mem_word_get.e2 {α : Type _} (x a : α) (xs : List α) : (x :: xs).set 0 a = a :: xs := rfl
theorem mem_word_get.e3 {α : Type _} (x a : α) (xs : List α) (n : Nat) : (x :: xs).set (n + 1) a = x :: xs.set n a := rfl
def mem_word_get.l0 : Nat → Int → List Int → Int → Int → Option (Int)
 | 0, _, _, _, _ => none
 | k + 1, x2, x5, x6, x7 => if x7 < x6 then (if 0 ≤ x7 then (if x7 < (x5.length : Int) then (if 0 ≤ (wrap64 (8 * x7)) then (mem_word_get.l0 k (Go.bits .or .u64 x2 (shl .u64 (IntKind.u64.wrap (rd x5 x7)) (wrap64 (8 * x7)))) x5 x6 (wrap64 (x7 + 1))) else (none)) else (none)) else (none)) else (some x2)
def mem_word_get.f (k : Nat) (l0 : List Int) : Option (Int) := mem_word_get.l0 k 0 l0 (l0.length : Int) 0
theorem mem_word_get.mono_l : ∀ k, (∀ y0 y1 y2 y3, LeO (mem_word_get.l0 k y0 y1 y2 y3) (mem_word_get.l0 (k + 1) y0 y1 y2 y3))
 | 0 => fun _ _ _ _ r h => by simp [mem_word_get.l0] at h
 | k + 1 => by
  have ih0 := mem_word_get.mono_l k
  ·intro y0 y1 y2 y3
   unfold mem_word_get.l0
   repeat' first
   | (with_reducible apply ih0)
   | (with_reducible exact LeO.refl _)
   | (with_reducible exact LeO.none _)
   | (with_reducible refine LeO.ite ?_ ?_)
   | (with_reducible refine LeO.bind ?_ (fun _ => ?_))
   | apply ih0
   | exact LeO.none _
   | refine LeO.ite ?_ ?_
   | refine LeO.bind ?_ (fun _ => ?_)
theorem mem_word_get.mono : ∀ a0 k, LeO (mem_word_get.f k a0) (mem_word_get.f (k + 1) a0) := by
 intro a0 k
 have ih0 := mem_word_get.mono_l k
 unfold mem_word_get.f
 repeat' first
   | (with_reducible apply ih0)
   | (with_reducible exact LeO.refl _)
   | (with_reducible exact LeO.none _)
   | (with_reducible refine LeO.ite ?_ ?_)
   | (with_reducible refine LeO.bind ?_ (fun _ => ?_))
   | apply ih0
   | exact LeO.none _
   | refine LeO.ite ?_ ?_
   | refine LeO.bind ?_ (fun _ => ?_)
theorem mem_word_get.am_ {p : Prop} (h : p) : Aside0 p := Aside0.mk h
theorem mem_word_get.bm_ {α β : Type _} {o : Option α} {f : α → Option β} {b : β} (h : o.bind f = some b) : ∃ a, o = some a ∧ f a = some b := Option.bind_eq_some_iff.mp h
set_option maxHeartbeats 8000000 in
set_option maxRecDepth 100000 in
theorem mem_word_get.calls (k : Nat) (A0 : Option Addr) (c0 : Nat) (l0 : List Int) (r : Int) (w : World) (hr0 : Kd.C (Kd.int .u8) w A0 l0.length l0) (hc0 : l0.length ≤ c0) (h : mem_word_get.f k l0 = some r) :
  Calls Try.prog 34 #[.slice A0 l0.length c0] w fun e w' => e = .returned (.int .u64 r) ∧ Drawn0 w w' := by
 have HR0 := am_ hr0
 have HC0 := am_ hc0
 clear hr0 hc0
 have H : (mem_word_get.l0 k 0 l0 (l0.length : Int) 0) = some r := h
 clear h
 have H' := am_ H
 clear H
 go_enter Try.func34, Try.ntmps34
 go_wp2
 go_loopg [2, 7] k (fun kq v2 v7 w' => ∃ (x2_1 : Int) (x7_1 : Int), v2 = .int .u64 x2_1 ∧ v7 = .int .i64 x7_1 ∧ Aside0 (mem_word_get.l0 kq x2_1 l0 (l0.length : Int) x7_1 = some r) ∧ Aside0 (kq ≤ k) ∧ Drawn0 w w')
 case atStart => exact ⟨(0), (0), (by first | rfl | (simp; done) | (simp [*]; done)), (by first | rfl | (simp; done) | (simp [*]; done)), H', ⟨Nat.le_refl _⟩, by repeat (first | exact Drawn0.refl _ | apply Drawn0.step)⟩
 case round =>
  clear H'
  obtain ⟨x2_1, x7_1, rfl, rfl, HA, HK1, ⟨m1, rfl⟩⟩ := hrel
  cases gk with
  | zero => exact absurd HA.out (by simp [mem_word_get.l0])
  | succ k1 =>
   have H := HA.out
   clear HA
   simp only [mem_word_get.l0] at H
   by_cases c2 : x7_1 < (l0.length : Int)
   ·rw [if_pos c2] at H
    have c2b0 : decide (x7_1 < (l0.length : Int)) = true := decide_eq_true c2
    clear c2
    by_cases c3 : 0 ≤ x7_1
    ·rw [if_pos c3] at H
     have c3b0 : decide (0 ≤ x7_1) = true := decide_eq_true c3
     clear c3
     by_cases c4 : x7_1 < (l0.length : Int)
     ·rw [if_pos c4] at H
      have c4b0 : decide (x7_1 < (l0.length : Int)) = true := decide_eq_true c4
      clear c4
      obtain ⟨ji5, hji5⟩ : ∃ j_ : Int, (wrap64 (8 * x7_1)) = j_ := ⟨_, rfl⟩
      replace H : (if 0 ≤ (ji5) then (mem_word_get.l0 k1 (Go.bits .or .u64 x2_1 (shl .u64 (IntKind.u64.wrap (rd l0 x7_1)) (ji5))) l0 (l0.length : Int) (wrap64 (x7_1 + 1))) else (none)) = some r := by first | (rw [hji5] at H; exact H) | (simp only [hji5] at H ⊢; exact H)
      have hji5w : (IntKind.i64.wrap (8 * x7_1)) = ji5 := (i64_w _).trans hji5
      by_cases c6 : 0 ≤ (ji5)
      ·rw [if_pos c6] at H
       have c6b0 := eq_true c6
       have c6b1 : decide (0 ≤ (ji5)) = true := decide_eq_true c6
       clear c6
       obtain ⟨ji7, hji7⟩ : ∃ j_ : Int, (shl .u64 (IntKind.u64.wrap (rd l0 x7_1)) (ji5)) = j_ := ⟨_, rfl⟩
       replace H : (mem_word_get.l0 k1 (Go.bits .or .u64 x2_1 (ji7)) l0 (l0.length : Int) (wrap64 (x7_1 + 1))) = some r := by first | (rw [hji7] at H; exact H) | (simp only [hji7] at H ⊢; exact H)
       have hji7_ : (IntKind.u64.wrap ((IntKind.u64.wrap (rd l0 x7_1)) * 2 ^ min (ji5).toNat 64)) = ji7 := hji7
       have hji7z : (ji5) ≤ 64 → (IntKind.u64.wrap ((IntKind.u64.wrap (rd l0 x7_1)) * 2 ^ (ji5).toNat)) = ji7 := shl_small hji7
       have H' := am_ H
       clear H
       have p147 : 0 ≤ (x7_1 : Int) := of_decide_eq_true (by first | (with_reducible assumption) | assumption)
       have q147 : x7_1 < (l0.length : Int) := of_decide_eq_true (by first | (with_reducible assumption) | assumption)
       obtain ⟨ad147, e147, hx147_0⟩ := Kd.at_int HR0.out x7_1 p147 q147
       cases e147
       replace p147 := eq_true p147
       replace q147 := eq_true q147
       go_wp2
       go_roundg k1
       case measure => have := HK1.out; omega
       case rel => exact ⟨(Go.bits .or .u64 x2_1 (ji7)), (wrap64 (x7_1 + 1)), (by first | rfl | (simp; done) | (simp only [← hji7] <;> (first | rfl | simp)) | (simp [*]; done)), (by first | rfl | (simp; done) | (simp [*]; done)), H', ⟨by have := HK1.out; omega⟩, by repeat (first | exact Drawn0.refl _ | apply Drawn0.step)⟩
      ·rw [if_neg c6] at H
       exact absurd H (by simp)
     ·rw [if_neg c4] at H
      exact absurd H (by simp)
    ·rw [if_neg c3] at H
     exact absurd H (by simp)
   ·rw [if_neg c2] at H
    have c2b0 : decide (x7_1 < (l0.length : Int)) = false := decide_eq_false c2
    clear c2
    obtain rfl := Option.some.inj H
    go_wp2
    go_ret
    exact ⟨by first | rfl | (simp; done) | (simp [*]; done), by repeat (first | exact Drawn0.refl _ | apply Drawn0.step)⟩


/-! ### mem_Memory_Load: function 27 (by hand) -/
/-- Is it a place and a width that may be? -/
def mem_Memory_Load.form (a1 a2 a3 : Int) : Prop := (a3 = 1 ∨ a3 = 2 ∨ a3 = 4 ∨ a3 = 8) ∧ (0 ≤ a1 ∧ a1 < 4294967296) ∧ (0 ≤ a2 ∧ a2 < 4294967296)
instance (a1 a2 a3 : Int) : Decidable (mem_Memory_Load.form a1 a2 a3) := by unfold mem_Memory_Load.form; infer_instance
def mem_Memory_Load.sub (l : List Int) (a1 a2 a3 : Int) : List Int := (l.take (a1 + a2 + a3).toNat).drop (a1 + a2).toNat
def mem_Memory_Load.f (k : Nat) (l0_0 : List Int) (s0_1 : Int) (a1 a2 a3 : Int) : Option (Int × Int × List Int × Int) :=
  if mem_Memory_Load.form a1 a2 a3 then
    if a1 + a2 + a3 ≤ (l0_0.length : Int) then (mem_word_get.f k (mem_Memory_Load.sub l0_0 a1 a2 a3)).bind fun v => some (v, 0, l0_0, s0_1)
    else (mem_word_get.f k []).bind fun v => some (v, 21, l0_0, s0_1)
  else (mem_word_get.f k []).bind fun v => some (v, 100, l0_0, s0_1)
theorem mem_Memory_Load.mono : ∀ a0 a1 a2 a3 a4 k, LeO (mem_Memory_Load.f k a0 a1 a2 a3 a4) (mem_Memory_Load.f (k + 1) a0 a1 a2 a3 a4) := by
  intro a0 a1 a2 a3 a4 k
  unfold mem_Memory_Load.f
  exact LeO.ite (LeO.ite (LeO.bind (mem_word_get.mono _ _) (fun _ => LeO.refl _)) (LeO.bind (mem_word_get.mono _ _) (fun _ => LeO.refl _))) (LeO.bind (mem_word_get.mono _ _) (fun _ => LeO.refl _))
theorem mem_Memory_Load.there_ (l : List Int) (s a n : Int) (hl : l.length ≤ 9223372036854775807) (ha : 0 ≤ a) (hn : 0 ≤ n) :
    mem_Memory_there.f l s a n = some (decide (a + n ≤ (l.length : Int)), l, s) := by
  unfold mem_Memory_there.f
  rw [if_pos ha, if_pos hn]
  by_cases h2 : a ≤ (l.length : Int)
  · rw [if_pos h2]
    have : wrap64 ((l.length : Int) - a) = (l.length : Int) - a := by unfold wrap64; omega
    rw [this]
    congr 2
    simp only [decide_eq_decide]
    omega
  · rw [if_neg h2]
    congr 2
    simp
    omega
theorem mem_Memory_Load.addr_ (a : Int) : mem_address.f a = some (decide (0 ≤ a ∧ a < 4294967296)) := by
  unfold mem_address.f
  by_cases h : a ≥ 0
  · rw [if_pos h]; congr 1; simp only [decide_eq_decide]; omega
  · rw [if_neg h]; congr 1; simp; omega
theorem mem_Memory_Load.wrap_ {a b : Int} (ha : 0 ≤ a ∧ a < 4294967296) (hb : 0 ≤ b ∧ b < 4294967296) : wrap64 (a + b) = a + b := by unfold wrap64; omega
theorem mem_Memory_Load.sub_len (l : List Int) (a1 a2 a3 : Int) (h : 0 ≤ a1 ∧ 0 ≤ a2) (h3 : 0 < a3 ∧ a3 ≤ 8) (hin : a1 + a2 + a3 ≤ (l.length : Int)) : (mem_Memory_Load.sub l a1 a2 a3).length = (a1 + a2 + a3).toNat - (a1 + a2).toNat := by
  unfold mem_Memory_Load.sub
  rw [List.length_drop, List.length_take]
  omega
set_option maxHeartbeats 8000000 in
set_option maxRecDepth 100000 in
/-- 'word', where it is told 'may not be'. -/
theorem mem_Memory_Load.word_form (a1 a2 a3 : Int) (v0 : Value) (w : World) (hf : ¬ mem_Memory_Load.form a1 a2 a3) :
    Calls Try.prog 33 #[v0, .int .i64 a1, .int .i64 a2, .int .i64 a3] w fun e w' => e = .returned (.tuple #[.slice none 0 0, .int .i64 100]) ∧ Drawn0 w w' := by
  have hA1 := mem_Memory_Load.addr_ a1
  have hA2 := mem_Memory_Load.addr_ a2
  by_cases h3 : a3 = 1 ∨ a3 = 2 ∨ a3 = 4 ∨ a3 = 8
  · by_cases h1 : 0 ≤ a1 ∧ a1 < 4294967296
    · have h2 : ¬ (0 ≤ a2 ∧ a2 < 4294967296) := fun h2 => hf ⟨h3, h1, h2⟩
      rw [decide_eq_true h1] at hA1
      rw [decide_eq_false h2] at hA2
      have HA1 := Aside0.mk hA1
      have HA2 := Aside0.mk hA2
      clear hf h1 h2 hA1 hA2
      rcases h3 with rfl | rfl | rfl | rfl
      all_goals
        go_enter Try.func33, Try.ntmps33
        go_wp2_with (first
          | (go_at_call 38; (with_reducible refine (mem_address.calls a1 true _ HA1.out).mono ?_); rintro e w7 ⟨rfl, ⟨n7, rfl⟩⟩)
          | (go_at_call 38; (with_reducible refine (mem_address.calls a2 false _ HA2.out).mono ?_); rintro e w7 ⟨rfl, ⟨n7, rfl⟩⟩))
        go_ret2
        exact ⟨rfl, by repeat (first | exact Drawn0.refl _ | apply Drawn0.step)⟩
    · rw [decide_eq_false h1] at hA1
      have HA1 := Aside0.mk hA1
      clear hf h1 hA1 hA2
      rcases h3 with rfl | rfl | rfl | rfl
      all_goals
        go_enter Try.func33, Try.ntmps33
        go_wp2_with (first
          | (go_at_call 38; (with_reducible refine (mem_address.calls a1 false _ HA1.out).mono ?_); rintro e w7 ⟨rfl, ⟨n7, rfl⟩⟩))
        go_ret2
        exact ⟨rfl, by repeat (first | exact Drawn0.refl _ | apply Drawn0.step)⟩
  · have e1 : (a3 != 1) = true := by simp; omega
    have e2 : (a3 != 2) = true := by simp; omega
    have e4 : (a3 != 4) = true := by simp; omega
    have e8 : (a3 != 8) = true := by simp; omega
    clear hf h3 hA1 hA2
    go_enter Try.func33, Try.ntmps33
    go_wp2
    go_ret2
    exact ⟨rfl, by repeat (first | exact Drawn0.refl _ | apply Drawn0.step)⟩
set_option maxHeartbeats 8000000 in
set_option maxRecDepth 100000 in
/-- 'word', where bytes are there, or aren't. -/
theorem mem_Memory_Load.word_there (g : Nat) (P0_0_ : Nat → Prop) (u9000_ : Value) (l0_0 : List Int) (s0_1 : Int) (a1 a2 a3 : Int) (w0 w : World) (hI : IsS72 w0 w g u9000_ s0_1) (hB : Below w0.heap.size w0 w) (ho0_0 : Kd.R (Kd.int .u8) 5 w w0.heap.size P0_0_ u9000_ l0_0) (hf : mem_Memory_Load.form a1 a2 a3) (hin : a1 + a2 + a3 ≤ (l0_0.length : Int)) :
    Calls Try.prog 33 #[.pointer (some ⟨g, 0, none⟩), .int .i64 a1, .int .i64 a2, .int .i64 a3] w fun e w' => ∃ (b : Nat) (c : Nat) (c' : Nat), e = .returned (.tuple #[.slice (some ⟨b, (a1 + a2).toNat, none⟩) (mem_Memory_Load.sub l0_0 a1 a2 a3).length c', .int .i64 0]) ∧ (mem_Memory_Load.sub l0_0 a1 a2 a3).length ≤ c' ∧
      Kd.R (Kd.int .u8) 5 w' w0.heap.size (fun k_ => (P0_0_ k_ ∨ w.heap.size ≤ k_)) (.slice (some ⟨b, 0, none⟩) l0_0.length c) l0_0 ∧ IsS72 w0 w' g (.slice (some ⟨b, 0, none⟩) l0_0.length c) s0_1 ∧ Below w0.heap.size w0 w' ∧ Kept w w' (fun k_ => (P0_0_ k_) ∨ k_ = g) := by
  have hlen : l0_0.length ≤ 9223372036854775807 := by
    obtain ⟨A_, c_, rfl⟩ := Kd.R_slice ho0_0
    exact (Kd.R_reads' ho0_0).2.2.2.1
  obtain ⟨h3, h1, h2⟩ := hf
  have hA1 := mem_Memory_Load.addr_ a1
  have hA2 := mem_Memory_Load.addr_ a2
  rw [decide_eq_true h1] at hA1
  rw [decide_eq_true h2] at hA2
  have hW := mem_Memory_Load.wrap_ h1 h2
  have h30 : 0 < a3 ∧ a3 ≤ 8 := by omega
  have hW2 : wrap64 (a1 + a2 + a3) = a1 + a2 + a3 := by unfold wrap64; omega
  have hT0 := mem_Memory_Load.there_ l0_0 s0_1 (a1 + a2) a3 hlen (by omega) (by omega)
  rw [decide_eq_true hin] at hT0
  have HA1 := Aside0.mk hA1
  have HA2 := Aside0.mk hA2
  have HT := Aside0.mk hT0
  have HI := Aside0.mk hI
  have HB0 := Aside0.mk hB
  have HO := Aside0.mk ho0_0
  have HP := Aside0.mk (show (0 ≤ a1 ∧ 0 ≤ a2) ∧ (0 < a3 ∧ a3 ≤ 8) ∧ a1 + a2 + a3 ≤ (l0_0.length : Int) from ⟨⟨h1.1, h2.1⟩, h30, hin⟩)
  have HCf := Aside0.mk (show ∀ co : Nat, l0_0.length ≤ co → (mem_Memory_Load.sub l0_0 a1 a2 a3).length ≤ co - (a1 + a2).toNat from fun co hco => by
    rw [mem_Memory_Load.sub_len l0_0 a1 a2 _ HP.out.1 HP.out.2.1 HP.out.2.2]; have := HP.out; omega)
  clear hA1 hA2 hT0 hI hB ho0_0 h1 h2 h30 hlen hin
  rcases h3 with rfl | rfl | rfl | rfl
  all_goals
    go_enter Try.func33, Try.ntmps33
    go_wp2_with (first
      | (go_at_call 38; (with_reducible refine (mem_address.calls a1 true _ HA1.out).mono ?_); rintro e w7 ⟨rfl, ⟨n7, rfl⟩⟩)
      | (go_at_call 38; (with_reducible refine (mem_address.calls a2 true _ HA2.out).mono ?_); rintro e w7 ⟨rfl, ⟨n8, rfl⟩⟩)
      | (go_at_call 31
         (with_reducible refine (mem_Memory_there.calls g P0_0_ u9000_ l0_0 s0_1 (a1 + a2) _ true l0_0 s0_1 w0 _ ?sI ?sB ?sO HT.out).mono ?_)
         (case sI => repeat (first | exact HI.out | apply IsS72.drewN))
         (case sB => repeat (first | exact HB0.out | apply pw_below_drewN))
         (case sO => repeat (first | exact HO.out | apply Kd.R_drewN))
         rintro e w10 ⟨v155, rfl, ho0, hi, hb, hkp⟩
         have HK1 := Aside0.mk (show Kept w w10 (fun k_ => (P0_0_ k_) ∨ k_ = g) from hkp)
         have HB1 := Aside0.mk hb
         have HI1 := Aside0.mk hi
         have HO1 := Aside0.mk (show Kd.R (Kd.int .u8) 5 w10 w0.heap.size (fun k_ => (P0_0_ k_ ∨ w.heap.size ≤ k_)) v155 l0_0 from ho0)
         clear hkp hb hi ho0
         obtain ⟨Ao, co, eo, gb4, gl4, cl4, HG4⟩ := Kd.R_form HO1.out (by have := HP.out; omega)
         subst eo
         clear gb4 gl4 HG4
         obtain ⟨HGz, _⟩ := HI1.out
         have hcz0 := cellS72_0 HGz
         have hcz1 := cellS72_1 HGz
         have hfz0 := blk_frozen HGz 0
         have hfz1 := blk_frozen HGz 1
         clear HGz
         obtain ⟨i012, hi012, _, hsz12, _⟩ := info_parts info5
         have hcap := (Kd.R_reads' HO1.out).2.1
         have hcut := cut_mid (P := Try.prog) 23 5 .i64 .i64 Try.underlying23 hi012 1 hsz12 (some ⟨Ao, 0, none⟩) l0_0.length co (a1 + a2) _ (by have := HP.out; omega) (by have := HP.out; omega) HP.out.2.2 hcap
         have hne : ¬ co = (a1 + a2).toNat := by have := HP.out; omega
         rw [if_neg hne] at hcut
         rw [show (Option.map (fun x => x.add ((a1 + a2).toNat * 1)) (some (⟨Ao, 0, none⟩ : Addr))) = some ⟨Ao, (a1 + a2).toNat, none⟩ from by unfold Addr.add; by_cases hl : (a1 + a2).toNat = 0 <;> simp [hl]] at hcut
         have HCAP := Aside0.mk (HCf.out co hcap)
         clear hi012 hsz12 hne hcap))
    go_ret2
    exact ⟨Ao, co, _, by rw [mem_Memory_Load.sub_len l0_0 a1 a2 _ HP.out.1 HP.out.2.1 HP.out.2.2]; rfl, HCAP.out, HO1.out, HI1.out, HB1.out, HK1.out⟩
set_option maxHeartbeats 8000000 in
set_option maxRecDepth 100000 in
theorem mem_Memory_Load.word_fault (g : Nat) (P0_0_ : Nat → Prop) (u9000_ : Value) (l0_0 : List Int) (s0_1 : Int) (a1 a2 a3 : Int) (w0 w : World) (hI : IsS72 w0 w g u9000_ s0_1) (hB : Below w0.heap.size w0 w) (ho0_0 : Kd.R (Kd.int .u8) 5 w w0.heap.size P0_0_ u9000_ l0_0) (hf : mem_Memory_Load.form a1 a2 a3) (hin : ¬ a1 + a2 + a3 ≤ (l0_0.length : Int)) :
    Calls Try.prog 33 #[.pointer (some ⟨g, 0, none⟩), .int .i64 a1, .int .i64 a2, .int .i64 a3] w fun e w' => ∃ v1_ : Value, e = .returned (.tuple #[.slice none 0 0, .int .i64 21]) ∧
      Kd.R (Kd.int .u8) 5 w' w0.heap.size (fun k_ => (P0_0_ k_ ∨ w.heap.size ≤ k_)) v1_ l0_0 ∧ IsS72 w0 w' g v1_ s0_1 ∧ Below w0.heap.size w0 w' ∧ Kept w w' (fun k_ => (P0_0_ k_) ∨ k_ = g) := by
  have hlen : l0_0.length ≤ 9223372036854775807 := by
    obtain ⟨A_, c_, rfl⟩ := Kd.R_slice ho0_0
    exact (Kd.R_reads' ho0_0).2.2.2.1
  obtain ⟨h3, h1, h2⟩ := hf
  have hA1 := mem_Memory_Load.addr_ a1
  have hA2 := mem_Memory_Load.addr_ a2
  rw [decide_eq_true h1] at hA1
  rw [decide_eq_true h2] at hA2
  have hW := mem_Memory_Load.wrap_ h1 h2
  have h30 : 0 < a3 ∧ a3 ≤ 8 := by omega
  have hT0 := mem_Memory_Load.there_ l0_0 s0_1 (a1 + a2) a3 hlen (by omega) (by omega)
  rw [decide_eq_false hin] at hT0
  have HA1 := Aside0.mk hA1
  have HA2 := Aside0.mk hA2
  have HT := Aside0.mk hT0
  have HI := Aside0.mk hI
  have HB0 := Aside0.mk hB
  have HO := Aside0.mk ho0_0
  clear hA1 hA2 hT0 hI hB ho0_0 h1 h2 h30 hlen hin
  rcases h3 with rfl | rfl | rfl | rfl
  all_goals
    go_enter Try.func33, Try.ntmps33
    go_wp2_with (first
      | (go_at_call 38; (with_reducible refine (mem_address.calls a1 true _ HA1.out).mono ?_); rintro e w7 ⟨rfl, ⟨n7, rfl⟩⟩)
      | (go_at_call 38; (with_reducible refine (mem_address.calls a2 true _ HA2.out).mono ?_); rintro e w7 ⟨rfl, ⟨n8, rfl⟩⟩)
      | (go_at_call 31
         (with_reducible refine (mem_Memory_there.calls g P0_0_ u9000_ l0_0 s0_1 (a1 + a2) _ false l0_0 s0_1 w0 _ ?sI ?sB ?sO HT.out).mono ?_)
         (case sI => repeat (first | exact HI.out | apply IsS72.drewN))
         (case sB => repeat (first | exact HB0.out | apply pw_below_drewN))
         (case sO => repeat (first | exact HO.out | apply Kd.R_drewN))
         rintro e w10 ⟨v155, rfl, ho0, hi, hb, hkp⟩
         have HK1 := Aside0.mk (show Kept w w10 (fun k_ => (P0_0_ k_) ∨ k_ = g) from hkp)
         have HB1 := Aside0.mk hb
         have HI1 := Aside0.mk hi
         have HO1 := Aside0.mk (show Kd.R (Kd.int .u8) 5 w10 w0.heap.size (fun k_ => (P0_0_ k_ ∨ w.heap.size ≤ k_)) v155 l0_0 from ho0)
         clear hkp hb hi ho0))
    go_ret2
    exact ⟨_, rfl, HO1.out, HI1.out, HB1.out, HK1.out⟩
theorem mem_Memory_Load.get_nil (k : Nat) (v : Int) (w : World) (h : mem_word_get.f k [] = some v) :
    Calls Try.prog 34 #[.slice none 0 0] w fun e w' => e = .returned (.int .u64 v) ∧ Drawn0 w w' :=
  mem_word_get.calls k none 0 [] v w ⟨rfl, by simp, fun h => absurd h (by simp)⟩ (Nat.le_refl _) h
set_option maxHeartbeats 8000000 in
set_option maxRecDepth 100000 in
theorem mem_Memory_Load.calls (k : Nat) (g : Nat) (P0_0_ : Nat → Prop) (u9000_ : Value) (l0_0 : List Int) (s0_1 : Int) (a1 : Int) (a2 : Int) (a3 : Int) (r1 : Int) (r2 : Int) (r3 : List Int) (r4 : Int) (w0 w : World) (hI : IsS72 w0 w g u9000_ s0_1) (hB : Below w0.heap.size w0 w) (ho0_0 : Kd.R (Kd.int .u8) 5 w w0.heap.size P0_0_ u9000_ l0_0) (h : mem_Memory_Load.f k l0_0 s0_1 a1 a2 a3 = some (r1, r2, r3, r4)) :
    Calls Try.prog 27 #[.pointer (some ⟨g, 0, none⟩), .int .i64 a1, .int .i64 a2, .int .i64 a3] w fun e w' => ∃ v2_ : Value, e = .returned (.tuple #[.int .u64 r1, .int .i64 r2]) ∧ Kd.R (Kd.int .u8) 5 w' w0.heap.size (fun k_ => (P0_0_ k_ ∨ w.heap.size ≤ k_)) v2_ r3 ∧ IsS72 w0 w' g v2_ r4 ∧ Below w0.heap.size w0 w' ∧ Kept w w' (fun k_ => (P0_0_ k_) ∨ k_ = g) := by
  unfold mem_Memory_Load.f at h
  by_cases hf : mem_Memory_Load.form a1 a2 a3
  · rw [if_pos hf] at h
    by_cases hin : a1 + a2 + a3 ≤ (l0_0.length : Int)
    · rw [if_pos hin] at h
      obtain ⟨v, hv, h⟩ := Option.bind_eq_some_iff.mp h
      simp only [Option.some.injEq, Prod.mk.injEq] at h
      obtain ⟨rfl, rfl, rfl, rfl⟩ := h
      have HV := Aside0.mk hv
      have HI := Aside0.mk hI
      have HB0 := Aside0.mk hB
      have HO := Aside0.mk ho0_0
      have HF := Aside0.mk hf
      have HN := Aside0.mk hin
      have HP := Aside0.mk (show (0 ≤ a1 ∧ 0 ≤ a2) ∧ (0 < a3 ∧ a3 ≤ 8) ∧ a1 + a2 + a3 ≤ (l0_0.length : Int) from ⟨⟨hf.2.1.1, hf.2.2.1⟩, by have := hf.1; omega, hin⟩)
      clear hv hI hB ho0_0 hf hin
      go_enter Try.func27, Try.ntmps27
      go_wp2_with (first
        | ((with_reducible refine gate_callee (f := 33) rfl ?_); refine goesL_ (some 18) rfl rfl Try.func33 (by kernel_rfl) rfl #[.pointer (some ⟨g, 0, none⟩), .int .i64 a1, .int .i64 a2, .int .i64 a3] rfl (by (try simp only [List.map_toArray, List.map_cons, List.map_nil]); first | done | rfl) ?_
           (with_reducible refine (mem_Memory_Load.word_there g P0_0_ u9000_ l0_0 s0_1 a1 a2 a3 w0 _ HI.out HB0.out HO.out HF.out HN.out).mono ?_)
           rintro e w10 ⟨b, c, c', rfl, hc', ho0, hi, hb, hkp⟩
           refine ⟨_, rfl, ?_⟩
           have HK1 := Aside0.mk hkp
           have HB1 := Aside0.mk hb
           have HI1 := Aside0.mk hi
           have HO1 := Aside0.mk ho0
           have HC1 := Aside0.mk hc'
           have hCm := Kd.C_mid (lo := (a1 + a2).toNat) (hi := (a1 + a2 + a3).toNat) (Kd.R_reads' ho0).2.2 (by have := HP.out; omega) (by have := HP.out; omega) (Kd.R_reads' ho0).2.1
           rw [if_neg (by have := HP.out; have := (Kd.R_reads' ho0).2.1; omega : ¬ c = (a1 + a2).toNat)] at hCm
           rw [show (Option.map (fun x => x.add ((a1 + a2).toNat * (Kd.int .u8).sz)) (some (⟨b, 0, none⟩ : Addr))) = some ⟨b, (a1 + a2).toNat, none⟩ from by
             show (some ((⟨b, 0, none⟩ : Addr).add ((a1 + a2).toNat * 1))) = _
             unfold Addr.add; by_cases hl : (a1 + a2).toNat = 0 <;> simp [hl]] at hCm
           have HCM := Aside0.mk (show Kd.C (Kd.int .u8) w10 (some ⟨b, (a1 + a2).toNat, none⟩) (mem_Memory_Load.sub l0_0 a1 a2 a3).length (mem_Memory_Load.sub l0_0 a1 a2 a3) from hCm)
           clear hkp hb hi ho0 hc' hCm)
        | (go_at_call 34; (with_reducible refine (mem_word_get.calls k _ _ _ _ _ HCM.out HC1.out HV.out).mono ?_); rintro e w7 ⟨rfl, ⟨n7, rfl⟩⟩))
      go_ret2
      exact ⟨_, rfl, Kd.R_drewN HO1.out _, IsS72.drewN HI1.out _, pw_below_drewN HB1.out _, Kept.drewN HK1.out _⟩
    · rw [if_neg hin] at h
      obtain ⟨v, hv, h⟩ := Option.bind_eq_some_iff.mp h
      simp only [Option.some.injEq, Prod.mk.injEq] at h
      obtain ⟨rfl, rfl, rfl, rfl⟩ := h
      have HV := Aside0.mk hv
      have HI := Aside0.mk hI
      have HB0 := Aside0.mk hB
      have HO := Aside0.mk ho0_0
      have HF := Aside0.mk hf
      have HN := Aside0.mk hin
      clear hv hI hB ho0_0 hf hin
      go_enter Try.func27, Try.ntmps27
      go_wp2_with (first
        | ((with_reducible refine gate_callee (f := 33) rfl ?_); refine goesL_ (some 18) rfl rfl Try.func33 (by kernel_rfl) rfl #[.pointer (some ⟨g, 0, none⟩), .int .i64 a1, .int .i64 a2, .int .i64 a3] rfl (by (try simp only [List.map_toArray, List.map_cons, List.map_nil]); first | done | rfl) ?_
           (with_reducible refine (mem_Memory_Load.word_fault g P0_0_ u9000_ l0_0 s0_1 a1 a2 a3 w0 _ HI.out HB0.out HO.out HF.out HN.out).mono ?_)
           rintro e w10 ⟨v1_, rfl, ho0, hi, hb, hkp⟩
           refine ⟨_, rfl, ?_⟩
           have HK1 := Aside0.mk hkp
           have HB1 := Aside0.mk hb
           have HI1 := Aside0.mk hi
           have HO1 := Aside0.mk ho0
           clear hkp hb hi ho0)
        | (go_at_call 34; (with_reducible refine (mem_Memory_Load.get_nil k _ _ HV.out).mono ?_); rintro e w7 ⟨rfl, ⟨n7, rfl⟩⟩))
      go_ret2
      exact ⟨_, rfl, Kd.R_drewN HO1.out _, IsS72.drewN HI1.out _, pw_below_drewN HB1.out _, Kept.drewN HK1.out _⟩
  · rw [if_neg hf] at h
    obtain ⟨v, hv, h⟩ := Option.bind_eq_some_iff.mp h
    simp only [Option.some.injEq, Prod.mk.injEq] at h
    obtain ⟨rfl, rfl, rfl, rfl⟩ := h
    have HV := Aside0.mk hv
    have HI := Aside0.mk hI
    have HB0 := Aside0.mk hB
    have HO := Aside0.mk ho0_0
    have HF := Aside0.mk hf
    clear hv hI hB ho0_0 hf
    go_enter Try.func27, Try.ntmps27
    go_wp2_with (first
      | ((with_reducible refine gate_callee (f := 33) rfl ?_); refine goesL_ (some 18) rfl rfl Try.func33 (by kernel_rfl) rfl #[.pointer (some ⟨g, 0, none⟩), .int .i64 a1, .int .i64 a2, .int .i64 a3] rfl (by (try simp only [List.map_toArray, List.map_cons, List.map_nil]); first | done | rfl) ?_
         (with_reducible refine (mem_Memory_Load.word_form a1 a2 a3 _ _ HF.out).mono ?_)
         rintro e w10 ⟨rfl, ⟨n6, rfl⟩⟩
         refine ⟨_, rfl, ?_⟩)
      | (go_at_call 34; (with_reducible refine (mem_Memory_Load.get_nil k _ _ HV.out).mono ?_); rintro e w7 ⟨rfl, ⟨n7, rfl⟩⟩))
    go_ret2
    exact ⟨_, rfl, Kd.R_mono (Kd.R_drewN HO.out _) (fun _ hk => .inl hk), IsS72.drewN HI.out _, pw_below_drewN HB0.out _, Kept.drewN (Kept.refl _ _) _⟩



/-! ### iov_Pieces_1: function 26 (by hand) -/
def iov_Pieces_1.f (k : Nat) (a0 : Int) (l1_0 : List Int) (s1_1 : Int) : Option (Int × List Int × Int) :=
  (mem_Memory_Load.f k l1_0 s1_1 a0 0 4).bind fun b => some (wrap64 b.1, b.2.2.1, b.2.2.2)
theorem iov_Pieces_1.mono : ∀ a0 a1 a2 k, LeO (iov_Pieces_1.f k a0 a1 a2) (iov_Pieces_1.f (k + 1) a0 a1 a2) := by
  intro a0 a1 a2 k
  unfold iov_Pieces_1.f
  exact LeO.bind (mem_Memory_Load.mono _ _ _ _ _ _) (fun _ => LeO.refl _)
set_option maxHeartbeats 8000000 in
set_option maxRecDepth 100000 in
theorem iov_Pieces_1.calls (k : Nat) (a0 : Int) (gb : Nat) (g : Nat) (P1_0_ : Nat → Prop) (u9000_ : Value) (l1_0 : List Int) (s1_1 : Int) (r1 : Int) (r2 : List Int) (r3 : Int) (w0 w : World) (hI : IsS72 w0 w g u9000_ s1_1) (hB : Below w0.heap.size w0 w) (ho1_0 : Kd.R (Kd.int .u8) 5 w w0.heap.size P1_0_ u9000_ l1_0) (hbox : w.heap[gb]? = some (.cells #[.pointer (some ⟨g, 0, none⟩)] 28 (0, 0))) (h : iov_Pieces_1.f k a0 l1_0 s1_1 = some (r1, r2, r3)) :
    Calls Try.prog 26 #[.int .i64 a0, .pointer (some ⟨gb, 0, none⟩)] w fun e w' => ∃ v1_ : Value, e = .returned (.int .i64 r1) ∧ Kd.R (Kd.int .u8) 5 w' w0.heap.size (fun k_ => (P1_0_ k_ ∨ w.heap.size ≤ k_)) v1_ r2 ∧ IsS72 w0 w' g v1_ r3 ∧ Below w0.heap.size w0 w' ∧ Kept w w' (fun k_ => (P1_0_ k_) ∨ k_ = g) := by
  unfold iov_Pieces_1.f at h
  obtain ⟨⟨v, e, l, s⟩, hl, h⟩ := Option.bind_eq_some_iff.1 h
  simp only [Option.some.injEq, Prod.mk.injEq] at h
  obtain ⟨rfl, rfl, rfl⟩ := h
  have HL := Aside0.mk hl
  have HI := Aside0.mk hI
  have HB := Aside0.mk hB
  have HO := Aside0.mk ho1_0
  have hcm : w.cell? ⟨gb, 0, none⟩ = some (.pointer (some ⟨g, 0, none⟩)) := (blk_cell hbox 0).trans rfl
  clear hl hI hB ho1_0 hbox
  go_enter Try.func26, Try.ntmps26
  go_wp2_with (first
    | ((with_reducible refine gate_callee (f := 27) rfl ?_); refine goesL_ (some 9) rfl rfl Try.func27 (by kernel_rfl) rfl #[.pointer (some ⟨g, 0, none⟩), .int .i64 a0, .int .i64 0, .int .i64 4] rfl (by (try simp only [List.map_toArray, List.map_cons, List.map_nil]); first | done | rfl) ?_
       (with_reducible refine (mem_Memory_Load.calls k g P1_0_ u9000_ l1_0 s1_1 a0 0 4 v e l s w0 _ HI.out HB.out HO.out HL.out).mono ?_)
       rintro e w1 ⟨v2, rfl, ho0, hi, hb, hkp⟩
       refine ⟨_, rfl, ?_⟩
       have HO1 := Aside0.mk ho0
       have HI1 := Aside0.mk hi
       have HB1 := Aside0.mk hb
       have HK1 := Aside0.mk hkp
       clear ho0 hi hb hkp))
  go_ret
  exact ⟨v2, by first | rfl | (simp only [i64_w]), HO1.out, HI1.out, HB1.out, HK1.out⟩


-- NOT PRINTED: function 39 (api_Piece_39)

-- NOT PRINTED: function 35 (api_Piece_35)


/-! ### iov_all: function 28 (by hand) -/
/-- Does a piece lie within so many bytes? -/
def iov_all.q (n : Nat) (x : S50) : Bool := decide (0 ≤ x.f0 ∧ 0 ≤ x.f1 ∧ x.f0 + x.f1 ≤ (n : Int))
def iov_all.f (l0_0 : List Int) (s0_1 : Int) (l1 : List (S50)) : Option (Int × List Int × Int) :=
  some (if l1.all (iov_all.q l0_0.length) = true then 0 else 21, l0_0, s0_1)
/-- What only reads the memory's length. -/
theorem iov_all.there_ro (g : Nat) (A : Option Addr) (c L : Nat) (s a n : Int) (w : World) (hb : w.heap[g]? = some (.cells #[.slice A L c, .int .i64 s] 72 (0, 0))) (hL : L ≤ 9223372036854775807) (r : Bool) (hr : r = decide (0 ≤ a ∧ 0 ≤ n ∧ a + n ≤ (L : Int))) :
    Calls Try.prog 31 #[.pointer (some ⟨g, 0, none⟩), .int .i64 a, .int .i64 n] w fun e w' => e = .returned (.bool r) ∧ Drawn0 w w' := by
  subst hr
  have hcz0 : w.cell? ⟨g, 0, none⟩ = some (.slice A L c) := (blk_cell hb 0).trans rfl
  have hcz1 : w.cell? ⟨g, 1, none⟩ = some (.int .i64 s) := (blk_cell hb 1).trans rfl
  by_cases c1 : a ≥ 0
  · have c1b0 : decide (0 ≤ a) = true := decide_eq_true c1
    by_cases c2 : n ≥ 0
    · have c2b0 : decide (0 ≤ n) = true := decide_eq_true c2
      by_cases c3 : a ≤ (L : Int)
      · have c3b0 : decide (a ≤ (L : Int)) = true := decide_eq_true c3
        have hw : wrap64 ((L : Int) - a) = (L : Int) - a := by unfold wrap64; omega
        have hd : decide (0 ≤ a ∧ 0 ≤ n ∧ a + n ≤ (L : Int)) = decide (n ≤ wrap64 ((L : Int) - a)) := by
          rw [hw]
          simp only [decide_eq_decide]
          omega
        rw [hd]
        clear hd hw c1 c2 c3
        go_enter Try.func31, Try.ntmps31
        go_wp2
        go_ret
        exact ⟨rfl, by repeat (first | exact Drawn0.refl _ | apply Drawn0.step)⟩
      · have c3b0 : decide (a ≤ (L : Int)) = false := decide_eq_false c3
        have hd : decide (0 ≤ a ∧ 0 ≤ n ∧ a + n ≤ (L : Int)) = false := decide_eq_false (by omega)
        rw [hd]
        clear hd c1 c2 c3
        go_enter Try.func31, Try.ntmps31
        go_wp2
        go_ret
        exact ⟨rfl, by repeat (first | exact Drawn0.refl _ | apply Drawn0.step)⟩
    · have c2b0 : decide (0 ≤ n) = false := decide_eq_false c2
      have hd : decide (0 ≤ a ∧ 0 ≤ n ∧ a + n ≤ (L : Int)) = false := decide_eq_false (by omega)
      rw [hd]
      clear hd c1 c2
      go_enter Try.func31, Try.ntmps31
      go_wp2
      go_ret
      exact ⟨rfl, by repeat (first | exact Drawn0.refl _ | apply Drawn0.step)⟩
  · have c1b0 : decide (0 ≤ a) = false := decide_eq_false c1
    have hd : decide (0 ≤ a ∧ 0 ≤ n ∧ a + n ≤ (L : Int)) = false := decide_eq_false (by omega)
    rw [hd]
    clear hd c1
    go_enter Try.func31, Try.ntmps31
    go_wp2
    go_ret
    exact ⟨rfl, by repeat (first | exact Drawn0.refl _ | apply Drawn0.step)⟩
theorem iov_all.has_ro (g : Nat) (A : Option Addr) (c L : Nat) (s a n : Int) (w : World) (hb : w.heap[g]? = some (.cells #[.slice A L c, .int .i64 s] 72 (0, 0))) (hL : L ≤ 9223372036854775807) (r : Bool) (hr : r = decide (0 ≤ a ∧ 0 ≤ n ∧ a + n ≤ (L : Int))) :
    Calls Try.prog 25 #[.pointer (some ⟨g, 0, none⟩), .int .i64 a, .int .i64 n] w fun e w' => e = .returned (.bool r) ∧ Drawn0 w w' := by
  have HR := Aside0.mk hr
  clear hr
  go_enter Try.func25, Try.ntmps25
  go_wp2_with (first | (go_at_call 31; (refine (iov_all.there_ro g A c L s a n _ (by with_reducible first | exact hb | exact blk_drew hb | exact blk_drewN hb _) hL r HR.out).mono ?_); rintro e w' ⟨rfl, ⟨nd, rfl⟩⟩))
  go_ret
  exact ⟨rfl, ⟨_, rfl⟩⟩
theorem iov_all.lies_ro (g : Nat) (A : Option Addr) (c L : Nat) (s a n : Int) (w : World) (hb : w.heap[g]? = some (.cells #[.slice A L c, .int .i64 s] 72 (0, 0))) (hL : L ≤ 9223372036854775807) (r : Bool) (hr : r = decide (0 ≤ a ∧ 0 ≤ n ∧ a + n ≤ (L : Int))) :
    Calls Try.prog 37 #[.pointer (some ⟨g, 0, none⟩), .agg #[.int .i64 a, .int .i64 n]] w fun e w' => e = .returned (.bool r) ∧ Below w.heap.size w w' := by
  have hu := Try.underlying50
  have HR := Aside0.mk hr
  clear hr
  go_enter Try.func37, Try.ntmps37
  go_wp2_with (first
    | ((with_reducible refine gate_dst (N := 3) rfl ?_); refine box_event ?hg (N := 3) ?hd (cs := #[.int .i64 a, .int .i64 n]) (t := 50) ?hr ?_; (case hd => rfl); (case hg => rfl); (case hr => first | (go_simp; done) | (go_simp; rfl)); intro gb hgb w1 hbox hb1; clear hgb; have hcz0 : w1.cell? ⟨gb, 0, none⟩ = some (.int .i64 a) := (blk_cell hbox 0).trans rfl; have hcz1 : w1.cell? ⟨gb, 1, none⟩ = some (.int .i64 n) := (blk_cell hbox 1).trans rfl; have hf0 := blk_frozen hbox 0; have hf1 := blk_frozen hbox 1; have hbl := blk_below hb hb1)
    | (go_at_call 25; (refine (iov_all.has_ro g A c L s a n _ (by with_reducible first | exact hbl | exact blk_drew hbl | exact blk_drewN hbl _) hL r HR.out).mono ?_); rintro e w' ⟨rfl, ⟨nd, rfl⟩⟩))
  go_ret
  exact ⟨rfl, by repeat (first | exact hb1 | apply pw_below_drewN | apply below_drew1 | apply below_alloc)⟩
theorem iov_all.clo_ro (g gb : Nat) (A : Option Addr) (c L : Nat) (s a n : Int) (w : World) (hb : w.heap[g]? = some (.cells #[.slice A L c, .int .i64 s] 72 (0, 0))) (hL : L ≤ 9223372036854775807) (r : Bool) (hr : r = decide (0 ≤ a ∧ 0 ≤ n ∧ a + n ≤ (L : Int))) (hm : w.heap[gb]? = some (.cells #[.pointer (some ⟨g, 0, none⟩)] 28 (0, 0))) :
    Calls Try.prog 36 #[.agg #[.int .i64 a, .int .i64 n], .pointer (some ⟨gb, 0, none⟩)] w fun e w' => e = .returned (.bool (!r)) ∧ Below w.heap.size w w' := by
  have hu := Try.underlying50
  have HR := Aside0.mk hr
  clear hr
  go_enter Try.func36, Try.ntmps36
  go_wp2_with (first
    | ((with_reducible refine gate_dst (N := 2) rfl ?_); refine box_event ?hg (N := 2) ?hd (cs := #[.int .i64 a, .int .i64 n]) (t := 50) ?hr ?_; (case hd => rfl); (case hg => rfl); (case hr => first | (go_simp; done) | (go_simp; rfl)); intro gp hgp w1 hbox hb1; clear hgp; have hcz0 : w1.cell? ⟨gp, 0, none⟩ = some (.int .i64 a) := (blk_cell hbox 0).trans rfl; have hcz1 : w1.cell? ⟨gp, 1, none⟩ = some (.int .i64 n) := (blk_cell hbox 1).trans rfl; have hf0 := blk_frozen hbox 0; have hf1 := blk_frozen hbox 1; have hbl := blk_below hb hb1; have hml := blk_below hm hb1; have hcm : w1.cell? ⟨gb, 0, none⟩ = some (.pointer (some ⟨g, 0, none⟩)) := (blk_cell hml 0).trans rfl; have hfm := blk_frozen hml 0)
    | (go_at_call 37; (refine (iov_all.lies_ro g A c L s a n _ (by with_reducible first | exact hbl | exact blk_drew hbl | exact blk_drewN hbl _) hL r HR.out).mono ?_); rintro e w2 ⟨rfl, hb2⟩))
  go_ret
  exact ⟨rfl, by repeat (first | exact below_step hb1 hb2 | apply pw_below_drewN | apply below_drew1 | apply below_alloc)⟩
/-- The first piece of which q does not hold. -/
theorem iov_all.index_ro (q : S50 → Bool) (F : Nat) (fn : Func) (hfn : Try.prog.funcs[F]? = some fn) (hname : (fn.name == "runtime.NumGoroutine") = false) (hbody : fn.body.isSome = true) (cap : Value) (A : Option Addr) (c : Nat) (l : List (S50)) (w : World) (hr0 : Kd.C k50 w A l.length l) (hc : l.length ≤ c)
    (hcall : ∀ (W_ : World) (x : S50), Below w.heap.size w W_ → Calls Try.prog F #[.agg #[.int .i64 x.f0, .int .i64 x.f1], cap] W_ fun e w' => e = .returned (.bool (!q x)) ∧ Below W_.heap.size W_ w') :
    Calls Try.prog 39 #[.slice A l.length c, .func (.func F) #[] #[cap]] w fun e w' => ∃ r : Int, e = .returned (.int .i64 r) ∧ (decide (r ≥ 0) = !l.all q) ∧ Below w.heap.size w w' := by
  have hu := Try.underlying50
  have HR := Aside0.mk hr0
  have HC := Aside0.mk hcall
  clear hr0 hcall
  have hlen : l.length ≤ 9223372036854775807 := HR.out.2.1
  go_enter Try.func39, Try.ntmps39
  go_wp2
  go_loopg [8] l.length (fun kq v8 w' => ∃ i : Nat, v8 = .int .i64 (i : Int) ∧ Aside0 (kq + i = l.length) ∧ Aside0 ((l.take i).all q = true) ∧ Aside0 (Below w.heap.size w w'))
  case atStart => exact ⟨0, by simp, ⟨by omega⟩, ⟨rfl⟩, ⟨by repeat (first | exact Below.refl _ _ | apply pw_below_drewN | apply below_drew1 | apply below_alloc)⟩⟩
  case round =>
    obtain ⟨i, rfl, HI, HQ, HB⟩ := hrel
    by_cases hi : i < l.length
    · have c0 : decide ((i : Int) < (l.length : Int)) = true := decide_eq_true (by omega)
      have p1 : 0 ≤ (i : Int) := by omega
      have q1 : (i : Int) < (l.length : Int) := by omega
      obtain ⟨ad, e1, hx0, hx1⟩ := at_T50 HR.out (i : Int) p1 q1
      cases e1
      replace hx0 := (HB.out.cell (World.block_lt_of_cell? w _ hx0)).trans hx0
      replace hx1 := (HB.out.cell (World.block_lt_of_cell? w _ hx1)).trans hx1
      simp only [Int.toNat_natCast] at hx0 hx1
      replace p1 := eq_true p1
      replace q1 := eq_true q1
      have hget : rd_T50 l (i : Int) = l[i] := by
        unfold rd_T50
        rw [Int.toNat_natCast, List.getD_eq_getElem?_getD, List.getElem?_eq_getElem hi]
        rfl
      have HG := Aside0.mk hget
      clear hget
      by_cases hq : q (rd_T50 l (i : Int)) = true
      · have hq2 : (!q (rd_T50 l (i : Int))) = false := by rw [hq]; rfl
        go_wp2_with (first
          | ((with_reducible refine Go.Proofs.YtdoaininjfbemaaO.gate_value (F := .tmp 11) rfl ?_); refine Go.Proofs.YtdoaininjfbemaaO.goesM_ (some 16) rfl rfl hfn hname hbody #[.agg #[.int .i64 (rd_T50 l (i : Int)).f0, .int .i64 (rd_T50 l (i : Int)).f1], cap] rfl rfl (by (try simp only [List.map_toArray, List.map_cons, List.map_nil]); first | done | rfl | (simp; done)) ?_; (refine (HC.out _ (rd_T50 l (i : Int)) (by repeat (first | exact HB.out | apply pw_below_drewN | apply below_drew1 | apply below_alloc))).mono ?_); rintro e w2 ⟨rfl, hb2⟩; rw [hq2]; refine ⟨_, rfl, ?_⟩; have HB2 := Aside0.mk (below_step (by repeat (first | exact HB.out | apply pw_below_drewN | apply below_drew1 | apply below_alloc)) hb2); clear hb2))
        go_roundg (l.length - (i + 1))
        case measure => have := HI.out; omega
        case rel =>
          refine ⟨i + 1, ?_, ⟨by omega⟩, ⟨?_⟩, ⟨by repeat (first | exact HB2.out | apply pw_below_drewN | apply below_drew1 | apply below_alloc)⟩⟩
          · have : wrap64 ((i : Int) + 1) = ((i + 1 : Nat) : Int) := by unfold wrap64; omega
            first | rw [this] | exact congrArg (Value.int .i64) (by omega) | (simp only [i64_w]; rw [this])
          · rw [List.take_succ_eq_append_getElem hi, List.all_append, HQ.out, ← HG.out]
            simp [hq]
      · replace hq := Bool.eq_false_iff.mpr hq
        have hq2 : (!q (rd_T50 l (i : Int))) = true := by rw [hq]; rfl
        go_wp2_with (first
          | ((with_reducible refine Go.Proofs.YtdoaininjfbemaaO.gate_value (F := .tmp 11) rfl ?_); refine Go.Proofs.YtdoaininjfbemaaO.goesM_ (some 16) rfl rfl hfn hname hbody #[.agg #[.int .i64 (rd_T50 l (i : Int)).f0, .int .i64 (rd_T50 l (i : Int)).f1], cap] rfl rfl (by (try simp only [List.map_toArray, List.map_cons, List.map_nil]); first | done | rfl | (simp; done)) ?_; (refine (HC.out _ (rd_T50 l (i : Int)) (by repeat (first | exact HB.out | apply pw_below_drewN | apply below_drew1 | apply below_alloc))).mono ?_); rintro e w2 ⟨rfl, hb2⟩; rw [hq2]; refine ⟨_, rfl, ?_⟩; have HB2 := Aside0.mk (below_step (by repeat (first | exact HB.out | apply pw_below_drewN | apply below_drew1 | apply below_alloc)) hb2); clear hb2))
        go_ret
        refine ⟨_, rfl, ?_, by repeat (first | exact HB2.out | apply pw_below_drewN | apply below_drew1 | apply below_alloc)⟩
        have hall : l.all q = false := by
          rw [List.all_eq_false]
          exact ⟨l[i], List.getElem_mem hi, by rw [← HG.out, hq]; exact Bool.false_ne_true⟩
        rw [hall]
        exact decide_eq_true (by omega)
    · have c0 : decide ((i : Int) < (l.length : Int)) = false := decide_eq_false (by omega)
      go_wp2
      go_ret
      refine ⟨_, rfl, ?_, by repeat (first | exact HB.out | apply pw_below_drewN | apply below_drew1 | apply below_alloc)⟩
      have hall : l.all q = true := by
        have := HQ.out
        rwa [List.take_of_length_le (by omega)] at this
      rw [hall]
      rfl
theorem iov_all.contains_ro (q : S50 → Bool) (F : Nat) (fn : Func) (hfn : Try.prog.funcs[F]? = some fn) (hname : (fn.name == "runtime.NumGoroutine") = false) (hbody : fn.body.isSome = true) (cap : Value) (A : Option Addr) (c : Nat) (l : List (S50)) (w : World) (hr0 : Kd.C k50 w A l.length l) (hc : l.length ≤ c)
    (hcall : ∀ (W_ : World) (x : S50), Below w.heap.size w W_ → Calls Try.prog F #[.agg #[.int .i64 x.f0, .int .i64 x.f1], cap] W_ fun e w' => e = .returned (.bool (!q x)) ∧ Below W_.heap.size W_ w') :
    Calls Try.prog 35 #[.slice A l.length c, .func (.func F) #[] #[cap]] w fun e w' => e = .returned (.bool (!l.all q)) ∧ Below w.heap.size w w' := by
  go_enter Try.func35, Try.ntmps35
  go_wp2_with (first
    | (go_at_call 39; (refine (iov_all.index_ro q F fn hfn hname hbody cap A c l _ (by first | exact hr0 | exact Kd.C_drewN hr0 _ | exact Kd.C_drew hr0) hc ?side).mono ?_); (case side => exact fun W_ x hb => hcall W_ x (by first | exact hb | exact below_step (by repeat (first | exact Below.refl _ _ | apply pw_below_drewN | apply below_drew1)) hb)); rintro e w1 ⟨r, rfl, hr, hb1⟩))
  go_ret
  exact ⟨by rw [← hr]; rfl, by repeat (first | exact hb1 | apply pw_below_drewN | apply below_drew1 | apply below_alloc)⟩
set_option maxHeartbeats 8000000 in
set_option maxRecDepth 100000 in
theorem iov_all.calls (g : Nat) (P0_0_ : Nat → Prop) (u9000_ : Value) (l0_0 : List Int) (s0_1 : Int) (A1 : Option Addr) (c1 : Nat) (l1 : List (S50)) (r1 : Int) (r2 : List Int) (r3 : Int) (w0 w : World) (hI : IsS72 w0 w g u9000_ s0_1) (hB : Below w0.heap.size w0 w) (ho0_0 : Kd.R (Kd.int .u8) 5 w w0.heap.size P0_0_ u9000_ l0_0) (hr1 : ∀ W_, Kept w W_ (fun k_ => (P0_0_ k_) ∨ k_ = g) → Kd.C k50 W_ A1 l1.length l1) (hc1 : l1.length ≤ c1) (h : iov_all.f l0_0 s0_1 l1 = some (r1, r2, r3)) :
    Calls Try.prog 28 #[.pointer (some ⟨g, 0, none⟩), .slice A1 l1.length c1] w fun e w' => ∃ v1_ : Value, e = .returned (.int .i64 r1) ∧ Kd.R (Kd.int .u8) 5 w' w0.heap.size (fun k_ => (P0_0_ k_ ∨ w.heap.size ≤ k_)) v1_ r2 ∧ IsS72 w0 w' g v1_ r3 ∧ Below w0.heap.size w0 w' ∧ Kept w w' (fun k_ => (P0_0_ k_) ∨ k_ = g) := by
  unfold iov_all.f at h
  simp only [Option.some.injEq, Prod.mk.injEq] at h
  obtain ⟨hr, rfl, rfl⟩ := h
  have hmf : ∀ (fn : Fn) (first cap : Array Value) (w : World), (Instr.makeFunc fn first cap).run Try.prog w = .ok (.func fn first cap) w := fun _ _ _ _ => rfl
  obtain ⟨Ab, cb, eb⟩ := Kd.R_slice ho0_0
  have hlen : l0_0.length ≤ 9223372036854775807 := by
    obtain ⟨A_, c_, rfl⟩ := Kd.R_slice ho0_0
    exact (Kd.R_reads' ho0_0).2.2.2.1
  have hblk := hI.1
  rw [eb] at hblk
  have hrd := hr1 w (Kept.refl w _)
  have fin : ∀ w' : World, Below w.heap.size w w' → Kd.R (Kd.int .u8) 5 w' w0.heap.size (fun k_ => (P0_0_ k_ ∨ w.heap.size ≤ k_)) u9000_ l0_0 ∧ IsS72 w0 w' g u9000_ s0_1 ∧ Below w0.heap.size w0 w' ∧ Kept w w' (fun k_ => (P0_0_ k_) ∨ k_ = g) :=
    fun w' hb => ⟨Kd.R_mono (Kd.R_below ho0_0 hb) (fun k_ hk => .inl hk), IsS72.below hI hb, below_step hB hb, Kept.below (S := fun k_ => (P0_0_ k_) ∨ k_ = g) (Kept.refl w _) hb⟩
  have HF := Aside0.mk fin
  clear fin hI hB ho0_0 hr1
  have HBL := Aside0.mk hblk
  have HRD := Aside0.mk hrd
  clear hblk hrd eb
  by_cases ha : l1.all (iov_all.q l0_0.length) = true
  · rw [if_pos ha] at hr
    subst hr
    have hn : (!l1.all (iov_all.q l0_0.length)) = false := by rw [ha]; rfl
    go_enter Try.func28, Try.ntmps28
    go_wp2_with (first
      | ((with_reducible refine gate_dst (N := 2) rfl ?_); refine box_event ?hg (N := 2) ?hd (cs := #[.pointer (some ⟨g, 0, none⟩)]) (t := 28) ?hr ?_; (case hd => rfl); (case hg => rfl); (case hr => first | (go_simp; done) | (go_simp; rfl)); intro gb hgb w1 hbox hb1; clear hgb; have hcz0 : w1.cell? ⟨gb, 0, none⟩ = some (.pointer (some ⟨g, 0, none⟩)) := (blk_cell hbox 0).trans rfl; have hf0 := blk_frozen hbox 0)
      | (go_at_call 35; (refine (iov_all.contains_ro (iov_all.q l0_0.length) 36 _ Try.func36 (by kernel_rfl) rfl (.pointer (some ⟨gb, 0, none⟩)) A1 c1 l1 _ ?s1 hc1 ?s2).mono ?_); (case s1 => repeat (first | exact Kd.C_below HRD.out hb1 | (with_reducible refine Kd.C_alloc ?_ _) | (with_reducible refine Kd.C_drewN ?_ _) | (with_reducible refine Kd.C_drew ?_))); (case s2 => exact fun W_ x hb => iov_all.clo_ro g gb Ab cb l0_0.length s0_1 x.f0 x.f1 W_ (blk_below (blk_below HBL.out hb1) hb) hlen _ rfl (blk_below hbox hb)); rintro e w2 ⟨rfl, hb2⟩; rw [hn]))
    go_ret
    exact ⟨u9000_, rfl, HF.out _ (by repeat (first | exact below_step hb1 hb2 | apply pw_below_drewN | apply below_drew1 | apply below_alloc))⟩
  · rw [if_neg ha] at hr
    subst hr
    have hn : (!l1.all (iov_all.q l0_0.length)) = true := by rw [Bool.eq_false_iff.mpr ha]; rfl
    go_enter Try.func28, Try.ntmps28
    go_wp2_with (first
      | ((with_reducible refine gate_dst (N := 2) rfl ?_); refine box_event ?hg (N := 2) ?hd (cs := #[.pointer (some ⟨g, 0, none⟩)]) (t := 28) ?hr ?_; (case hd => rfl); (case hg => rfl); (case hr => first | (go_simp; done) | (go_simp; rfl)); intro gb hgb w1 hbox hb1; clear hgb; have hcz0 : w1.cell? ⟨gb, 0, none⟩ = some (.pointer (some ⟨g, 0, none⟩)) := (blk_cell hbox 0).trans rfl; have hf0 := blk_frozen hbox 0)
      | (go_at_call 35; (refine (iov_all.contains_ro (iov_all.q l0_0.length) 36 _ Try.func36 (by kernel_rfl) rfl (.pointer (some ⟨gb, 0, none⟩)) A1 c1 l1 _ ?s1 hc1 ?s2).mono ?_); (case s1 => repeat (first | exact Kd.C_below HRD.out hb1 | (with_reducible refine Kd.C_alloc ?_ _) | (with_reducible refine Kd.C_drewN ?_ _) | (with_reducible refine Kd.C_drew ?_))); (case s2 => exact fun W_ x hb => iov_all.clo_ro g gb Ab cb l0_0.length s0_1 x.f0 x.f1 W_ (blk_below (blk_below HBL.out hb1) hb) hlen _ rfl (blk_below hbox hb)); rintro e w2 ⟨rfl, hb2⟩; rw [hn]))
    go_ret
    exact ⟨u9000_, rfl, HF.out _ (by repeat (first | exact below_step hb1 hb2 | apply pw_below_drewN | apply below_drew1 | apply below_alloc))⟩


/-! ### iov_all: function 28 (by hand) -/
set_option maxHeartbeats 8000000 in
set_option maxRecDepth 100000 in
theorem iov_all_nil.calls (w : World) :
    Calls Try.prog 28 #[.pointer none, .slice none 0 0] w fun e w' => e = .returned (.int .i64 100) ∧ Below w.heap.size w w' := by
  go_enter Try.func28, Try.ntmps28
  go_wp2_with (first
    | ((with_reducible refine gate_dst (N := 2) rfl ?_); refine box_event ?hg (N := 2) ?hd (cs := #[.pointer none]) (t := 28) ?hr ?_; (case hd => rfl); (case hg => rfl); (case hr => first | (go_simp; done) | (go_simp; rfl)); intro gb hgb w1 hbox hb1; clear hgb; have hcz0 : w1.cell? ⟨gb, 0, none⟩ = some (.pointer none) := (blk_cell hbox 0).trans rfl; have hf0 := blk_frozen hbox 0))
  go_ret
  exact ⟨rfl, by repeat (first | exact hb1 | apply pw_below_drewN | apply below_drew1 | apply below_alloc)⟩


end Go.Proofs.Ytdoaininjfbemaa.PAll
