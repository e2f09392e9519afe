/- What any forty-eight bytes say of a subscription is the reference's, or refused; other bytes are none: for every list of asks. -/
import Derived.Test.YthhmnecnoojcpaaPAllx9
import Derived.Test.YthhmnecnoojcpaaPAllx5
import Derived.Test.YthhmnecnoojcpaaPAllx7
import Derived.Test.YthhmnecnoojcpaaPAllx8
import Derived.Test.YthhmnecnoojcpaaQSet
namespace Go.Proofs.Ythhmnecnoojcpaa.QSub
open Go.RowKit Go.Proofs.Ythhmnecnoojcpaa.PAll Go.Proofs.YthhmnecnoojcpaaW.PrintWords Go.Proofs.YthhmnecnoojcpaaW.PrintLast Go.Proofs.YthhmnecnoojcpaaW.PrintMore Go.Proofs.YthhmnecnoojcpaaU Go.Proofs.Ythhmnecnoojcpaa.Q
set_option linter.unusedVariables false

/-- The number that bytes say, the lowest first. -/
def nl : List Int → Int
  | [] => 0
  | c :: t => c + 256 * nl t
def By (b : List Int) : Prop := ∀ y ∈ b, 0 ≤ y ∧ y ≤ 255
theorem nl_bound : ∀ (b : List Int), By b → 0 ≤ nl b ∧ nl b < 256 ^ b.length
  | [], _ => by simp [nl]
  | c :: t, h => by
    have h1 := h c (by simp)
    have h2 := nl_bound t (fun y hy => h y (by simp [hy]))
    simp only [nl, List.length_cons, Int.pow_succ]
    omega
theorem nl_append : ∀ (b : List Int) (c : Int), nl (b ++ [c]) = nl b + c * 256 ^ b.length
  | [], c => by simp [nl]
  | d :: t, c => by
    simp only [List.cons_append, nl, nl_append t c, List.length_cons, Int.pow_succ]
    rw [← Int.mul_assoc, Int.mul_comm _ (256 : Int)]
    generalize c * 256 ^ t.length = q
    omega
theorem or_byte (x c : Int) (j : Nat) (hj : j < 8) (h0 : 0 ≤ x) (h1 : x < 256 ^ j) (hc0 : 0 ≤ c) (hc1 : c ≤ 255) :
    Go.bits .or .u64 x (shl .u64 (IntKind.u64.wrap c) ((8 * j : Nat) : Int)) = x + c * 256 ^ j := by
  have cs : j = 0 ∨ j = 1 ∨ j = 2 ∨ j = 3 ∨ j = 4 ∨ j = 5 ∨ j = 6 ∨ j = 7 := by omega
  have hs : shl .u64 (IntKind.u64.wrap c) ((8 * j : Nat) : Int) = c * 256 ^ j := by
    unfold shl
    have : min (((8 * j : Nat) : Int).toNat) IntKind.u64.bits = 8 * j := by simp [IntKind.bits]; omega
    rw [wu64, wu64, this, Int.emod_eq_of_lt hc0 (by omega)]
    rcases cs with rfl | rfl | rfl | rfl | rfl | rfl | rfl | rfl <;> simp <;> omega
  rw [hs]
  rcases cs with rfl | rfl | rfl | rfl | rfl | rfl | rfl | rfl
  · exact or64 (p := 0) (by omega) h0 (by simpa using h1) (by omega) (by omega) (by omega)
  · exact or64 (p := 8) (by omega) h0 (by simpa using h1) (by omega) (by omega) (by omega)
  · exact or64 (p := 16) (by omega) h0 (by simpa using h1) (by omega) (by omega) (by omega)
  · exact or64 (p := 24) (by omega) h0 (by simpa using h1) (by omega) (by omega) (by omega)
  · exact or64 (p := 32) (by omega) h0 (by simpa using h1) (by omega) (by omega) (by omega)
  · exact or64 (p := 40) (by omega) h0 (by simpa using h1) (by omega) (by omega) (by omega)
  · exact or64 (p := 48) (by omega) h0 (by simpa using h1) (by omega) (by omega) (by omega)
  · exact or64 (p := 56) (by omega) h0 (by simpa using h1) (by omega) (by omega) (by omega)

theorem take_next (b : List Int) (a j : Nat) (h : a + j < b.length) : (b.drop a).take (j + 1) = (b.drop a).take j ++ [b.getD (a + j) 0] := by
  rw [List.take_succ_eq_append_getElem (by simp; omega)]
  congr 2
  rw [List.getElem_drop, List.getD_eq_getElem?_getD, List.getElem?_eq_getElem h]
  rfl
theorem by_sub {b : List Int} (h : By b) (a j : Nat) : By ((b.drop a).take j) := fun y hy => h y (List.mem_of_mem_drop (List.mem_of_mem_take hy))

theorem get_l0 (b : List Int) (hb : By b) (a n : Nat) (hn : n ≤ 8) (hl : a + n ≤ b.length) (hm : b.length < 140737488355328) : ∀ (d j : Nat), j + d = n → ∀ k, d < k →
    stat_field_get.l0 k (a : Int) (nl ((b.drop a).take j)) (n : Int) (j : Int) b = some (nl ((b.drop a).take n)) := by
  intro d
  induction d with
  | zero =>
    intro j hj k hk
    obtain ⟨k, rfl⟩ : ∃ m, k = m + 1 := ⟨k - 1, by omega⟩
    obtain rfl : j = n := by omega
    simp only [stat_field_get.l0]
    rw [if_neg (by omega)]
  | succ d ih =>
    intro j hj k hk
    obtain ⟨k, rfl⟩ : ∃ m, k = m + 1 := ⟨k - 1, by omega⟩
    have q1 : (j : Int) < (n : Int) := by omega
    have q2 : (0 : Int) ≤ ((a + j : Nat) : Int) := by omega
    have q3 : ((a + j : Nat) : Int) < (b.length : Int) := by omega
    have q4 : (0 : Int) ≤ ((8 * j : Nat) : Int) := by omega
    have q5 : j < 8 := by omega
    have hc := hb (b.getD (a + j) 0) (by rw [List.getD_eq_getElem?_getD, List.getElem?_eq_getElem (by omega)]; exact List.getElem_mem _)
    have hlen : ((b.drop a).take j).length = j := by simp; omega
    have e1 : wrap64 (8 * (j : Int)) = ((8 * j : Nat) : Int) := by rw [w64 (by omega) (by omega)]; omega
    have e2 : wrap64 ((a : Int) + (j : Int)) = ((a + j : Nat) : Int) := by rw [w64 (by omega) (by omega)]; omega
    have e3 : wrap64 ((j : Int) + 1) = ((j + 1 : Nat) : Int) := by rw [w64 (by omega) (by omega)]; omega
    have q6 := ih (j + 1) (by omega) k (by omega)
    rw [take_next b a j (by omega), nl_append, hlen] at q6
    have hv := nl_bound _ (by_sub hb a j)
    rw [hlen] at hv
    simp only [stat_field_get.l0]
    rw [if_pos q1, e1, e2, e3, if_pos q2, if_pos q3, if_pos q4, rd_nat, or_byte _ _ j q5 hv.1 hv.2 hc.1 hc.2]
    exact q6
theorem get_ev (b : List Int) (hb : By b) (a n : Nat) (hn : n ≤ 8) (hl : a + n ≤ b.length) (hm : b.length < 140737488355328) (k : Nat) (hk : 9 ≤ k) :
    stat_field_get.f k b (a : Int) (n : Int) = some (nl ((b.drop a).take n)) := by
  have := get_l0 b hb a n hn hl hm n 0 (by omega) k (by omega)
  rw [List.take_zero] at this
  exact this

theorem number_l0 (b : List Int) (hb : By b) (hl : b.length ≤ 8) : ∀ (i : Nat), i ≤ b.length → ∀ k, i < k → gangwayref20_Number.l0 k b (nl (b.drop i)) ((i : Int) - 1) = some (nl b) := by
  intro i
  induction i with
  | zero =>
    intro hi k hk
    obtain ⟨k, rfl⟩ : ∃ m, k = m + 1 := ⟨k - 1, by omega⟩
    simp only [gangwayref20_Number.l0]
    rw [if_neg (by omega), List.drop_zero]
  | succ i ih =>
    intro hi k hk
    obtain ⟨k, rfl⟩ : ∃ m, k = m + 1 := ⟨k - 1, by omega⟩
    have hd : b.drop i = b.getD i 0 :: b.drop (i + 1) := by
      rw [List.drop_eq_getElem_cons (by omega), List.getD_eq_getElem?_getD, List.getElem?_eq_getElem (by omega)]
      rfl
    have hc := hb (b.getD i 0) (by rw [List.getD_eq_getElem?_getD, List.getElem?_eq_getElem (by omega)]; exact List.getElem_mem _)
    have hv := nl_bound (b.drop (i + 1)) (fun y hy => hb y (List.mem_of_mem_drop hy))
    have hle : (256 : Int) ^ (b.drop (i + 1)).length ≤ 256 ^ 7 := by
      have h7 : (b.drop (i + 1)).length ≤ 7 := by simp; omega
      generalize (b.drop (i + 1)).length = m at h7
      have : m = 0 ∨ m = 1 ∨ m = 2 ∨ m = 3 ∨ m = 4 ∨ m = 5 ∨ m = 6 ∨ m = 7 := by omega
      rcases this with rfl | rfl | rfl | rfl | rfl | rfl | rfl | rfl <;> decide
    have h7 : (256 : Int) ^ 7 = 72057594037927936 := by decide
    have e0 : (((i + 1 : Nat) : Int) - 1) = (i : Int) := by omega
    have hw : IntKind.u64.wrap (nl (b.drop (i + 1)) * 256) = nl (b.drop (i + 1)) * 256 := by rw [wu64, Int.emod_eq_of_lt (by omega) (by omega)]
    have hor : Go.bits .or .u64 (nl (b.drop (i + 1)) * 256) (b.getD i 0) = nl (b.drop i) := by
      have := or64 (x := b.getD i 0) (y := nl (b.drop (i + 1)) * 256) (p := 8) (by omega) hc.1 (by rw [show (2 : Int) ^ 8 = 256 from by decide]; omega) (by omega) (by omega) (by rw [show (2 : Int) ^ 8 = 256 from by decide]; omega)
      rw [bits_or64, Nat.or_comm, ← bits_or64, this, hd]
      simp only [nl]
      omega
    simp only [gangwayref20_Number.l0]
    rw [e0, if_pos (by omega), if_pos (by omega), if_pos (by omega), rd_nat, hw, wu64, Int.emod_eq_of_lt hc.1 (by omega), hor, w64 (by omega) (by omega)]
    exact ih (by omega) k (by omega)
theorem number_ev (b : List Int) (hb : By b) (hl : b.length ≤ 8) (k : Nat) (hk : 9 ≤ k) : gangwayref20_Number.f k b = some (nl b) := by
  have := number_l0 b hb hl b.length (Nat.le_refl _) k (by omega)
  rw [List.drop_length] at this
  unfold gangwayref20_Number.f
  rw [w64 (by omega) (by omega)]
  exact this

def Z28 : Int × Int × Int × Int × Bool × Int := (0, 0, 0, 0, false, 28)
def subV (A K T F D : Int) : Int × Int × Int × Int × Bool × Int :=
  if wrap64 K = 0 then (if D > 3 then Z28 else (if F > 1 then Z28 else (if T > 1125899906842624 then Z28 else (wrap64 A, wrap64 K, 0, wrap64 T, (F == 1), 0))))
  else (if wrap64 K = 1 then (wrap64 A, wrap64 K, wrap64 D, 0, false, 0) else (if wrap64 K = 2 then (wrap64 A, wrap64 K, wrap64 D, 0, false, 0) else Z28))

theorem sub_ev (b : List Int) (hb : By b) (h48 : b.length = 48) (k : Nat) (hk : 9 ≤ k) :
    stat_Subscription.f k b = some (subV (nl (b.take 8)) (b.getD 8 0) (nl ((b.drop 24).take 8)) (nl ((b.drop 40).take 2)) (nl ((b.drop 16).take 4))) := by
  have g0 : stat_field_get.f k b 0 8 = _ := get_ev b hb 0 8 (by omega) (by omega) (by omega) k hk
  have g1 : stat_field_get.f k b 8 1 = _ := get_ev b hb 8 1 (by omega) (by omega) (by omega) k hk
  have g2 : stat_field_get.f k b 24 8 = _ := get_ev b hb 24 8 (by omega) (by omega) (by omega) k hk
  have g3 : stat_field_get.f k b 40 2 = _ := get_ev b hb 40 2 (by omega) (by omega) (by omega) k hk
  have g4 : stat_field_get.f k b 16 4 = _ := get_ev b hb 16 4 (by omega) (by omega) (by omega) k hk
  have e1 : nl ((b.drop 8).take 1) = b.getD 8 0 := by
    have := take_next b 8 0 (by omega)
    rw [List.take_zero] at this
    rw [this]
    simp [nl]
  rw [List.drop_zero] at g0
  rw [e1] at g1
  unfold stat_Subscription.f subV
  rw [if_pos (by omega), g0, Option.bind_some, g1, Option.bind_some]
  split
  · rw [g2, Option.bind_some, g3, Option.bind_some, g4, Option.bind_some]
    split
    · rfl
    · split
      · rfl
      · split <;> rfl
  · split
    · rw [g4]; rfl
    · split
      · rw [g4]; rfl
      · rfl
theorem ref_ev (b : List Int) (hb : By b) (h48 : b.length = 48) (k : Nat) (hk : 10 ≤ k) :
    gangwayref20_Subscription.f k b = some (subV (nl (b.take 8)) (b.getD 8 0) (nl ((b.drop 24).take 8)) (nl ((b.drop 40).take 2)) (nl ((b.drop 16).take 4))) := by
  have g0 := number_ev (b.take 8) (by have := by_sub hb 0 8; rwa [List.drop_zero] at this) (by rw [List.length_take]; omega) k (by omega)
  have d2 : (b.take 32).drop 24 = (b.drop 24).take 8 := by rw [List.drop_take]
  have d3 : (b.take 42).drop 40 = (b.drop 40).take 2 := by rw [List.drop_take]
  have d4 : (b.take 20).drop 16 = (b.drop 16).take 4 := by rw [List.drop_take]
  have g2 := number_ev ((b.drop 24).take 8) (by_sub hb 24 8) (by rw [List.length_take]; omega) k (by omega)
  have g3 := number_ev ((b.drop 40).take 2) (by_sub hb 40 2) (by rw [List.length_take]; omega) k (by omega)
  have g4 := number_ev ((b.drop 16).take 4) (by_sub hb 16 4) (by rw [List.length_take]; omega) k (by omega)
  have r8 : rd b 8 = b.getD 8 0 := rfl
  obtain ⟨k, rfl⟩ : ∃ m, k = m + 1 := ⟨k - 1, by omega⟩
  unfold gangwayref20_Subscription.f subV
  rw [if_pos (by omega), g0, Option.bind_some, if_pos (by omega), r8]
  split
  · rw [if_pos (by omega), d2, g2, Option.bind_some, if_pos (by omega), d3, g3, Option.bind_some, if_pos (by omega), d4, g4, Option.bind_some]
    simp only [gangwayref20_Subscription.j0]
    split
    · rfl
    · split
      · rfl
      · split
        · rename_i h
          rw [if_pos (by simpa using h)]
          rfl
        · rename_i h
          rw [if_neg (by simpa using h)]
  · have g4' := number_ev ((b.drop 16).take 4) (by_sub hb 16 4) (by rw [List.length_take]; omega) k (by omega)
    simp only [gangwayref20_Subscription.j1]
    split
    · rename_i h
      rw [if_pos (beq_iff_eq.2 h), if_pos (by omega), d4, g4']; rfl
    · by_cases h : wrap64 (b.getD 8 0) = 2
      · rw [if_pos (beq_iff_eq.2 h), if_pos (by omega), d4, g4', if_pos h]; rfl
      · rw [if_neg (fun e => h (beq_iff_eq.1 e)), if_neg h]; rfl
end Go.Proofs.Ythhmnecnoojcpaa.QSub
namespace Go.Proofs.Ythhmnecnoojcpaa.Pure
open Go.RowKit Go.Proofs.Ythhmnecnoojcpaa.PAll Go.Proofs.YthhmnecnoojcpaaW.PrintWords Go.Proofs.YthhmnecnoojcpaaW.PrintLast Go.Proofs.YthhmnecnoojcpaaW.PrintMore Go.Proofs.YthhmnecnoojcpaaU Go.Proofs.Ythhmnecnoojcpaa.Q Go.Proofs.Ythhmnecnoojcpaa.QSub
set_option linter.unusedVariables false

theorem StatSubs_l0 (l : List S35) (hl : l.length * 256 ≤ 140737488351232) (hok : ∀ x ∈ l, okT35 x) : ∀ (d i : Nat), i + d = l.length → ∀ k, 7 * d + 80 < k → gangwaylaw20_StatSubs.l0 k l (i : Int) = some true := by
  intro d
  induction d with
  | zero =>
    intro i hi k hk
    obtain ⟨k, rfl⟩ : ∃ m, k = m + 3 := ⟨k - 3, by omega⟩
    simp only [gangwaylaw20_StatSubs.l0]
    rw [if_neg (by omega)]
    simp only [gangwaylaw20_StatSubs.j1]
    rw [if_neg (by simp)]
    simp only [gangwaylaw20_StatSubs.j7]
    rw [wakes_ev k (by omega)]
    rfl
  | succ d ih =>
    intro i hi k hk
    obtain ⟨k, rfl⟩ : ∃ m, k = m + 7 := ⟨k - 7, by omega⟩
    simp only [gangwaylaw20_StatSubs.l0]
    rw [if_pos (by omega)]
    simp only [gangwaylaw20_StatSubs.j1]
    have next : ∀ m, 7 * d + 80 < m → gangwaylaw20_StatSubs.l0 m l (wrap64 ((i : Int) + 1)) = some true := by
      intro m hm
      rw [w64 (by omega) (by omega)]
      exact ih (i + 1) (by omega) m hm
    by_cases h20 : (i : Int) < 20
    · rw [if_pos (by simpa using h20)]
      simp only [gangwaylaw20_StatSubs.j2]
      rw [if_pos (by omega), if_pos (by omega)]
      have hx : okT35 (rd_T35 l (i : Int)) := by
        unfold rd_T35
        rw [show (i : Int).toNat = i from rfl, List.getD_eq_getElem?_getD, List.getElem?_eq_getElem (by omega)]
        exact hok _ (List.getElem_mem _)
      generalize rd_T35 l (i : Int) = x at hx ⊢
      obtain ⟨_, _, _, _, _, _, _, _, hB⟩ := hx
      have hb : By x.f8 := fun y hy => bd8 (hB.2 y hy)
      unfold gangwaylaw20_heavy.f
      rw [Option.bind_some]
      split
      · rfl
      · simp only [gangwaylaw20_StatSubs.j3]
        by_cases h48 : (x.f8.length : Int) = 48
        · rw [sub_ev _ hb (by omega) (k + 3) (by omega), Option.bind_some, if_pos h48]
          simp only [gangwaylaw20_StatSubs.j5]
          rw [ref_ev _ hb (by omega) (k + 2) (by omega), Option.bind_some]
          generalize subV _ _ _ _ _ = v
          unfold gangwaylaw20_num.f
          rw [Option.bind_some, if_pos rfl]
          simp only [gangwaylaw20_StatSubs.j6]
          rw [if_neg (by simp)]
          exact next _ (by omega)
        · have e : stat_Subscription.f (k + 3) x.f8 = some (0, 0, 0, 0, false, 100) := by
            unfold stat_Subscription.f
            rw [if_neg h48]
          rw [e, Option.bind_some, if_neg h48]
          unfold gangwaylaw20_num.f
          rw [Option.bind_some, if_pos rfl]
          simp only [gangwaylaw20_StatSubs.j4]
          rw [if_neg (by simp)]
          exact next _ (by omega)
    · rw [if_neg (by simpa using h20)]
      simp only [gangwaylaw20_StatSubs.j7]
      rw [wakes_ev _ (by omega)]
      rfl

theorem StatSubs : gangwaylaw20_StatSubs.Pure := by
  intro l ⟨hl, hok⟩
  exact ⟨7 * l.length + 81, StatSubs_l0 l hl hok l.length 0 (by omega) _ (by omega)⟩

end Go.Proofs.Ythhmnecnoojcpaa.Pure
