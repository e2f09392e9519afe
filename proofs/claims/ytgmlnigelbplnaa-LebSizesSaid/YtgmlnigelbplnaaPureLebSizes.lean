/- A number has as many bytes as its bits need, seven each; signed ones need one bit more: for every list of asks. -/
import Derived.Test.YtgmlnigelbplnaaPAllx10
import Derived.Test.YtgmlnigelbplnaaQLebU
import Derived.Test.YtgmlnigelbplnaaQLebS
import Derived.Test.YtgmlnigelbplnaaQLebP
namespace Go.Proofs.Ytgmlnigelbplnaa.Pure
open Go.RowKit Go.Proofs.Ytgmlnigelbplnaa.PAll Go.Proofs.YtgmlnigelbplnaaW.PrintWords Go.Proofs.YtgmlnigelbplnaaW.PrintLast Go.Proofs.YtgmlnigelbplnaaW.PrintMore Go.Proofs.YtgmlnigelbplnaaU Go.Proofs.Ytgmlnigelbplnaa.Q
set_option linter.unusedVariables false

theorem pu_get : ∀ (d : Nat) (x : Int), 0 ≤ x → x < 128 ^ (d + 1) → ∀ j, j < (pu d x).length → (128 ≤ (pu d x).getD j 0 ↔ j + 1 < (pu d x).length)
  | 0, x, h0, h1, j, hj => by
    simp only [pu] at hj ⊢
    simp only [List.length_cons, List.length_nil] at hj ⊢
    obtain rfl : j = 0 := by omega
    simp only [List.getD_cons_zero]
    omega
  | d + 1, x, h0, h1, j, hj => by
    simp only [pu] at hj ⊢
    by_cases h : x ≥ 128
    · rw [if_pos h] at hj ⊢
      rw [Int.pow_succ] at h1
      have ih := pu_get d (x / 128) (by omega) (by omega)
      have hl := pu_length d (x / 128)
      cases j with
      | zero => simp only [List.getD_cons_zero, List.length_cons]; omega
      | succ j =>
        simp only [List.getD_cons_succ, List.length_cons] at hj ⊢
        have := ih j (by omega)
        omega
    · rw [if_neg h] at hj ⊢
      simp only [List.length_cons, List.length_nil] at hj ⊢
      obtain rfl : j = 0 := by omega
      simp only [List.getD_cons_zero]
      omega
theorem ps_get : ∀ (d : Nat) (x : Int), ∀ j, j < (ps d x).length → (128 ≤ (ps d x).getD j 0 ↔ j + 1 < (ps d x).length)
  | 0, x, j, hj => by
    simp only [ps] at hj ⊢
    simp only [List.length_cons, List.length_nil] at hj ⊢
    obtain rfl : j = 0 := by omega
    simp only [List.getD_cons_zero]
    omega
  | d + 1, x, j, hj => by
    simp only [ps] at hj ⊢
    by_cases h : x < -64 ∨ 64 ≤ x
    · rw [if_pos h] at hj ⊢
      have ih := ps_get d (x / 128)
      have hl := ps_length d (x / 128)
      cases j with
      | zero => simp only [List.getD_cons_zero, List.length_cons]; omega
      | succ j =>
        simp only [List.getD_cons_succ, List.length_cons] at hj ⊢
        have := ih j (by omega)
        omega
    · rw [if_neg h] at hj ⊢
      simp only [List.length_cons, List.length_nil] at hj ⊢
      obtain rfl : j = 0 := by omega
      simp only [List.getD_cons_zero]
      omega

theorem sz_l4 (l : List S26) (i : Int) (b : List Int) (hb : b.length < 100) (hg : ∀ j, j < b.length → (128 ≤ b.getD j 0 ↔ j + 1 < b.length)) (T : Option Bool) (k0 : Nat) (hT : ∀ k, k0 ≤ k → gangwaylaw1_LebSizes.l0 k l (wrap64 (i + 1)) = T) :
    ∀ (d j : Nat), j + d = b.length → ∀ k, d + k0 < k → gangwaylaw1_LebSizes.l4 k l i b (j : Int) = T := by
  intro d
  induction d with
  | zero =>
    intro j hj k hk
    obtain ⟨k, rfl⟩ : ∃ m, k = m + 1 := ⟨k - 1, by omega⟩
    simp only [gangwaylaw1_LebSizes.l4]
    rw [if_neg (by omega)]
    exact hT k (by omega)
  | succ d ih =>
    intro j hj k hk
    obtain ⟨k, rfl⟩ : ∃ m, k = m + 1 := ⟨k - 1, by omega⟩
    have := hg j (by omega)
    have e : (decide ((rd b (j : Int)) ≥ 128) != decide ((j : Int) < wrap64 ((b.length : Int) - 1))) = false := by
      rw [w64 (by omega) (by omega), rd_nat]
      by_cases h : 128 ≤ b.getD j 0
      · have h2 := this.1 h
        rw [decide_eq_true h, decide_eq_true (show (j : Int) < (b.length : Int) - 1 by omega)]; rfl
      · have h2 : ¬ j + 1 < b.length := fun z => h (this.2 z)
        rw [decide_eq_false h, decide_eq_false (show ¬ (j : Int) < (b.length : Int) - 1 by omega)]; rfl
    simp only [gangwaylaw1_LebSizes.l4]
    rw [if_pos (by omega), if_pos (by omega), e, if_neg (by simp), w64 (by omega) (by omega)]
    exact ih (j + 1) (by omega) k (by omega)
theorem sz_l3 (l : List S26) (i : Int) (a b : List Int) (ha : a.length < 100) (hg : ∀ j, j < a.length → (128 ≤ a.getD j 0 ↔ j + 1 < a.length)) (T : Option Bool) (k0 : Nat) (hT : ∀ k, k0 ≤ k → gangwaylaw1_LebSizes.l4 k l i b 0 = T) :
    ∀ (d j : Nat), j + d = a.length → ∀ k, d + k0 < k → gangwaylaw1_LebSizes.l3 k l i a b (j : Int) = T := by
  intro d
  induction d with
  | zero =>
    intro j hj k hk
    obtain ⟨k, rfl⟩ : ∃ m, k = m + 1 := ⟨k - 1, by omega⟩
    simp only [gangwaylaw1_LebSizes.l3]
    rw [if_neg (by omega)]
    exact hT k (by omega)
  | succ d ih =>
    intro j hj k hk
    obtain ⟨k, rfl⟩ : ∃ m, k = m + 1 := ⟨k - 1, by omega⟩
    have := hg j (by omega)
    have e : (decide ((rd a (j : Int)) ≥ 128) != decide ((j : Int) < wrap64 ((a.length : Int) - 1))) = false := by
      rw [w64 (by omega) (by omega), rd_nat]
      by_cases h : 128 ≤ a.getD j 0
      · have h2 := this.1 h
        rw [decide_eq_true h, decide_eq_true (show (j : Int) < (a.length : Int) - 1 by omega)]; rfl
      · have h2 : ¬ j + 1 < a.length := fun z => h (this.2 z)
        rw [decide_eq_false h, decide_eq_false (show ¬ (j : Int) < (a.length : Int) - 1 by omega)]; rfl
    simp only [gangwaylaw1_LebSizes.l3]
    rw [if_pos (by omega), if_pos (by omega), e, if_neg (by simp), w64 (by omega) (by omega)]
    exact ih (j + 1) (by omega) k (by omega)

theorem sz_l2 (l : List S26) (i : Int) (n : Int) (L : Int) (hL : L < 900) (T : Option Bool) (k0 : Nat)
    (hT : ∀ k m, k0 ≤ k → -64 ≤ m → m ≤ 63 → gangwaylaw1_LebSizes.l2 (k + 1) l i n L m = T) :
    ∀ (d : Nat) (x c : Int), -(64 * 128 ^ d) ≤ x → x < 64 * 128 ^ d → 1 ≤ c → c < 1000 → c + ((ps d x).length : Int) - 1 = L → ∀ k, k0 + d + 1 < k → gangwaylaw1_LebSizes.l2 k l i n c x = T := by
  intro d
  induction d with
  | zero =>
    intro x c h0 h1 hc hc2 he k hk
    obtain ⟨k, rfl⟩ : ∃ m, k = m + 1 := ⟨k - 1, by omega⟩
    simp only [ps, List.length_cons, List.length_nil] at he
    rw [show c = L by omega]
    exact hT k x (by omega) (by omega) (by omega)
  | succ d ih =>
    intro x c h0 h1 hc hc2 he k hk
    obtain ⟨k, rfl⟩ : ∃ m, k = m + 1 := ⟨k - 1, by omega⟩
    rw [Int.pow_succ] at h0 h1
    simp only [ps] at he
    by_cases h : x < -64 ∨ 64 ≤ x
    · rw [if_pos h] at he
      simp only [List.length_cons] at he
      have := ih (x / 128) (c + 1) (by omega) (by omega) (by omega) (by have := ps_length d (x / 128); omega) (by omega) k (by omega)
      simp only [gangwaylaw1_LebSizes.l2]
      rw [w64 (by omega) (by omega), this]
      by_cases h2 : x > 63
      · rw [if_pos h2]
      · rw [if_neg h2, if_pos (by omega)]
    · rw [if_neg h] at he
      simp only [List.length_cons, List.length_nil] at he
      rw [show c = L by omega]
      exact hT k x (by omega) (by omega) (by omega)
theorem sz_l1 (l : List S26) (i : Int) (L : Int) (hL : L < 900) (T : Option Bool) (k0 : Nat)
    (hT : ∀ k m, k0 ≤ k → m < 128 → gangwaylaw1_LebSizes.l1 (k + 1) l i L m = T) :
    ∀ (d : Nat) (x c : Int), 0 ≤ x → x < 128 ^ (d + 1) → 1 ≤ c → c < 1000 → c + ((pu d x).length : Int) - 1 = L → ∀ k, k0 + d + 1 < k → gangwaylaw1_LebSizes.l1 k l i c x = T := by
  intro d
  induction d with
  | zero =>
    intro x c h0 h1 hc hc2 he k hk
    obtain ⟨k, rfl⟩ : ∃ m, k = m + 1 := ⟨k - 1, by omega⟩
    simp only [pu, List.length_cons, List.length_nil] at he
    rw [show c = L by omega]
    exact hT k x (by omega) (by omega)
  | succ d ih =>
    intro x c h0 h1 hc hc2 he k hk
    obtain ⟨k, rfl⟩ : ∃ m, k = m + 1 := ⟨k - 1, by omega⟩
    rw [Int.pow_succ] at h1
    simp only [pu] at he
    by_cases h : x ≥ 128
    · rw [if_pos h] at he
      simp only [List.length_cons] at he
      have := ih (x / 128) (c + 1) (by omega) (by omega) (by omega) (by have := pu_length d (x / 128); omega) (by omega) k (by omega)
      simp only [gangwaylaw1_LebSizes.l1]
      rw [w64 (by omega) (by omega), if_pos h, this]
    · rw [if_neg h] at he
      simp only [List.length_cons, List.length_nil] at he
      rw [show c = L by omega]
      exact hT k x (by omega) (by omega)

theorem LebSizes_l0 (l : List S26) (hl : l.length * 48 ≤ 140737488351232) (hok : ∀ x ∈ l, okT26 x) : ∀ (d i : Nat), i + d = l.length → ∀ k, 100 * d + 200 < k → gangwaylaw1_LebSizes.l0 k l (i : Int) = some true := by
  intro d
  induction d with
  | zero =>
    intro i hi k hk
    obtain ⟨k, rfl⟩ : ∃ m, k = m + 2 := ⟨k - 2, by omega⟩
    simp only [gangwaylaw1_LebSizes.l0]
    rw [if_neg (by omega)]
    simp only [gangwaylaw1_LebSizes.j1]
    unfold gangwaylaw1_num.f
    rw [if_neg (by simp), uint_ev [] ⟨by decide, by simp⟩ 32 k (by omega), Option.bind_some, sint_ev [0] ⟨by decide, fun i => by rcases i with _ | i <;> simp⟩ 65 k (by omega), wakes_ev k (by omega)]
    have e1 : outU (readU [] 32) = (0, 0, 100) := by decide
    have e2 : outS (readS [0] 65) = (0, 0, 100) := by decide
    rw [e1, e2]
    rfl
  | succ d ih =>
    intro i hi k hk
    obtain ⟨k, rfl⟩ : ∃ m, k = m + 2 := ⟨k - 2, by omega⟩
    simp only [gangwaylaw1_LebSizes.l0]
    rw [if_pos (by omega)]
    simp only [gangwaylaw1_LebSizes.j1]
    by_cases h20 : (i : Int) < 30
    · rw [if_pos (by simpa using h20), if_pos (by omega), if_pos (by omega)]
      have hx : okT26 (rd_T26 l (i : Int)) := by
        unfold rd_T26
        rw [show (i : Int).toNat = i from rfl, List.getD_eq_getElem?_getD, List.getElem?_eq_getElem (by omega)]
        exact hok _ (List.getElem_mem _)
      generalize hxx : rd_T26 l (i : Int) = x at hx ⊢
      obtain ⟨_, _, hu, hs⟩ := hx
      have hu := bdu64 hu
      have hs := bd64 hs
      have l1 := pu_length 9 x.f2
      have l2 := ps_length 9 x.f3
      have p1 : (128 : Int) ^ (9 + 1) = 1180591620717411303424 := by decide
      have p2 : (64 : Int) * 128 ^ 9 = 590295810358705651712 := by decide
      have next : ∀ m, 100 * d + 200 < m → gangwaylaw1_LebSizes.l0 m l (wrap64 ((i : Int) + 1)) = some true := by
        intro m hm
        rw [w64 (by omega) (by omega)]
        exact ih (i + 1) (by omega) m hm
      have q1 : (1 : Int) + ((pu 9 x.f2).length : Int) - 1 = ((pu 9 x.f2).length : Int) := by generalize (pu 9 x.f2).length = a; omega
      have q2 : (1 : Int) + ((ps 9 x.f3).length : Int) - 1 = ((ps 9 x.f3).length : Int) := by generalize (ps 9 x.f3).length = a; omega
      refine sz_l1 l i ((pu 9 x.f2).length : Int) (by omega) (some true) (100 * d + 260) ?_ 9 x.f2 1 hu.1 (by rw [p1]; omega) (by decide) (by decide) q1 k (by omega)
      intro k m hk hm
      simp only [gangwaylaw1_LebSizes.l1]
      rw [if_neg (by omega), if_pos (by omega), if_pos (by omega), hxx]
      refine sz_l2 l i ((pu 9 x.f2).length : Int) ((ps 9 x.f3).length : Int) (by omega) (some true) (100 * d + 240) ?_ 9 x.f3 1 (by rw [p2]; omega) (by rw [p2]; omega) (by decide) (by decide) q2 k (by omega)
      intro k m hk hm1 hm2
      obtain ⟨k, rfl⟩ : ∃ m, k = m + 1 := ⟨k - 1, by omega⟩
      simp only [gangwaylaw1_LebSizes.l2]
      rw [if_neg (by omega), if_neg (by omega), if_pos (by omega), if_pos (by omega), hxx, put_ev x.f2 hu.1 hu.2 (k + 1) (by omega), Option.bind_some, puts_ev x.f3 hs.1 hs.2 (k + 1) (by omega), Option.bind_some, if_pos rfl]
      simp only [bne_self_eq_false, gangwaylaw1_LebSizes.j4]
      rw [if_neg (by simp)]
      refine sz_l3 l i _ _ (by omega) (pu_get 9 x.f2 hu.1 (by rw [p1]; omega)) (some true) (100 * d + 220) ?_ (pu 9 x.f2).length 0 (by omega) k (by omega)
      intro k hk
      exact sz_l4 l i _ (by omega) (ps_get 9 x.f3) (some true) (100 * d + 201) (fun m hm => next m (by omega)) (ps 9 x.f3).length 0 (by omega) k (by omega)
    · rw [if_neg (by simpa using h20)]
      unfold gangwaylaw1_num.f
      rw [uint_ev [] ⟨by decide, by simp⟩ 32 k (by omega), Option.bind_some, sint_ev [0] ⟨by decide, fun i => by rcases i with _ | i <;> simp⟩ 65 k (by omega), wakes_ev k (by omega)]
      have e1 : outU (readU [] 32) = (0, 0, 100) := by decide
      have e2 : outS (readS [0] 65) = (0, 0, 100) := by decide
      rw [e1, e2]
      rfl

theorem LebSizes : gangwaylaw1_LebSizes.Pure := by
  intro l ⟨hl, hok⟩
  exact ⟨100 * l.length + 201, LebSizes_l0 l hl hok l.length 0 (by omega) _ (by omega)⟩

end Go.Proofs.Ytgmlnigelbplnaa.Pure
