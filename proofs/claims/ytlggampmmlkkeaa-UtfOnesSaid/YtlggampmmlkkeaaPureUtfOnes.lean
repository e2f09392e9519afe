/- One byte is text just below 128; of two to four bytes with the right beginning all further ones must begin with 10; each code point alone has one to four bytes, by its size: for every list of asks. -/
import Derived.Test.YtlggampmmlkkeaaPAllx8
import Derived.Test.YtlggampmmlkkeaaQUtfR
namespace Go.Proofs.Ytlggampmmlkkeaa.Pure
open Go.RowKit Go.Proofs.Ytlggampmmlkkeaa.PAll Go.Proofs.YtlggampmmlkkeaaW.PrintWords Go.Proofs.YtlggampmmlkkeaaW.PrintLast Go.Proofs.YtlggampmmlkkeaaW.PrintMore Go.Proofs.YtlggampmmlkkeaaU Go.Proofs.Ytlggampmmlkkeaa.Q
set_option linter.unusedVariables false

theorem pts_one (x : Int) (h0 : 0 ≤ x) (h1 : x ≤ 255) : (pts 1 [x]).isSome = decide (x < 128) := by
  simp only [pts, head]
  by_cases h : x < 128
  · rw [if_pos h]; simp [pts, h]
  · rw [if_neg h]
    by_cases h2 : x < 192
    · rw [if_pos h2]; simp [h]
    · rw [if_neg h2]
      by_cases h3 : x < 224
      · rw [if_pos h3]; simp [h]
      · rw [if_neg h3]
        by_cases h4 : x < 240
        · rw [if_pos h4]; simp [h]
        · rw [if_neg h4]
          by_cases h5 : x < 248
          · rw [if_pos h5]; simp [h]
          · rw [if_neg h5]; simp [h]

theorem ones_l0 (l : List S27) (k0 : Nat) (hT : ∀ k, k0 ≤ k → gangwaylaw2_UtfOnes.l1 k l 0 = some true) : ∀ (d i : Nat), i + d = 256 → ∀ k, d + k0 + 20 < k → gangwaylaw2_UtfOnes.l0 k l (i : Int) = some true := by
  intro d
  induction d with
  | zero =>
    intro i hi k hk
    obtain ⟨k, rfl⟩ : ∃ m, k = m + 1 := ⟨k - 1, by omega⟩
    simp only [gangwaylaw2_UtfOnes.l0]
    rw [if_neg (by omega)]
    exact hT k (by omega)
  | succ d ih =>
    intro i hi k hk
    obtain ⟨k, rfl⟩ : ∃ m, k = m + 1 := ⟨k - 1, by omega⟩
    have hb : Bytes [(i : Int) % 256] := ⟨by simp, by intro x hx; simp at hx; omega⟩
    simp only [gangwaylaw2_UtfOnes.l0]
    unfold gangwaylaw2_num.f
    rw [if_pos (by omega), check_ev _ hb k (by simp; omega), Option.bind_some, Option.bind_some, w64 (by omega) (by omega), show ((i : Int) + 1) = ((i + 1 : Nat) : Int) by omega, ih (i + 1) (by omega) k (by omega)]
    have e : (i : Int) % 256 = (i : Int) := by omega
    rw [show ([(i : Int) % 256] : List Int).length = 1 from rfl, e, pts_one _ (by omega) (by omega)]
    by_cases h : (i : Int) < 128
    · simp [h]
    · simp [h]

theorem enc_shape {p : Int} (hp : May p) : (enc p).length = (if p < 128 then 1 else if p < 2048 then 2 else if p < 65536 then 3 else 4) := by
  unfold enc
  split
  · rfl
  · split
    · rfl
    · split <;> rfl

theorem head_cont {c : Int} (h : cont c) (r : List Int) : head (c :: r) = none := by
  unfold cont at h
  simp only [head]
  rw [if_neg (by omega), if_pos (by omega)]

theorem tail_none {p : Int} (hp : May p) (h : 1 < (enc p).length) (d : Nat) : pts d ((enc p).drop 1) = none := by
  obtain ⟨h0, h1, h2⟩ := hp
  unfold enc at h ⊢
  by_cases c1 : p < 128
  · rw [if_pos c1] at h; simp at h
  rw [if_neg c1] at h ⊢
  by_cases c2 : p < 2048
  · rw [if_pos c2]
    cases d with
    | zero => rfl
    | succ d => simp only [List.drop_succ_cons, List.drop_zero, pts]; rw [head_cont (by unfold cont; omega)]
  rw [if_neg c2]
  by_cases c3 : p < 65536
  · rw [if_pos c3]
    cases d with
    | zero => rfl
    | succ d => simp only [List.drop_succ_cons, List.drop_zero, pts]; rw [head_cont (by unfold cont; omega)]
  rw [if_neg c3]
  cases d with
  | zero => rfl
  | succ d => simp only [List.drop_succ_cons, List.drop_zero, pts]; rw [head_cont (by unfold cont; omega)]

theorem xor128 {c : Int} (h0 : 128 ≤ c) (h1 : c < 192) : Go.bits .xor .u8 c 128 = c - 128 := by
  have := byteall (fun c => !(decide (128 ≤ c) && decide (c < 192)) || (Go.bits .xor .u8 c 128 == c - 128)) (by decide +kernel) c (by omega) (by omega)
  simpa [h0, h1] using this

theorem flip_none {p : Int} (hp : May p) (j : Nat) (hj : 1 ≤ j) (hj2 : j < (enc p).length) (d : Nat) : pts d ((enc p).set j (Go.bits .xor .u8 ((enc p).getD j 0) 128)) = none := by
  obtain ⟨h0, h1, h2⟩ := hp
  unfold enc at hj2 ⊢
  have nc : ∀ x : Int, 0 ≤ x → x < 128 → ¬ cont x := fun x h0 h1 h => by unfold cont at h; omega
  have xr : ∀ x : Int, 0 ≤ x → x < 64 → Go.bits .xor .u8 (128 + x) 128 = x := fun x h0 h1 => by rw [xor128 (by omega) (by omega)]; omega
  by_cases c1 : p < 128
  · rw [if_pos c1] at hj2; simp at hj2; omega
  rw [if_neg c1] at hj2 ⊢
  by_cases c2 : p < 2048
  · rw [if_pos c2] at hj2 ⊢
    simp only [List.length_cons, List.length_nil] at hj2
    obtain rfl : j = 1 := by omega
    cases d with
    | zero => rfl
    | succ d =>
      simp only [List.set_cons_succ, List.set_cons_zero, List.getD_cons_succ, List.getD_cons_zero]
      rw [xr _ (by omega) (by omega)]
      simp only [pts, head]
      rw [if_neg (by omega), if_neg (by omega), if_pos (by omega), if_neg (fun h => nc _ (by omega) (by omega) h.1)]
  rw [if_neg c2] at hj2 ⊢
  by_cases c3 : p < 65536
  · rw [if_pos c3] at hj2 ⊢
    simp only [List.length_cons, List.length_nil] at hj2
    have hh : j = 1 ∨ j = 2 := by omega
    cases d with
    | zero => rcases hh with rfl | rfl <;> rfl
    | succ d =>
      rcases hh with rfl | rfl
      · simp only [List.set_cons_succ, List.set_cons_zero, List.getD_cons_succ, List.getD_cons_zero]
        rw [xr _ (by omega) (by omega)]
        simp only [pts, head]
        rw [if_neg (by omega), if_neg (by omega), if_neg (by omega), if_pos (by omega), if_neg (fun h => nc _ (by omega) (by omega) h.1)]
      · simp only [List.set_cons_succ, List.set_cons_zero, List.getD_cons_succ, List.getD_cons_zero]
        rw [xr _ (by omega) (by omega)]
        simp only [pts, head]
        rw [if_neg (by omega), if_neg (by omega), if_neg (by omega), if_pos (by omega), if_neg (fun h => nc _ (by omega) (by omega) h.2.1)]
  rw [if_neg c3] at hj2 ⊢
  simp only [List.length_cons, List.length_nil] at hj2
  have hh : j = 1 ∨ j = 2 ∨ j = 3 := by omega
  cases d with
  | zero => rcases hh with rfl | rfl | rfl <;> rfl
  | succ d =>
    rcases hh with rfl | rfl | rfl
    · simp only [List.set_cons_succ, List.set_cons_zero, List.getD_cons_succ, List.getD_cons_zero]
      rw [xr _ (by omega) (by omega)]
      simp only [pts, head]
      rw [if_neg (by omega), if_neg (by omega), if_neg (by omega), if_neg (by omega), if_pos (by omega), if_neg (fun h => nc _ (by omega) (by omega) h.1)]
    · simp only [List.set_cons_succ, List.set_cons_zero, List.getD_cons_succ, List.getD_cons_zero]
      rw [xr _ (by omega) (by omega)]
      simp only [pts, head]
      rw [if_neg (by omega), if_neg (by omega), if_neg (by omega), if_neg (by omega), if_pos (by omega), if_neg (fun h => nc _ (by omega) (by omega) h.2.1)]
    · simp only [List.set_cons_succ, List.set_cons_zero, List.getD_cons_succ, List.getD_cons_zero]
      rw [xr _ (by omega) (by omega)]
      simp only [pts, head]
      rw [if_neg (by omega), if_neg (by omega), if_neg (by omega), if_neg (by omega), if_pos (by omega), if_neg (fun h => nc _ (by omega) (by omega) h.2.2.1)]

theorem ones_l3 (l : List S27) (i j : Int) (p : Int) (hp : May p) (T : Option Bool) (k0 : Nat) (hT : ∀ k, k0 ≤ k → gangwaylaw2_UtfOnes.l2 k l i (wrap64 (j + 1)) = T) : ∀ (d c : Nat), 1 ≤ c → c + d = (enc p).length → ∀ k, d + k0 + 30 < k →
    gangwaylaw2_UtfOnes.l3 k l i j (enc p) ((enc p).length : Int) (c : Int) = T := by
  have hlen := enc_length p
  intro d
  induction d with
  | zero =>
    intro c hc hd k hk
    obtain ⟨k, rfl⟩ : ∃ m, k = m + 1 := ⟨k - 1, by omega⟩
    simp only [gangwaylaw2_UtfOnes.l3]
    rw [if_neg (by omega)]
    exact hT k (by omega)
  | succ d ih =>
    intro c hc hd k hk
    obtain ⟨k, rfl⟩ : ∃ m, k = m + 1 := ⟨k - 1, by omega⟩
    simp only [gangwaylaw2_UtfOnes.l3]
    unfold gangwaylaw2_num.f
    have hr := enc_range hp
    have hb : Bytes ((enc p).set c (Go.bits .xor .u8 ((enc p).getD c 0) 128)) := by
      refine ⟨by simp; omega, fun x hx => ?_⟩
      rcases List.mem_or_eq_of_mem_set hx with h | rfl
      · exact hr x h
      · have hg : 0 ≤ (enc p).getD c 0 ∧ (enc p).getD c 0 ≤ 255 := by
          rw [List.getD_eq_getElem?_getD, List.getElem?_eq_getElem (by omega)]
          exact hr _ (List.getElem_mem _)
        have := byteall (fun c => decide (0 ≤ Go.bits .xor .u8 c 128) && decide (Go.bits .xor .u8 c 128 ≤ 255)) (by decide +kernel) _ hg.1 hg.2
        simpa using this
    rw [if_pos (by omega), copy_ev _ (by omega) k (by omega), Option.bind_some, if_pos (by omega), if_pos (by omega), Int.toNat_natCast, rd_nat, check_ev _ hb k (by simp; omega), flip_none hp c hc (by omega)]
    have := ih (c + 1) (by omega) (by omega) k (by omega)
    rw [w64 (by omega) (by omega), show ((c : Int) + 1) = ((c + 1 : Nat) : Int) by omega]
    simpa using this

theorem ones_l2 (l : List S27) (i : Nat) (hi : i < l.length) (x : S27) (hx : rd_T27 l (i : Int) = x) (hf : x.f1.length ≤ 35184372088832) (T : Option Bool) (k0 : Nat) (hT : ∀ k, k0 ≤ k → gangwaylaw2_UtfOnes.l1 k l (wrap64 ((i : Int) + 1)) = T) :
    ∀ (d j : Nat), j + d = x.f1.length → ∀ k, 60 * d + k0 + 200 < k → gangwaylaw2_UtfOnes.l2 k l (i : Int) (j : Int) = T := by
  intro d
  induction d with
  | zero =>
    intro j hj k hk
    obtain ⟨k, rfl⟩ : ∃ m, k = m + 2 := ⟨k - 2, by omega⟩
    simp only [gangwaylaw2_UtfOnes.l2, gangwaylaw2_UtfOnes.j4]
    rw [if_pos (by omega), if_pos (by omega), hx, if_neg (by omega), if_neg (by simp)]
    exact hT k (by omega)
  | succ d ih =>
    intro j hj k hk
    obtain ⟨k, rfl⟩ : ∃ m, k = m + 6 := ⟨k - 6, by omega⟩
    simp only [gangwaylaw2_UtfOnes.l2]
    rw [if_pos (by omega), if_pos (by omega), hx, if_pos (by omega)]
    simp only [gangwaylaw2_UtfOnes.j4]
    by_cases h20 : (j : Int) < 20
    · rw [if_pos (by simpa using h20), if_pos (by omega), if_pos (by omega), hx, if_pos (by omega), if_pos (by omega)]
      generalize hpp : rd x.f1 (j : Int) = p
      have next : ∀ m, 60 * d + k0 + 200 < m → gangwaylaw2_UtfOnes.l2 m l (i : Int) (wrap64 ((j : Int) + 1)) = T := by
        intro m hm
        rw [w64 (by omega) (by omega), show ((j : Int) + 1) = ((j + 1 : Nat) : Int) by omega]
        exact ih (j + 1) (by omega) m hm
      rw [bytes_ev [p] (by simp) (k + 4) (by simp)]
      unfold gangwaylaw2_num.f
      simp only [List.mem_singleton, forall_eq, Option.bind_some]
      by_cases hm : May p
      · rw [if_pos hm]
        have e1 : txt [p] = enc p := by simp [txt]
        have hs := enc_shape hm
        have hlen := enc_length p
        simp only [if_true, e1]
        have hj7 : gangwaylaw2_UtfOnes.j7 (k + 2) l (i : Int) (j : Int) (enc p) ((enc p).length : Int) = T := by
          simp only [gangwaylaw2_UtfOnes.j7, if_true]
          have fin : gangwaylaw2_UtfOnes.j8 (k + 1) l (i : Int) (j : Int) (enc p) ((enc p).length : Int) false = T := by
            simp only [gangwaylaw2_UtfOnes.j8]
            rw [if_neg (by simp)]
            exact ones_l3 l i j p hm T (60 * d + k0 + 201) (fun m hm => next m (by omega)) ((enc p).length - 1) 1 (by omega) (by omega) k (by omega)
          by_cases h1 : ((enc p).length : Int) > 1
          · have hbd : Bytes ((enc p).drop 1) := ⟨by simp; omega, fun y hy => enc_range hm y (List.mem_of_mem_drop hy)⟩
            unfold gangwaylaw2_num.f
            rw [if_pos h1, if_pos (by omega), check_ev _ hbd (k + 1) (by simp; omega), tail_none hm (by omega)]
            simpa using fin
          · rw [if_neg h1]
            exact fin
        by_cases c1 : p ≥ 128
        · rw [if_pos c1]
          simp only [gangwaylaw2_UtfOnes.j5]
          by_cases c2 : p ≥ 2048
          · rw [if_pos c2]
            simp only [gangwaylaw2_UtfOnes.j6]
            by_cases c3 : p ≥ 65536
            · rw [if_pos c3]
              rw [hs, if_neg (by omega), if_neg (by omega), if_neg (by omega)] at hj7
              exact hj7
            · rw [if_neg c3]
              rw [hs, if_neg (by omega), if_neg (by omega), if_pos (by omega)] at hj7
              exact hj7
          · rw [if_neg c2]
            simp only [gangwaylaw2_UtfOnes.j6]
            rw [if_neg (by omega)]
            rw [hs, if_neg (by omega), if_pos (by omega)] at hj7
            exact hj7
        · rw [if_neg c1]
          simp only [gangwaylaw2_UtfOnes.j5]
          rw [if_neg (by omega)]
          simp only [gangwaylaw2_UtfOnes.j6]
          rw [if_neg (by omega)]
          rw [hs, if_pos (by omega)] at hj7
          exact hj7
      · rw [if_neg hm]
        have nx := next (k + 4) (by omega)
        unfold May at hm
        simp only
        rw [if_neg (by decide)]
        by_cases c1 : p ≥ 0
        · rw [if_pos c1, if_neg (by omega)]
          by_cases c2 : p > 57343
          · rw [if_pos c2, if_neg (by omega)]; exact nx
          · rw [if_neg c2]; exact nx
        · rw [if_neg c1, if_neg (by omega)]; exact nx
    · rw [if_neg (by simpa using h20)]
      exact hT (k + 4) (by omega)

theorem ones_l1 (l : List S27) (hl : l.length * 48 ≤ 140737488351232) (hok : ∀ x ∈ l, okT27 x) (M : Nat) (hM : ∀ x ∈ l, x.f1.length ≤ M) : ∀ (d i : Nat), i + d = l.length → ∀ k, (60 * M + 300) * d + 100 < k → gangwaylaw2_UtfOnes.l1 k l (i : Int) = some true := by
  intro d
  induction d with
  | zero =>
    intro i hi k hk
    obtain ⟨k, rfl⟩ : ∃ m, k = m + 2 := ⟨k - 2, by omega⟩
    simp only [gangwaylaw2_UtfOnes.l1, gangwaylaw2_UtfOnes.j2]
    rw [if_neg (by omega), if_neg (by simp), wakes_ev k (by omega)]
    rfl
  | succ d ih =>
    intro i hi k hk
    have e : (60 * M + 300) * (d + 1) = (60 * M + 300) * d + (60 * M + 300) := by rw [Nat.mul_add, Nat.mul_one]
    obtain ⟨k, rfl⟩ : ∃ m, k = m + 2 := ⟨k - 2, by omega⟩
    simp only [gangwaylaw2_UtfOnes.l1]
    rw [if_pos (by omega)]
    simp only [gangwaylaw2_UtfOnes.j2]
    by_cases h20 : (i : Int) < 20
    · rw [if_pos (by simpa using h20)]
      have hm : rd_T27 l (i : Int) ∈ l := by
        unfold rd_T27
        rw [show (i : Int).toNat = i from rfl, List.getD_eq_getElem?_getD, List.getElem?_eq_getElem (by omega)]
        exact List.getElem_mem _
      obtain ⟨_, hf, _⟩ := hok _ hm
      have hMx := hM _ hm
      refine ones_l2 l i (by omega) _ rfl (by omega) (some true) ((60 * M + 300) * d + 101) ?_ (rd_T27 l (i : Int)).f1.length 0 (by omega) k (by omega)
      intro m hm
      rw [w64 (by omega) (by omega), show ((i : Int) + 1) = ((i + 1 : Nat) : Int) by omega]
      exact ih (i + 1) (by omega) m (by omega)
    · rw [if_neg (by simpa using h20), wakes_ev k (by omega)]
      rfl

theorem exists_max (l : List S27) : ∃ M, ∀ x ∈ l, x.f1.length ≤ M := by
  induction l with
  | nil => exact ⟨0, by simp⟩
  | cons y l ih =>
    obtain ⟨M, hM⟩ := ih
    refine ⟨M + y.f1.length, fun x hx => ?_⟩
    rcases List.mem_cons.1 hx with rfl | hx
    · omega
    · have := hM x hx; omega

theorem UtfOnes : gangwaylaw2_UtfOnes.Pure := by
  intro l ⟨hl, hok⟩
  obtain ⟨M, hM⟩ := exists_max l
  exact ⟨256 + ((60 * M + 300) * l.length + 101) + 21, ones_l0 l ((60 * M + 300) * l.length + 101) (fun k hk => ones_l1 l hl hok M hM l.length 0 (by omega) k (by omega)) 256 0 (by omega) _ (by omega)⟩

end Go.Proofs.Ytlggampmmlkkeaa.Pure
