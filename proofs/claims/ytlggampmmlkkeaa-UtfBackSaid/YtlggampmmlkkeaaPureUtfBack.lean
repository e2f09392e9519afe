/- Code points' bytes are read as them; what is read is told as just these bytes; two texts side by side are one; cut within a sign it is none: for every list of asks. -/
import Derived.Test.YtlggampmmlkkeaaPAllx7
import Derived.Test.YtlggampmmlkkeaaQUtfR
namespace Go.Proofs.Ytlggampmmlkkeaa.Pure
open Go.RowKit Go.Proofs.Ytlggampmmlkkeaa.PAll Go.Proofs.YtlggampmmlkkeaaW.PrintWords Go.Proofs.YtlggampmmlkkeaaW.PrintLast Go.Proofs.YtlggampmmlkkeaaW.PrintMore Go.Proofs.YtlggampmmlkkeaaU Go.Proofs.Ytlggampmmlkkeaa.Q
set_option linter.unusedVariables false
set_option maxRecDepth 20000

theorem txt_len : ∀ (l : List Int), l.length ≤ (txt l).length ∧ (txt l).length ≤ 4 * l.length
  | [] => by simp [txt]
  | p :: l => by
    have := enc_length p
    have h := txt_len l
    have e : txt (p :: l) = enc p ++ txt l := rfl
    rw [e, List.length_append, List.length_cons]
    omega
theorem txt_bytes {l : List Int} (h : ∀ p ∈ l, May p) (hl : l.length < 20000) : Bytes (txt l) := by
  refine ⟨by have := txt_len l; omega, fun x hx => ?_⟩
  obtain ⟨p, hp, hx⟩ := List.mem_flatMap.1 hx
  exact enc_range (h p hp) x hx
theorem txt_append (a b : List Int) : txt (a ++ b) = txt a ++ txt b := by simp [txt]
theorem pts_of {l : List Int} (h : ∀ p ∈ l, May p) : pts (txt l).length (txt l) = some l := pts_txt l _ (txt_len l).1 h

/-- A point's bytes but the last are no text, behind whatever may be. -/
theorem enc_cut {p : Int} (hp : May p) (h : 128 ≤ (enc p).getD ((enc p).length - 1) 0) : ∀ d, pts d ((enc p).take ((enc p).length - 1)) = none := by
  obtain ⟨h0, h1, h2⟩ := hp
  unfold enc at h ⊢
  intro d
  by_cases c1 : p < 128
  · rw [if_pos c1] at h; simp at h; omega
  rw [if_neg c1] at h ⊢
  by_cases c2 : p < 2048
  · rw [if_pos c2]
    cases d with
    | zero => rfl
    | succ d =>
      simp only [List.length_cons, List.length_nil, Nat.zero_add, Nat.reduceAdd, Nat.add_one_sub_one, List.take_succ_cons, List.take_zero, pts, head]
      rw [if_neg (by omega), if_neg (by omega), if_pos (by omega)]
  rw [if_neg c2] at h ⊢
  by_cases c3 : p < 65536
  · rw [if_pos c3]
    cases d with
    | zero => rfl
    | succ d =>
      simp only [List.length_cons, List.length_nil, Nat.zero_add, Nat.reduceAdd, Nat.add_one_sub_one, List.take_succ_cons, List.take_zero, pts, head]
      rw [if_neg (by omega), if_neg (by omega), if_neg (by omega), if_pos (by omega)]
  rw [if_neg c3] at h ⊢
  cases d with
  | zero => rfl
  | succ d =>
    simp only [List.length_cons, List.length_nil, Nat.zero_add, Nat.reduceAdd, Nat.add_one_sub_one, List.take_succ_cons, List.take_zero, pts, head]
    rw [if_neg (by omega), if_neg (by omega), if_neg (by omega), if_neg (by omega), if_pos (by omega)]

theorem pts_pre : ∀ (l : List Int) (d : Nat) (r : List Int), (∀ p ∈ l, May p) → (∀ d, pts d r = none) → pts d (txt l ++ r) = none
  | [], d, r, _, hr => hr d
  | p :: l, 0, r, _, hr => by
    have hl := enc_length p
    cases h : txt (p :: l) ++ r with
    | nil =>
      have h1 := congrArg List.length h
      have e : txt (p :: l) = enc p ++ txt l := rfl
      rw [e, List.length_append, List.length_append, List.length_nil] at h1
      omega
    | cons c s => rfl
  | p :: l, d + 1, r, hm, hr => by
    have hl := enc_length p
    have e : txt (p :: l) ++ r = enc p ++ (txt l ++ r) := by show (enc p ++ txt l) ++ r = _; rw [List.append_assoc]
    obtain ⟨c, s, hc⟩ : ∃ c s, enc p ++ (txt l ++ r) = c :: s := by
      cases h' : enc p ++ (txt l ++ r) with
      | nil => have h1 := congrArg List.length h'; rw [List.length_append, List.length_nil] at h1; omega
      | cons c s => exact ⟨c, s, rfl⟩
    rw [e, hc, pts, ← hc, head_enc (hm p (by simp))]
    · simp only [List.drop_left]
      rw [pts_pre l d r (fun q hq => hm q (by simp [hq])) hr]
      rfl
    · intro h; cases h

theorem cut_none {l : List Int} (hm : ∀ p ∈ l, May p) (hne : 0 < (txt l).length) (h : 128 ≤ (txt l).getD ((txt l).length - 1) 0) (d : Nat) : pts d ((txt l).take ((txt l).length - 1)) = none := by
  rcases List.eq_nil_or_concat l with rfl | ⟨m, p, rfl⟩
  · simp [txt] at hne
  · rw [List.concat_eq_append] at *
    have e : txt (m ++ [p]) = txt m ++ enc p := by rw [txt_append]; simp [txt]
    have hl := enc_length p
    rw [e] at h ⊢
    rw [List.length_append] at h ⊢
    have e2 : (txt m).length + (enc p).length - 1 = (txt m).length + ((enc p).length - 1) := by omega
    rw [e2] at h ⊢
    rw [List.take_length_add_append]
    have hg : (txt m ++ enc p).getD ((txt m).length + ((enc p).length - 1)) 0 = (enc p).getD ((enc p).length - 1) 0 := by
      rw [List.getD_eq_getElem?_getD, List.getD_eq_getElem?_getD, List.getElem?_append_right (by omega), Nat.add_sub_cancel_left]
    rw [hg] at h
    exact pts_pre m d _ (fun q hq => hm q (by simp [hq])) (enc_cut (hm p (by simp)) h)

theorem bytes_take {b : List Int} (h : Bytes b) (n : Nat) : Bytes (b.take n) := ⟨by have := h.1; simp; omega, fun x hx => h.2 x (List.mem_of_mem_take hx)⟩

theorem back_j4 (l : List S27) (i : Nat) (k : Nat) (hk : 60000 ≤ k) (next : gangwaylaw2_UtfBack.l0 k l (wrap64 ((i : Int) + 1)) = some true) (L P : List Int) (hL1 : L.length ≤ 1000) (hP1 : P.length ≤ 3000) (hP : ∀ p ∈ P, May p)
    (b : List Int) (e : Int) (hb : if ∀ p ∈ L, May p then b = txt L ∧ e = 0 else e = 100) : gangwaylaw2_UtfBack.j4 (k + 1) l (i : Int) b e (txt P) false = some true := by
  simp only [gangwaylaw2_UtfBack.j4]
  unfold gangwaylaw2_num.f
  rw [if_neg (by simp), Option.bind_some]
  by_cases hL : ∀ p ∈ L, May p
  · rw [if_pos hL] at hb
    obtain ⟨rfl, rfl⟩ := hb
    have hall : ∀ p ∈ P ++ L, May p := by intro p hp; rcases List.mem_append.1 hp with h | h; exact hP p h; exact hL p h
    have hby : Bytes (txt (P ++ L)) := txt_bytes hall (by rw [List.length_append]; omega)
    have l1 := txt_len P
    have l2 := txt_len L
    have hp := pts_of hall
    rw [txt_append] at hp hby
    rw [if_pos rfl, if_pos (by omega), check_ev _ hby k (by rw [List.length_append]; omega), Option.bind_some, hp]
    simpa using next
  · rw [if_neg hL] at hb
    rw [if_neg (by omega)]
    exact next

theorem back_j3 (l : List S27) (i : Nat) (hi : i < l.length) (x : S27) (hx : rd_T27 l (i : Int) = x) (hb0 : Bytes x.f0) (h0 : x.f0.length ≤ 3000) (h1 : x.f1.length ≤ 1000) (k : Nat) (hk : 60000 ≤ k)
    (next : gangwaylaw2_UtfBack.l0 k l (wrap64 ((i : Int) + 1)) = some true) (next1 : gangwaylaw2_UtfBack.l0 (k + 1) l (wrap64 ((i : Int) + 1)) = some true)
    (b : List Int) (e : Int) (hb : if ∀ p ∈ x.f1, May p then b = txt x.f1 ∧ e = 0 else e = 100) : gangwaylaw2_UtfBack.j3 (k + 2) l (i : Int) b e = some true := by
  simp only [gangwaylaw2_UtfBack.j3]
  unfold gangwaylaw2_num.f
  rw [if_pos (by omega), if_pos (by omega), hx, points_ev x.f0 hb0 (k + 1) (by omega), Option.bind_some, Option.bind_some]
  cases hp : pts x.f0.length x.f0 with
  | none =>
    simpa [outP] using next1
  | some P =>
    obtain ⟨hm, hbe⟩ := pts_some _ _ _ (fun y hy => (hb0.2 y hy).1) hp
    have hl := txt_len P
    have hl2 : P.length ≤ 3000 := by rw [← hbe] at hl; omega
    simp only [outP, if_true]
    rw [bytes_ev P (by omega) (k + 1) (by omega), if_pos hm]
    simp only [Option.bind_some, if_true]
    rw [← hbe, eqb_ev _ _ (by omega) (k + 1) (by omega), Option.bind_some]
    simp only [decide_true, Bool.not_true]
    rw [hbe]
    exact back_j4 l i k hk next x.f1 P h1 hl2 hm b e hb

theorem UtfBack_l0 (l : List S27) (hl : l.length * 48 ≤ 140737488351232) (hok : ∀ x ∈ l, okT27 x) : ∀ (d i : Nat), i + d = l.length → ∀ k, 10 * d + 61000 < k → gangwaylaw2_UtfBack.l0 k l (i : Int) = some true := by
  intro d
  induction d with
  | zero =>
    intro i hi k hk
    obtain ⟨k, rfl⟩ : ∃ m, k = m + 2 := ⟨k - 2, by omega⟩
    simp only [gangwaylaw2_UtfBack.l0]
    rw [if_neg (by omega)]
    simp only [gangwaylaw2_UtfBack.j1]
    rw [if_neg (by simp), wakes_ev k (by omega)]
    rfl
  | succ d ih =>
    intro i hi k hk
    obtain ⟨k, rfl⟩ : ∃ m, k = m + 5 := ⟨k - 5, by omega⟩
    simp only [gangwaylaw2_UtfBack.l0]
    rw [if_pos (by omega)]
    simp only [gangwaylaw2_UtfBack.j1]
    by_cases h20 : (i : Int) < 20
    · rw [if_pos (by simpa using h20), if_pos (by omega), if_pos (by omega)]
      have hx : okT27 (rd_T27 l (i : Int)) := by
        unfold rd_T27
        rw [show (i : Int).toNat = i from rfl, List.getD_eq_getElem?_getD, List.getElem?_eq_getElem (by omega)]
        exact hok _ (List.getElem_mem _)
      generalize hxx : rd_T27 l (i : Int) = x at hx ⊢
      obtain ⟨⟨_, hby⟩, _⟩ := hx
      unfold gangwaylaw2_heavy.f
      by_cases hh : (x.f0.length : Int) > 3000
      · rw [if_pos hh]; rfl
      rw [if_neg hh, Option.bind_some]
      by_cases hh2 : (x.f1.length : Int) > 1000
      · rw [if_pos (by simpa using hh2)]
      rw [if_neg (by simpa using hh2)]
      have hb : Bytes x.f0 := ⟨by omega, fun y hy => bd8 (hby y hy)⟩
      have next : ∀ j, k ≤ j → gangwaylaw2_UtfBack.l0 j l (wrap64 ((i : Int) + 1)) = some true := by
        intro j hj
        rw [w64 (by omega) (by omega)]
        exact ih (i + 1) (by omega) j (by omega)
      rw [bytes_ev x.f1 (by omega) (k + 3) (by omega), Option.bind_some]
      have j3 := fun b e hbe => back_j3 l i (by omega) x hxx hb (by omega) (by omega) k (by omega) (next k (by omega)) (next (k + 1) (by omega)) b e hbe
      have j3' := fun b e hbe => back_j3 l i (by omega) x hxx hb (by omega) (by omega) (k + 1) (by omega) (next (k + 1) (by omega)) (next (k + 2) (by omega)) b e hbe
      by_cases hL : ∀ p ∈ x.f1, May p
      · rw [if_pos hL]
        unfold gangwaylaw2_num.f
        have hlt := txt_len x.f1
        have hbt : Bytes (txt x.f1) := txt_bytes hL (by omega)
        simp only [Option.bind_some, if_true]
        rw [points_ev _ hbt (k + 3) (by omega), pts_of hL]
        simp only [outP, Option.bind_some, if_true]
        rw [eqp_ev _ _ (by omega) (k + 3) (by omega), Option.bind_some]
        simp only [decide_true, Bool.not_true, gangwaylaw2_UtfBack.j2]
        rw [if_neg (by simp)]
        have fin : gangwaylaw2_UtfBack.j3 (k + 2) l (i : Int) (txt x.f1) 0 = some true := j3 _ _ (by rw [if_pos hL]; exact ⟨rfl, rfl⟩)
        by_cases hz : ((txt x.f1).length : Int) > 0
        · have e1 : wrap64 (((txt x.f1).length : Int) - 1) = (((txt x.f1).length - 1 : Nat) : Int) := by rw [w64 (by omega) (by omega)]; omega
          rw [if_pos hz, e1, if_pos (by omega), if_pos (by omega), rd_nat]
          by_cases hc : (txt x.f1).getD ((txt x.f1).length - 1) 0 ≥ 128
          · rw [if_pos hc, if_pos (by omega), Int.toNat_natCast, check_ev _ (bytes_take hbt ((txt x.f1).length - 1)) (k + 2) (by rw [List.length_take]; omega), cut_none hL (by omega) hc]
            simpa [gangwaylaw2_num.f] using fin
          · rw [if_neg hc]
            exact fin
        · rw [if_neg hz]
          exact fin
      · rw [if_neg hL]
        unfold gangwaylaw2_num.f
        simp only [Option.bind_some]
        rw [if_neg (by omega)]
        exact j3' _ _ (by rw [if_neg hL])
    · rw [if_neg (by simpa using h20), wakes_ev (k + 3) (by omega)]
      rfl

theorem UtfBack : gangwaylaw2_UtfBack.Pure := by
  intro l ⟨hl, hok⟩
  exact ⟨10 * l.length + 61001, UtfBack_l0 l hl hok l.length 0 (by omega) _ (by omega)⟩

end Go.Proofs.Ytlggampmmlkkeaa.Pure
