import Derived.Test.YtlahigmoljflkaaPAllx1
import Derived.Test.YtlahigmoljflkaaQEnc
/- How much instructions weigh, and how many bytes they have at most. -/
namespace Go.Proofs.Ytlahigmoljflkaa.Q
open Go.RowKit Go.Proofs.Ytlahigmoljflkaa.PAll Go.Proofs.YtlahigmoljflkaaW.PrintWords Go.Proofs.YtlahigmoljflkaaW.PrintLast Go.Proofs.YtlahigmoljflkaaW.PrintMore Go.Proofs.YtlahigmoljflkaaU
set_option linter.unusedVariables false

theorem Ev.same {α : Type} {g : Nat → Option α} {a b : α} (h : Ev g a) (h' : Ev g b) : a = b := by
  obtain ⟨n, h⟩ := h
  obtain ⟨m, h'⟩ := h'
  have h1 := h (max n m) (by omega)
  have h2 := h' (max n m) (by omega)
  rw [h1] at h2
  exact Option.some.inj h2
/-- The weight, as deep as d blocks. -/
def wtI : Nat → S45 → Nat
  | 0, x => 1 + x.f6.length
  | d + 1, x => 1 + x.f6.length + (x.f7.map (wtI d)).sum + (x.f8.map (wtI d)).sum
theorem flat_len {α : Type} (f : α → List Int) (w : α → Nat) (c : Nat) : ∀ l : List α, (∀ y ∈ l, (f y).length ≤ c * w y) → (l.flatMap f).length ≤ c * (l.map w).sum
  | [], _ => by simp
  | y :: l, h => by
    rw [List.flatMap_cons, List.length_append, List.map_cons, List.sum_cons, Nat.mul_add]
    have h1 := h y (List.mem_cons_self ..)
    have h2 := flat_len f w c l (fun z hz => h z (List.mem_cons_of_mem _ hz))
    omega
theorem labels_len (l : List Int) : (l.flatMap (pu 9)).length ≤ 10 * l.length := by
  induction l with
  | nil => simp
  | cons n l ih =>
    rw [List.flatMap_cons, List.length_append, List.length_cons]
    have := pu_length 9 n
    omega
theorem encB_len (rec : List S45 → List Int) (x : S45) (a b : Nat) (h7 : (shp x.f0 = 2 ∨ shp x.f0 = 3) → (rec x.f7).length ≤ a) (h8 : (shp x.f0 = 2 ∨ shp x.f0 = 3) → 0 < x.f8.length → (rec x.f8).length ≤ b) : (encB rec x).length ≤ 40 * (1 + x.f6.length) + a + b := by
  unfold encB
  rw [List.length_append, List.length_singleton]
  have p2 := pu_length 9 x.f2
  have p3 := pu_length 9 x.f3
  have p4 := pu_length 9 x.f4
  have p5 := ps_length 9 x.f5
  have p6 := pu_length 9 (x.f6.length : Int)
  have p7 := labels_len x.f6
  split
  · rename_i h
    have h7' := h7 h
    have h8' := h8 h
    simp only [List.length_append, List.length_singleton]
    split
    · rename_i h9
      have := h8' h9
      simp only [List.length_append, List.length_singleton]
      omega
    · simp only [List.length_nil]
      omega
  · repeat' split
    all_goals ((try simp only [List.length_append, List.length_singleton, List.length_nil]); omega)
theorem encI_len : ∀ (d : Nat) (x : S45), mayI d x = true → (encI d x).length ≤ 40 * wtI d x := by
  intro d
  induction d with
  | zero =>
    intro x h
    have hb := mayB_word (rec := fun _ => false) h
    have := encB_len (fun _ => []) x 0 0 (fun _ => Nat.le_refl _) (fun _ _ => Nat.le_refl _)
    show (encB (fun _ => []) x).length ≤ 40 * (1 + x.f6.length)
    omega
  | succ d ih =>
    intro x h
    have hb := mayB_word (rec := fun l => l.all (mayI d)) h
    have h1 := encB_len (fun l => l.flatMap (encI d)) x (40 * (x.f7.map (wtI d)).sum) (40 * (x.f8.map (wtI d)).sum) (fun hs => by
      have h7 := (hb.2.2.2 hs).1
      exact flat_len _ _ _ _ (fun y hy => ih y (List.all_eq_true.1 h7 y hy))) (fun hs h0 => by
      obtain ⟨_, h8, h8'⟩ := hb.2.2.2 hs
      rcases Decidable.em (x.f0 = 4) with h4 | h4
      · exact flat_len _ _ _ _ (fun y hy => ih y (List.all_eq_true.1 (h8 h4) y hy))
      · have := h8' h4
        omega)
    show (encB (fun l => l.flatMap (encI d)) x).length ≤ 40 * (1 + x.f6.length + (x.f7.map (wtI d)).sum + (x.f8.map (wtI d)).sum)
    omega
/-- What may be told of a weight. -/
def Wt (n r : Int) (w : Nat) : Prop := 0 ≤ r ∧ r ≤ 4611686018427387904 ∧ (100000 ≤ n → r = n) ∧ (n < 100000 → n ≤ r ∧ (r < 100000 → r = n + (w : Int)))
theorem Wt.cut {n r : Int} {w : Nat} (h0 : 0 ≤ n) (h : n ≤ 4611686018427387904) (hn : ¬ n < 100000) : Wt n n w := ⟨h0, h, fun _ => rfl, fun h => absurd h hn⟩
theorem wl2_ev (l : List S45) (hl : l.length ≤ 9223372036854775806) (dp : Int) (w : S45 → Nat) (h6 : ∀ y ∈ l, y.f6.length * 8 ≤ 140737488351232) (w7 w8 : S45 → Nat) (hw : ∀ y ∈ l, w y = 1 + y.f6.length + w7 y + w8 y)
    (hq : ∀ y ∈ l, ∀ n : Int, 0 ≤ n → n ≤ 4611686018427387904 → (∃ r, Ev (fun k => gangwaylaw0_Weight.f k y.f7 n (wrap64 (dp + 1))) r ∧ Wt n r (w7 y)) ∧ (∃ r, Ev (fun k => gangwaylaw0_Weight.f k y.f8 n (wrap64 (dp + 1))) r ∧ Wt n r (w8 y))) :
    ∀ (d j : Nat), j + d = l.length → ∀ n : Int, 0 ≤ n → n ≤ 4611686018427387904 → ∃ r, Ev (fun k => gangwaylaw0_Weight.l0 k l n dp (j : Int)) r ∧ Wt n r ((l.drop j).map w).sum := by
  intro d
  induction d with
  | zero =>
    intro j hj n h0 h1
    refine ⟨n, ?_, ?_⟩
    · refine Ev.step (fun k => by rw [gangwaylaw0_Weight.l0]) ?_
      refine Ev.ifn (by omega) ?_
      refine Ev.step (fun k => by rw [gangwaylaw0_Weight.j1]) ?_
      exact Ev.ifn (by decide) (Ev.now _)
    · rw [List.drop_eq_nil_of_le (by omega)]
      exact ⟨h0, h1, fun _ => rfl, fun h => ⟨Int.le_refl _, fun _ => by simp⟩⟩
  | succ d ih =>
    intro j hj n h0 h1
    have hlt : j < l.length := by omega
    have e3 : wrap64 ((j : Int) + 1) = ((j + 1 : Nat) : Int) := by rw [w64 (by omega) (by omega)]; omega
    have hg := rdT_nat l j hlt
    have hd : l.drop j = l[j]'hlt :: l.drop (j + 1) := List.drop_eq_getElem_cons (by omega)
    have hy := List.getElem_mem hlt
    by_cases hn : n < 100000
    · have hl6 := h6 _ hy
      have e6 : wrap64 (wrap64 (n + 1) + ((l[j]'hlt).f6.length : Int)) = n + 1 + ((l[j]'hlt).f6.length : Int) := by
        rw [w64 (x := n + 1) (by omega) (by omega), w64 (by omega) (by omega)]
      obtain ⟨r1, h11, q1, q2, q3, q4⟩ := (hq _ hy (n + 1 + ((l[j]'hlt).f6.length : Int)) (by omega) (by omega)).1
      obtain ⟨r2, h22, p1, p2, p3, p4⟩ := (hq _ hy r1 q1 q2).2
      obtain ⟨r, h, s1, s2, s3, s4⟩ := ih (j + 1) (by omega) r2 p1 p2
      refine ⟨r, ?_, s1, s2, fun h => by omega, fun _ => ?_⟩
      · refine Ev.step (fun k => by rw [gangwaylaw0_Weight.l0]) ?_
        refine Ev.ifp (by omega) ?_
        refine Ev.step (fun k => by rw [gangwaylaw0_Weight.j1]) ?_
        refine Ev.ifp (decide_eq_true hn) (Ev.ifp (by omega) (Ev.ifp (by omega) ?_))
        rw [hg, e6]
        refine Ev.bd h11 ?_
        refine Ev.bd h22 ?_
        rw [e3]
        exact h
      · have hww := hw _ hy
        rw [hd, List.map_cons, List.sum_cons]
        omega
    · refine ⟨n, ?_, Wt.cut (r := n) h0 h1 hn⟩
      refine Ev.step (fun k => by rw [gangwaylaw0_Weight.l0]) ?_
      refine Ev.ifp (by omega) ?_
      refine Ev.step (fun k => by rw [gangwaylaw0_Weight.j1]) ?_
      exact Ev.ifn (by rw [decide_eq_false hn]; decide) (Ev.now _)
theorem okT_len {x : S45} (h : okT45 x) : x.f6.length * 8 ≤ 140737488351232 := by
  obtain ⟨n, h⟩ := h
  cases n with
  | zero => exact h.elim
  | succ n => exact h.2.2.2.2.2.2.1.1
theorem mayB_kids {rec : List S45 → Bool} {x : S45} (h : mayB rec x = true) : (rec x.f7 = true ∨ x.f7 = []) ∧ (rec x.f8 = true ∨ x.f8 = []) := by
  have e7 : x.f7.length = 0 → x.f7 = [] := List.eq_nil_of_length_eq_zero
  have e8 : x.f8.length = 0 → x.f8 = [] := List.eq_nil_of_length_eq_zero
  unfold mayB at h
  split at h
  · have h := of_decide_eq_true h
    refine ⟨Or.inl h.2.1, ?_⟩
    rcases Decidable.em (x.f0 = 4) with h4 | h4
    · exact Or.inl (h.2.2.1 h4)
    · exact Or.inr (e8 (h.2.2.2.1 h4))
  · split at h
    · have h := of_decide_eq_true h
      exact ⟨Or.inr (e7 h.2.2.2.2.2.2.1), Or.inr (e8 h.2.2.2.2.2.2.2)⟩
    · split at h
      · have h := of_decide_eq_true h
        exact ⟨Or.inr (e7 h.2.2.2.2.2.2.1), Or.inr (e8 h.2.2.2.2.2.2.2)⟩
      · split at h
        · have h := of_decide_eq_true h
          exact ⟨Or.inr (e7 h.2.2.2.2.2.2.1), Or.inr (e8 h.2.2.2.2.2.2.2)⟩
        · split at h
          · have h := of_decide_eq_true h
            exact ⟨Or.inr (e7 h.2.2.2.2.2.2.1), Or.inr (e8 h.2.2.2.2.2.2.2)⟩
          · split at h
            · have h := of_decide_eq_true h
              exact ⟨Or.inr (e7 h.2.2.2.2.2.1), Or.inr (e8 h.2.2.2.2.2.2)⟩
            · split at h
              · have h := of_decide_eq_true h
                exact ⟨Or.inr (e7 h.2.2.2.2.2.2.1), Or.inr (e8 h.2.2.2.2.2.2.2)⟩
              · exact absurd h (by decide)
theorem wempty_ev (n dp : Int) (h : dp ≤ 60) : Ev (fun k => gangwaylaw0_Weight.f k [] n dp) n := by
  refine Ev.step (fun k => by rw [gangwaylaw0_Weight.f]) ?_
  refine Ev.ifn (by omega) ?_
  refine Ev.step (fun k => by rw [gangwaylaw0_Weight.l0]) ?_
  refine Ev.ifn (by simp) ?_
  refine Ev.step (fun k => by rw [gangwaylaw0_Weight.j1]) ?_
  exact Ev.ifn (by decide) (Ev.now _)
theorem Wt.none {n : Int} (h0 : 0 ≤ n) (h1 : n ≤ 4611686018427387904) : Wt n n 0 := ⟨h0, h1, fun _ => rfl, fun _ => ⟨Int.le_refl _, fun _ => by simp⟩⟩
theorem weight2_ev : ∀ (d : Nat) (l : List S45), l.length ≤ 9223372036854775806 → (∀ y ∈ l, okT45 y) → l.all (mayI d) = true → ∀ dp : Int, 0 ≤ dp → dp + d ≤ 50 → ∀ n : Int, 0 ≤ n → n ≤ 4611686018427387904 →
    ∃ r, Ev (fun k => gangwaylaw0_Weight.f k l n dp) r ∧ Wt n r (l.map (wtI d)).sum := by
  intro d
  induction d with
  | zero =>
    intro l hl hok hm dp hd0 hd n h0 h1
    have e1 : wrap64 (dp + 1) = dp + 1 := w64 (by omega) (by omega)
    obtain ⟨r, h, hw⟩ := wl2_ev l hl dp (wtI 0) (fun y hy => okT_len (hok y hy)) (fun _ => 0) (fun _ => 0) (fun y hy => by rfl) (fun y hy n h0 h1 => by
      have hk := mayB_kids (rec := fun _ => false) (List.all_eq_true.1 hm y hy)
      have k7 : y.f7 = [] := hk.1.resolve_left (by decide)
      have k8 : y.f8 = [] := hk.2.resolve_left (by decide)
      rw [k7, k8, e1]
      exact ⟨⟨n, wempty_ev n _ (by omega), Wt.none h0 h1⟩, ⟨n, wempty_ev n _ (by omega), Wt.none h0 h1⟩⟩) l.length 0 (by omega) n h0 h1
    refine ⟨r, ?_, hw⟩
    refine Ev.step (fun k => by rw [gangwaylaw0_Weight.f]) ?_
    exact Ev.ifn (by omega) h
  | succ d ih =>
    intro l hl hok hm dp hd0 hd n h0 h1
    have e1 : wrap64 (dp + 1) = dp + 1 := w64 (by omega) (by omega)
    obtain ⟨r, h, hw⟩ := wl2_ev l hl dp (wtI (d + 1)) (fun y hy => okT_len (hok y hy)) (fun y => (y.f7.map (wtI d)).sum) (fun y => (y.f8.map (wtI d)).sum) (fun y hy => rfl) (fun y hy n h0 h1 => by
      have hk := mayB_kids (rec := fun l => l.all (mayI d)) (List.all_eq_true.1 hm y hy)
      obtain ⟨_, _, h7, h8⟩ := okT_open2 (hok y hy)
      rw [e1]
      constructor
      · rcases hk.1 with hk | hk
        · exact ih _ h7.1 h7.2 hk (dp + 1) (by omega) (by omega) n h0 h1
        · rw [hk]
          exact ⟨n, wempty_ev n _ (by omega), Wt.none h0 h1⟩
      · rcases hk.2 with hk | hk
        · exact ih _ h8.1 h8.2 hk (dp + 1) (by omega) (by omega) n h0 h1
        · rw [hk]
          exact ⟨n, wempty_ev n _ (by omega), Wt.none h0 h1⟩) l.length 0 (by omega) n h0 h1
    refine ⟨r, ?_, hw⟩
    refine Ev.step (fun k => by rw [gangwaylaw0_Weight.f]) ?_
    exact Ev.ifn (by omega) h
/-- What may be and isn't heavy has few bytes. -/
theorem light_len (l : List S45) (b : List Int) (hl : l.length ≤ 9223372036854775806) (hok : ∀ y ∈ l, okT45 y) (hm : l.all (mayI 40) = true) (h : Ev (fun k => gangwaylaw5_heavy.f k l b) false) : (l.flatMap (encI 40)).length ≤ 80000 ∧ b.length ≤ 4000 := by
  obtain ⟨r, hr, hw⟩ := weight2_ev 40 l hl hok hm 0 (by omega) (by omega) 0 (by omega) (by omega)
  have hlen := flat_len (encI 40) (wtI 40) 40 l (fun y hy => encI_len 40 y (List.all_eq_true.1 hm y hy))
  by_cases hc : r > 2000
  · have h2 : Ev (fun k => gangwaylaw5_heavy.f k l b) true := by
      refine Ev.bd hr ?_
      exact Ev.ifp hc (Ev.now _)
    exact absurd (Ev.same h h2) (by decide)
  · have h2 : Ev (fun k => gangwaylaw5_heavy.f k l b) (decide ((b.length : Int) > 4000)) := by
      refine Ev.bd hr ?_
      exact Ev.ifn hc (Ev.now _)
    have h3 := of_decide_eq_false (Ev.same h h2).symm
    obtain ⟨_, _, _, h4⟩ := hw
    have := (h4 (by omega)).2 (by omega)
    omega
end Go.Proofs.Ytlahigmoljflkaa.Q
