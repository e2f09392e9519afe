import Derived.RowKit
namespace Go.HeapT
section
variable {α : Type} (lt : α → α → Bool) (z : α)
/-- Two elements change places. -/
def hswap (l : List α) (i j : Nat) : List α := (l.set i (l.getD j z)).set j (l.getD i z)
def hup : Nat → List α → Nat → List α
  | 0, l, _ => l
  | k + 1, l, j => if (j - 1) / 2 = j ∨ lt (l.getD j z) (l.getD ((j - 1) / 2) z) = false then l else hup k (hswap z l ((j - 1) / 2) j) ((j - 1) / 2)
/-- The less one of two children. -/
def hkid (l : List α) (i n : Nat) : Nat := if 2 * i + 2 < n ∧ lt (l.getD (2 * i + 2) z) (l.getD (2 * i + 1) z) = true then 2 * i + 2 else 2 * i + 1
def hdown : Nat → List α → Nat → Nat → List α
  | 0, l, _, _ => l
  | k + 1, l, i, n => if n ≤ 2 * i + 1 ∨ lt (l.getD (hkid lt z l i n) z) (l.getD i z) = false then l else hdown k (hswap z l i (hkid lt z l i n)) (hkid lt z l i n) n
def hpush (l : List α) (x : α) : List α := hup lt z (l.length + 1) (l ++ [x]) l.length
/-- What is left when the first one is taken. -/
def hrest (l : List α) : List α := (hdown lt z l.length (hswap z l 0 (l.length - 1)) 0 (l.length - 1)).take (l.length - 1)
def Hp (l : List α) (n : Nat) : Prop := ∀ i, 0 < i → i < n → lt (l.getD i z) (l.getD ((i - 1) / 2) z) = false
variable {lt z}
theorem hswap_len (l : List α) (i j : Nat) : (hswap z l i j).length = l.length := by simp [hswap]
theorem hswap_get {l : List α} {i j : Nat} (hi : i < l.length) (hj : j < l.length) (k : Nat) : (hswap z l i j).getD k z = if k = j then l.getD i z else if k = i then l.getD j z else l.getD k z := by
  unfold hswap
  simp only [List.getD_eq_getElem?_getD, List.getElem?_set, List.length_set]
  by_cases h1 : k = j
  · subst h1
    simp [hj]
  · rw [if_neg (fun h => h1 h.symm), if_neg h1]
    by_cases h2 : k = i
    · subst h2
      simp [hi]
    · rw [if_neg (fun h => h2 h.symm), if_neg h2]
theorem hswap_perm {l : List α} {i j : Nat} (hi : i < l.length) (hj : j < l.length) : (hswap z l i j).Perm l := by
  have h := Array.swap_perm (xs := l.toArray) (i := i) (j := j) (by simpa using hi) (by simpa using hj)
  have e : (l.toArray.swap i j (by simpa using hi) (by simpa using hj)).toList = hswap z l i j := by
    simp [hswap, Array.swap, List.getD_eq_getElem?_getD, List.getElem?_eq_getElem hi, List.getElem?_eq_getElem hj]
  rw [← e]
  exact h.toList
theorem hup_len : ∀ (k : Nat) (l : List α) (j : Nat), (hup lt z k l j).length = l.length
  | 0, _, _ => rfl
  | k + 1, l, j => by
    unfold hup
    split
    · rfl
    · rw [hup_len k, hswap_len]
theorem hup_perm : ∀ (k : Nat) (l : List α) (j : Nat), j < l.length → (hup lt z k l j).Perm l
  | 0, _, _, _ => .refl _
  | k + 1, l, j, h => by
    unfold hup
    split
    · exact .refl _
    · exact (hup_perm k _ _ (by rw [hswap_len]; omega)).trans (hswap_perm (by omega) h)
theorem hup_heap (h1 : ∀ a b, lt a b = true → lt b a = false) (h2 : ∀ a b c, lt b a = false → lt c b = false → lt c a = false) : ∀ (k : Nat) (l : List α) (j : Nat), j < k → j < l.length →
    (∀ i, 0 < i → i < l.length → i ≠ j → lt (l.getD i z) (l.getD ((i - 1) / 2) z) = false) → (∀ i, 0 < i → i < l.length → (i - 1) / 2 = j → 0 < j → lt (l.getD i z) (l.getD ((j - 1) / 2) z) = false) → Hp lt z (hup lt z k l j) l.length
  | 0, _, _, hk, _, _, _ => absurd hk (by omega)
  | k + 1, l, j, hk, hj, H1, H2 => by
    unfold hup
    split
    · rename_i c
      intro i hi hl
      by_cases e : i = j
      · subst e
        rcases c with c | c
        · omega
        · exact c
      · exact H1 i hi hl e
    · rename_i c
      obtain ⟨c1, c2⟩ := not_or.1 c
      replace c2 : lt (l.getD j z) (l.getD ((j - 1) / 2) z) = true := by cases h : lt (l.getD j z) (l.getD ((j - 1) / 2) z) <;> simp_all
      have hp : (j - 1) / 2 < l.length := by omega
      have G := hswap_get (z := z) hp hj
      have hr := hup_heap h1 h2 k (hswap z l ((j - 1) / 2) j) ((j - 1) / 2) (by omega) (by rw [hswap_len]; omega)
      rw [hswap_len] at hr
      refine hr (fun i hi hl hne => ?_) (fun i hi hl he h0 => ?_)
      · rw [G, G, if_neg hne]
        by_cases e : i = j
        · subst e
          rw [if_pos rfl, if_neg (by omega), if_pos rfl]
          exact h1 _ _ c2
        · rw [if_neg e]
          by_cases e2 : (i - 1) / 2 = j
          · rw [if_pos e2]
            exact H2 i hi hl e2 (by omega)
          · rw [if_neg e2]
            by_cases e3 : (i - 1) / 2 = (j - 1) / 2
            · rw [if_pos e3]
              have := H1 i hi hl e
              rw [e3] at this
              exact h2 _ _ _ (h1 _ _ c2) this
            · rw [if_neg e3]
              exact H1 i hi hl e
      · rw [G, G, if_neg (show i ≠ (j - 1) / 2 by omega), if_neg (show ((j - 1) / 2 - 1) / 2 ≠ j by omega), if_neg (show ((j - 1) / 2 - 1) / 2 ≠ (j - 1) / 2 by omega)]
        by_cases e : i = j
        · rw [if_pos e]
          exact H1 _ h0 hp (by omega)
        · rw [if_neg e]
          have a := H1 i hi hl e
          rw [he] at a
          exact h2 _ _ _ (H1 _ h0 hp (by omega)) a
theorem hkid_lt {l : List α} {i n : Nat} (h : 2 * i + 1 < n) : hkid lt z l i n < n ∧ i < hkid lt z l i n ∧ (hkid lt z l i n - 1) / 2 = i := by
  unfold hkid
  split <;> omega
theorem hdown_len : ∀ (k : Nat) (l : List α) (i n : Nat), (hdown lt z k l i n).length = l.length
  | 0, _, _, _ => rfl
  | k + 1, l, i, n => by
    unfold hdown
    split
    · rfl
    · rw [hdown_len k, hswap_len]
/-- What lies behind n stays, and so does what is there, but for its order. -/
theorem hdown_perm : ∀ (k : Nat) (l : List α) (i n : Nat), n ≤ l.length → (hdown lt z k l i n).Perm l ∧ ∀ q, n ≤ q → (hdown lt z k l i n).getD q z = l.getD q z
  | 0, _, _, _, _ => ⟨.refl _, fun _ _ => rfl⟩
  | k + 1, l, i, n, h => by
    unfold hdown
    split
    · exact ⟨.refl _, fun _ _ => rfl⟩
    · rename_i c
      obtain ⟨c1, c2⟩ := not_or.1 c
      have hk := hkid_lt (lt := lt) (z := z) (l := l) (i := i) (n := n) (by omega)
      obtain ⟨p, q⟩ := hdown_perm k (hswap z l i (hkid lt z l i n)) (hkid lt z l i n) n (by rw [hswap_len]; exact h)
      refine ⟨p.trans (hswap_perm (by omega) (by omega)), fun r hr => ?_⟩
      rw [q r hr, hswap_get (by omega) (by omega), if_neg (by omega), if_neg (by omega)]
theorem hdown_heap (h1 : ∀ a b, lt a b = true → lt b a = false) (h2 : ∀ a b c, lt b a = false → lt c b = false → lt c a = false) : ∀ (k : Nat) (l : List α) (i n : Nat), n ≤ k + i → n ≤ l.length →
    (∀ q, 0 < q → q < n → (q - 1) / 2 ≠ i → lt (l.getD q z) (l.getD ((q - 1) / 2) z) = false) → (∀ q, 0 < q → q < n → (q - 1) / 2 = i → 0 < i → lt (l.getD q z) (l.getD ((i - 1) / 2) z) = false) → Hp lt z (hdown lt z k l i n) n
  | 0, l, i, n, hk, _, H1, _ => fun q hq hn => H1 q hq hn (by omega)
  | k + 1, l, i, n, hk, hl, H1, H2 => by
    unfold hdown
    split
    · rename_i c
      intro q hq hn
      by_cases e : (q - 1) / 2 = i
      · rcases c with c | c
        · omega
        · rw [e]
          unfold hkid at c
          split at c
          · rename_i d
            rcases (by omega : q = 2 * i + 1 ∨ q = 2 * i + 2) with rfl | rfl
            · exact h2 _ _ _ c (h1 _ _ d.2)
            · exact c
          · rename_i d
            rcases (by omega : q = 2 * i + 1 ∨ q = 2 * i + 2) with rfl | rfl
            · exact c
            · have d2 : lt (l.getD (2 * i + 2) z) (l.getD (2 * i + 1) z) = false := by
                cases h : lt (l.getD (2 * i + 2) z) (l.getD (2 * i + 1) z) with
                | false => rfl
                | true => exact absurd ⟨hn, h⟩ d
              exact h2 _ _ _ c d2
      · exact H1 q hq hn e
    · rename_i c
      obtain ⟨c1, c2⟩ := not_or.1 c
      have hk2 := hkid_lt (lt := lt) (z := z) (l := l) (i := i) (n := n) (by omega)
      have hmin : ∀ q, 0 < q → q < n → (q - 1) / 2 = i → lt (l.getD q z) (l.getD (hkid lt z l i n) z) = false := by
        intro q hq hn e
        unfold hkid
        split
        · rename_i d
          rcases (by omega : q = 2 * i + 1 ∨ q = 2 * i + 2) with rfl | rfl
          · exact h1 _ _ d.2
          · cases h : lt (l.getD (2 * i + 2) z) (l.getD (2 * i + 2) z) with
            | false => rfl
            | true => have := h1 _ _ h; rw [h] at this; exact this
        · rename_i d
          rcases (by omega : q = 2 * i + 1 ∨ q = 2 * i + 2) with rfl | rfl
          · cases h : lt (l.getD (2 * i + 1) z) (l.getD (2 * i + 1) z) with
            | false => rfl
            | true => have := h1 _ _ h; rw [h] at this; exact this
          · cases h : lt (l.getD (2 * i + 2) z) (l.getD (2 * i + 1) z) with
            | false => rfl
            | true => exact absurd ⟨hn, h⟩ d
      revert hk2 hmin c2
      generalize hkid lt z l i n = j
      intro c2 hk2 hmin
      replace c2 : lt (l.getD j z) (l.getD i z) = true := by cases h : lt (l.getD j z) (l.getD i z) <;> simp_all
      have G := hswap_get (z := z) (l := l) (i := i) (j := j) (by omega) (by omega)
      have hr := hdown_heap h1 h2 k (hswap z l i j) j n (by omega) (by rw [hswap_len]; exact hl)
      refine hr (fun q hq hn hne => ?_) (fun q hq hn he h0 => ?_)
      · rw [G, G, if_neg hne]
        by_cases e : q = j
        · subst e
          rw [if_pos rfl, if_pos hk2.2.2]
          exact h1 _ _ c2
        · rw [if_neg e]
          by_cases e2 : q = i
          · subst e2
            rw [if_pos rfl, if_neg (by omega)]
            exact H2 j (by omega) (by omega) hk2.2.2 hq
          · rw [if_neg e2]
            by_cases e3 : (q - 1) / 2 = i
            · rw [if_pos e3]
              exact hmin q hq hn e3
            · rw [if_neg e3]
              exact H1 q hq hn e3
      · rw [G, G, hk2.2.2, if_neg (show q ≠ j by omega), if_neg (show q ≠ i by omega), if_neg (show i ≠ j by omega), if_pos rfl]
        have := H1 q hq hn (by omega)
        rwa [he] at this
theorem hpush_perm (l : List α) (x : α) : (hpush lt z l x).Perm (l ++ [x]) := hup_perm _ _ _ (by simp)
theorem hpush_len (l : List α) (x : α) : (hpush lt z l x).length = l.length + 1 := by rw [(hpush_perm l x).length_eq]; simp
theorem hpush_heap (h1 : ∀ a b, lt a b = true → lt b a = false) (h2 : ∀ a b c, lt b a = false → lt c b = false → lt c a = false) (l : List α) (x : α) (h : Hp lt z l l.length) : Hp lt z (hpush lt z l x) (hpush lt z l x).length := by
  have := hup_heap (z := z) h1 h2 (l.length + 1) (l ++ [x]) l.length (by omega) (by simp) (fun i hi hl hne => ?_) (fun i hi hl he h0 => ?_)
  · rw [hpush_len]
    rwa [List.length_append] at this
  · rw [List.length_append, List.length_singleton] at hl
    have := h i hi (by omega)
    rwa [List.getD_eq_getElem?_getD, List.getD_eq_getElem?_getD, List.getElem?_append_left (by omega), List.getElem?_append_left (by omega), ← List.getD_eq_getElem?_getD, ← List.getD_eq_getElem?_getD]
  · rw [List.length_append, List.length_singleton] at hl
    omega
/-- The first one is the least. -/
theorem hp_min (h1 : ∀ a b, lt a b = true → lt b a = false) (h2 : ∀ a b c, lt b a = false → lt c b = false → lt c a = false) {l : List α} {n : Nat} (h : Hp lt z l n) : ∀ i, i < n → lt (l.getD i z) (l.getD 0 z) = false := by
  intro i
  induction i using Nat.strongRecOn with
  | ind i ih =>
    intro hi
    by_cases e : i = 0
    · subst e
      cases h' : lt (l.getD 0 z) (l.getD 0 z) with
      | false => rfl
      | true => have := h1 _ _ h'; rw [h'] at this; exact this
    · exact h2 _ _ _ (ih ((i - 1) / 2) (by omega) (by omega)) (h i (by omega) hi)
theorem hrest_len (l : List α) : (hrest lt z l).length = l.length - 1 := by
  unfold hrest
  rw [List.length_take, hdown_len, hswap_len]
  omega
/-- The first one and what is left are what there was. -/
theorem hrest_perm {l : List α} (h : 0 < l.length) : l.Perm (l.getD 0 z :: hrest lt z l) := by
  have hd := hdown_perm (lt := lt) (z := z) l.length (hswap z l 0 (l.length - 1)) 0 (l.length - 1) (by rw [hswap_len]; omega)
  have p := hd.1.trans (hswap_perm (z := z) (by omega) (by omega))
  have q := hd.2 (l.length - 1) (Nat.le_refl _)
  rw [hswap_get (by omega) (by omega), if_pos rfl] at q
  have hl : (hdown lt z l.length (hswap z l 0 (l.length - 1)) 0 (l.length - 1)).length = l.length := by rw [hdown_len, hswap_len]
  unfold hrest
  revert p q hl
  generalize hdown lt z l.length (hswap z l 0 (l.length - 1)) 0 (l.length - 1) = m
  intro p q hl
  have e : m = m.take (l.length - 1) ++ [m.getD (l.length - 1) z] := by
    rw [List.getD_eq_getElem?_getD, List.getElem?_eq_getElem (by omega)]
    conv => lhs; rw [← List.take_append_drop (l.length - 1) m]
    congr 1
    rw [List.drop_eq_getElem_cons (by omega), List.drop_eq_nil_of_le (by omega)]
    rfl
  refine p.symm.trans ?_
  rw [e, q]
  exact List.perm_append_singleton _ _ |>.trans (by rw [← q, ← e, q])
theorem hrest_heap (h1 : ∀ a b, lt a b = true → lt b a = false) (h2 : ∀ a b c, lt b a = false → lt c b = false → lt c a = false) {l : List α} (h : Hp lt z l l.length) : Hp lt z (hrest lt z l) (hrest lt z l).length := by
  by_cases h0 : 0 < l.length
  · have G := hswap_get (z := z) (l := l) (i := 0) (j := l.length - 1) (by omega) (by omega)
    have hr := hdown_heap (z := z) h1 h2 l.length (hswap z l 0 (l.length - 1)) 0 (l.length - 1) (by omega) (by rw [hswap_len]; omega) (fun q hq hn hne => ?_) (fun q hq hn he h0 => absurd h0 (by omega))
    · intro i hi hl
      rw [hrest_len] at hl
      have := hr i hi hl
      unfold hrest
      rwa [List.getD_eq_getElem?_getD, List.getD_eq_getElem?_getD, List.getElem?_take_of_lt (by omega), List.getElem?_take_of_lt (by omega), ← List.getD_eq_getElem?_getD, ← List.getD_eq_getElem?_getD]
    · rw [G, G, if_neg (by omega), if_neg (by omega), if_neg (by omega), if_neg hne]
      exact h q hq (by omega)
  · intro i hi hl
    rw [hrest_len] at hl
    omega
end
end Go.HeapT
