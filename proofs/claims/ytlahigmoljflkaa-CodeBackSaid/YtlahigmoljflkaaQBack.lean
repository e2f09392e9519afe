import Derived.Test.YtlahigmoljflkaaPAllx7
import Derived.Test.YtlahigmoljflkaaPAllx25
import Derived.Test.YtlahigmoljflkaaQDec
import Derived.Test.YtlahigmoljflkaaQEnc
/- What is written is read; what is read ahead of an end is read ahead of anything; what is read is good and is written in no more bytes. -/
namespace Go.Proofs.Ytlahigmoljflkaa.Q
open Go.RowKit Go.Proofs.Ytlahigmoljflkaa.PAll Go.Proofs.YtlahigmoljflkaaW.PrintWords Go.Proofs.YtlahigmoljflkaaW.PrintLast Go.Proofs.YtlahigmoljflkaaW.PrintMore Go.Proofs.YtlahigmoljflkaaU
set_option linter.unusedVariables false

theorem okn_up : ∀ (n m : Nat), n ≤ m → ∀ x : S45, okT45n n x → okT45n m x := by
  intro n
  induction n with
  | zero => exact fun m _ x h => h.elim
  | succ n ih =>
    intro m hm x h
    obtain ⟨m, rfl⟩ : ∃ q, m = q + 1 := ⟨m - 1, by omega⟩
    obtain ⟨h0, h1, h2, h3, h4, h5, h6, ⟨h7, h7'⟩, ⟨h8, h8'⟩⟩ := h
    exact ⟨h0, h1, h2, h3, h4, h5, h6, ⟨h7, fun y hy => ih m (by omega) y (h7' y hy)⟩, ⟨h8, fun y hy => ih m (by omega) y (h8' y hy)⟩⟩
theorem oks_up : ∀ (l : List S45), (∀ y ∈ l, okT45 y) → ∃ n, ∀ y ∈ l, okT45n n y
  | [], _ => ⟨0, fun y hy => absurd hy (by simp)⟩
  | x :: l, h => by
    obtain ⟨n, hn⟩ := h x (List.mem_cons_self ..)
    obtain ⟨m, hm⟩ := oks_up l (fun y hy => h y (List.mem_cons_of_mem _ hy))
    refine ⟨max n m, fun y hy => ?_⟩
    rcases List.mem_cons.1 hy with rfl | hy
    · exact okn_up n _ (by omega) _ hn
    · exact okn_up m _ (by omega) _ (hm y hy)
theorem wf_64 {n : Int} (h : -9223372036854775808 ≤ n ∧ n ≤ 9223372036854775807) : (Lit.int .i64 n).wf = true := by
  simp only [Lit.wf, IntKind.min, IntKind.max, IntKind.signed, IntKind.bits, Bool.and_eq_true, decide_eq_true_eq, if_true]
  omega
theorem okT_mk {f0 f1 f2 f3 f4 f5 : Int} {f6 : List Int} {f7 f8 : List S45} (h0 : -9223372036854775808 ≤ f0 ∧ f0 ≤ 9223372036854775807) (h1 : -9223372036854775808 ≤ f1 ∧ f1 ≤ 9223372036854775807) (h2 : -9223372036854775808 ≤ f2 ∧ f2 ≤ 9223372036854775807) (h3 : -9223372036854775808 ≤ f3 ∧ f3 ≤ 9223372036854775807) (h4 : -9223372036854775808 ≤ f4 ∧ f4 ≤ 9223372036854775807) (h5 : -9223372036854775808 ≤ f5 ∧ f5 ≤ 9223372036854775807) (h6 : f6.length * 8 ≤ 140737488351232 ∧ ∀ y ∈ f6, -9223372036854775808 ≤ y ∧ y ≤ 9223372036854775807) (h7 : f7.length * 120 ≤ 140737488351232 ∧ ∀ y ∈ f7, okT45 y) (h8 : f8.length * 120 ≤ 140737488351232 ∧ ∀ y ∈ f8, okT45 y) : okT45 ⟨f0, f1, f2, f3, f4, f5, f6, f7, f8⟩ := by
  obtain ⟨n, hn⟩ := oks_up f7 h7.2
  obtain ⟨m, hm⟩ := oks_up f8 h8.2
  exact ⟨max n m + 1, wf_64 h0, wf_64 h1, wf_64 h2, wf_64 h3, wf_64 h4, wf_64 h5, ⟨h6.1, fun y hy => wf_64 (h6.2 y hy)⟩, ⟨h7.1, fun y hy => okn_up n _ (by omega) _ (hn y hy)⟩, ⟨h8.1, fun y hy => okn_up m _ (by omega) _ (hm y hy)⟩⟩
/-- What stands behind an instruction's byte, as it is written. -/
def encR (rec : List S45 → List Int) (x : S45) : List Int :=
  if shp x.f0 = 2 ∨ shp x.f0 = 3 then x.f1 % 256 :: (rec x.f7 ++ (if 0 < x.f8.length then 5 :: rec x.f8 else []) ++ [11])
    else if shp x.f0 = 4 then pu 9 x.f2 else if shp x.f0 = 5 then pu 9 (x.f6.length : Int) ++ x.f6.flatMap (pu 9) ++ pu 9 x.f2 else if shp x.f0 = 6 then pu 9 x.f2 ++ [0]
    else if shp x.f0 = 7 then pu 9 x.f3 ++ pu 9 x.f4 else if shp x.f0 = 8 then [0] else if shp x.f0 = 9 ∨ shp x.f0 = 10 then ps 9 x.f5 else []
theorem shp_byte {o : Int} (h : shp o ≠ 0) : 0 ≤ o ∧ o ≤ 173 ∧ o ≠ 11 ∧ o ≠ 5 := by
  refine ⟨Int.not_lt.1 fun h' => h (shp_out (.inl h')), Int.not_lt.1 fun h' => h (shp_out (.inr h')), ?_, ?_⟩ <;> (rintro rfl; exact h (by decide))
theorem labS_enc : ∀ (l : List Int) (r : List Int), (∀ n ∈ l, W n) → labS l.length (l.flatMap (pu 9) ++ r) = some (l, r)
  | [], r, _ => rfl
  | v :: l, r, h => by
    have hv := h v (List.mem_cons_self ..)
    rw [List.length_cons, labS, List.flatMap_cons, List.append_assoc, numS_enc v hv.1 hv.2]
    simp only
    rw [labS_enc l r fun n hn => h n (List.mem_cons_of_mem _ hn)]
theorem list0 {α : Type} {l : List α} (h : l.length = 0) : l = [] := List.length_eq_zero_iff.1 h
/-- What is written of an instruction is read as it. -/
theorem rest_enc (rec : List Int → Option (List S45 × Int × List Int)) (recE : List S45 → List Int) (recM : List S45 → Bool) (ok : Bool) (x : S45) (r : List Int) (hm : mayB recM x = true)
    (hv : -9223372036854775808 ≤ x.f5 ∧ x.f5 ≤ 9223372036854775807) (h6 : (x.f6.length : Int) < 4294967296) (he : recE [] = [])
    (hok : shp x.f0 = 2 ∨ shp x.f0 = 3 → ok = true)
    (hrec : ∀ l, (l = x.f7 ∨ l = x.f8) → recM l = true → ∀ (e : Int) (s : List Int), (e = 11 ∨ e = 5) → (recE l ++ e :: s).length ≤ (encR recE x ++ r).length → rec (recE l ++ e :: s) = some (l, e, s)) :
    restS rec ok x.f0 (encR recE x ++ r) = some (x, r) := by
  obtain ⟨f0, f1, f2, f3, f4, f5, f6, f7, f8⟩ := x
  unfold restS
  unfold mayB at hm
  revert hrec
  unfold encR
  simp only at hm hv h6 hok ⊢
  have h4 : f0 = 4 → shp f0 = 3 := by rintro rfl; decide
  have htop := shp_top f0
  revert hm hok h4 htop
  generalize shp f0 = sh
  intro hok hm h4 htop hrec
  by_cases hb : sh = 2 ∨ sh = 3
  · rw [if_pos hb] at hm
    simp only [if_pos hb] at hrec
    rw [if_neg (by omega), if_pos hb, if_pos hb]
    obtain ⟨hT, h7, h8, h8', rfl, rfl, rfl, rfl, h66⟩ := of_decide_eq_true hm
    obtain rfl := list0 h66
    have e1 : f1 % 256 = f1 := by rcases hT with rfl | rfl | rfl <;> decide
    rw [List.cons_append, e1]
    unfold blockS
    simp only
    rw [if_pos (show T f1 ∧ ok = true from ⟨hT, hok hb⟩)]
    by_cases h0 : 0 < f8.length
    · have ho : f0 = 4 := Decidable.byContradiction fun h => by have := h8' h; omega
      simp only [if_pos h0] at hrec ⊢
      rw [show recE f7 ++ 5 :: recE f8 ++ [11] ++ r = recE f7 ++ 5 :: (recE f8 ++ 11 :: r) from by simp]
      rw [hrec f7 (.inl rfl) h7 5 _ (.inr rfl) (by simp)]
      simp only [ho, and_self, if_true]
      rw [hrec f8 (.inr rfl) (h8 ho) 11 _ (.inl rfl) (by simp; omega)]
      simp only
      rw [if_pos trivial]
    · obtain rfl := list0 (l := f8) (by omega)
      simp only [if_neg h0] at hrec ⊢
      rw [show recE f7 ++ [] ++ [11] ++ r = recE f7 ++ 11 :: r from by simp]
      rw [hrec f7 (.inl rfl) h7 11 _ (.inl rfl) (by simp)]
      simp only
      rw [if_neg (show ¬ ((11 : Int) = 5 ∧ f0 = 4) from by omega), if_pos trivial]
  rw [if_neg hb] at hm
  clear hrec
  simp only [if_neg hb]
  have hr : sh = 0 ∨ sh = 1 ∨ sh = 4 ∨ sh = 5 ∨ sh = 6 ∨ sh = 7 ∨ sh = 8 ∨ sh = 9 ∨ sh = 10 := by omega
  clear hb hok h4
  rcases hr with rfl | rfl | rfl | rfl | rfl | rfl | rfl | rfl | rfl <;> simp only [Int.reduceEq, or_self, or_true, true_or, if_true, if_false] at hm ⊢
  · cases hm
  · obtain ⟨rfl, rfl, rfl, rfl, rfl, h66, h77, h88⟩ := of_decide_eq_true hm
    obtain rfl := list0 h66
    obtain rfl := list0 h77
    obtain rfl := list0 h88
    rfl
  · obtain ⟨hw, rfl, rfl, rfl, rfl, h66, h77, h88⟩ := of_decide_eq_true hm
    obtain rfl := list0 h66
    obtain rfl := list0 h77
    obtain rfl := list0 h88
    rw [numS_enc f2 hw.1 hw.2]
  · obtain ⟨hw, hw6, rfl, rfl, rfl, rfl, h77, h88⟩ := of_decide_eq_true hm
    obtain rfl := list0 h77
    obtain rfl := list0 h88
    rw [List.append_assoc, List.append_assoc, numS_enc _ (by omega) h6]
    simp only [Int.toNat_natCast]
    rw [labS_enc f6 _ hw6]
    simp only
    rw [numS_enc f2 hw.1 hw.2]
  · obtain ⟨hw, rfl, rfl, rfl, rfl, h66, h77, h88⟩ := of_decide_eq_true hm
    obtain rfl := list0 h66
    obtain rfl := list0 h77
    obtain rfl := list0 h88
    rw [List.append_assoc, numS_enc f2 hw.1 hw.2]
    rfl
  · obtain ⟨hw, hw2, rfl, rfl, rfl, h66, h77, h88⟩ := of_decide_eq_true hm
    obtain rfl := list0 h66
    obtain rfl := list0 h77
    obtain rfl := list0 h88
    rw [List.append_assoc, numS_enc f3 hw.1 hw.2]
    simp only
    rw [numS_enc f4 hw2.1 hw2.2]
  · obtain ⟨rfl, rfl, rfl, rfl, rfl, h66, h77, h88⟩ := of_decide_eq_true hm
    obtain rfl := list0 h66
    obtain rfl := list0 h77
    obtain rfl := list0 h88
    rfl
  · obtain ⟨hw, rfl, rfl, rfl, rfl, h66, h77, h88⟩ := of_decide_eq_true hm
    obtain rfl := list0 h66
    obtain rfl := list0 h77
    obtain rfl := list0 h88
    rw [sigS_enc (.inl ⟨rfl, rfl, rfl⟩) f5 hw.1 hw.2]
  · obtain ⟨rfl, rfl, rfl, rfl, h66, h77, h88⟩ := of_decide_eq_true hm
    obtain rfl := list0 h66
    obtain rfl := list0 h77
    obtain rfl := list0 h88
    rw [sigS_enc (.inr ⟨rfl, rfl, rfl⟩) f5 hv.1 (by omega)]
theorem mayB_shp {rec : List S45 → Bool} {x : S45} (h : mayB rec x = true) : shp x.f0 ≠ 0 := by
  intro e
  unfold mayB at h
  rw [e] at h
  simp at h
theorem mayI_shp {d : Nat} {x : S45} (h : mayI d x = true) : shp x.f0 ≠ 0 := by
  cases d with
  | zero => exact mayB_shp h
  | succ d => exact mayB_shp h
/-- How deep blocks stand and what is written of them. -/
def recE (d : Nat) : List S45 → List Int := match d with
  | 0 => fun _ => []
  | d + 1 => fun l => l.flatMap (encI d)
def recM (d : Nat) : List S45 → Bool := match d with
  | 0 => fun _ => false
  | d + 1 => fun l => l.all (mayI d)
theorem encI_rec (d : Nat) (x : S45) : encI d x = x.f0 % 256 :: encR (recE d) x := by
  cases d <;> rfl
theorem mayI_rec (d : Nat) (x : S45) : mayI d x = mayB (recM d) x := by
  cases d <;> rfl
theorem encR_f6 (rec : List S45 → List Int) (x : S45) (h : shp x.f0 = 5) : x.f6.length ≤ (encR rec x).length := by
  unfold encR
  rw [h]
  simp only [Int.reduceEq, or_self, if_false, if_true]
  have : ∀ l : List Int, l.length ≤ (l.flatMap (pu 9)).length := by
    intro l
    induction l with
    | nil => exact Nat.le_refl _
    | cons a l ih =>
      rw [List.flatMap_cons, List.length_append, List.length_cons]
      have := (pu_length 9 a).1
      omega
  have := this x.f6
  simp only [List.length_append]
  omega
theorem f6_bound {rec : List S45 → List Int} {rm : List S45 → Bool} {x : S45} (hm : mayB rm x = true) (h : (encR rec x).length < 4294967296) : (x.f6.length : Int) < 4294967296 := by
  by_cases h5 : shp x.f0 = 5
  · have := encR_f6 rec x h5
    omega
  · unfold mayB at hm
    repeat' split at hm
    all_goals first
      | (cases hm; done)
      | (have h := of_decide_eq_true hm
         omega)
theorem enc_kid {rec : List S45 → List Int} {rm : List S45 → Bool} {x : S45} (hm : mayB rm x = true) (he : rec [] = []) {l : List S45} (hl : l = x.f7 ∨ l = x.f8) : (rec l).length ≤ (encR rec x).length := by
  by_cases hs : shp x.f0 = 2 ∨ shp x.f0 = 3
  · unfold encR
    rw [if_pos hs]
    rcases hl with rfl | rfl
    · simp only [List.length_cons, List.length_append]
      omega
    · by_cases h0 : 0 < x.f8.length
      · simp only [List.length_cons, List.length_append, if_pos h0]
        omega
      · have : x.f8 = [] := list0 (by omega)
        rw [this, he]
        exact Nat.zero_le _
  · have h : x.f7.length = 0 ∧ x.f8.length = 0 := by
      unfold mayB at hm
      rw [if_neg hs] at hm
      repeat' split at hm
      all_goals first
        | (cases hm; done)
        | (have h := of_decide_eq_true hm
           omega)
    rcases hl with rfl | rfl
    · rw [list0 h.1, he]; exact Nat.zero_le _
    · rw [list0 h.2, he]; exact Nat.zero_le _
theorem list_enc : ∀ (d : Nat), d ≤ 40 → ∀ (l : List S45), (∀ x ∈ l, mayI d x = true ∧ okT45 x) → ∀ (f : Nat) (e : Int) (s : List Int), (e = 11 ∨ e = 5) → (l.flatMap (encI d) ++ e :: s).length < f → (l.flatMap (encI d)).length < 4294967296 →
    listS f (40 - d) (l.flatMap (encI d) ++ e :: s) = some (l, e, s) := by
  intro d
  induction d with
  | zero =>
    intro hd l
    induction l with
    | nil =>
      intro h f e s he hf hl
      obtain ⟨f, rfl⟩ : ∃ g, f = g + 1 := ⟨f - 1, by simp at hf; omega⟩
      rw [List.flatMap_nil, List.nil_append, listS, if_pos he]
    | cons x l ih =>
      intro h f e s he hf hl
      obtain ⟨f, rfl⟩ : ∃ g, f = g + 1 := ⟨f - 1, by omega⟩
      obtain ⟨hm, hok⟩ := h x (List.mem_cons_self ..)
      have hb := shp_byte (mayI_shp hm)
      rw [List.flatMap_cons, encI_rec] at hf hl ⊢
      rw [mayI_rec] at hm
      have hx : x.f0 % 256 = x.f0 := by omega
      rw [List.append_assoc, List.cons_append, hx, listS, if_neg (by omega)]
      simp only [List.length_append, List.length_cons] at hf hl
      have hrest := rest_enc (listS f (40 - 0 + 1)) (recE 0) (recM 0) (decide (40 - 0 < 40)) x (l.flatMap (encI 0) ++ e :: s) hm (okT_open2 hok).1 (f6_bound (rec := recE 0) hm (by omega)) rfl (fun hs => by
        unfold mayB at hm
        rw [if_pos hs] at hm
        exact absurd (of_decide_eq_true hm).2.1 (by simp [recM])) (fun l' hl' hr => by simp [recM] at hr)
      rw [hrest]
      simp only
      rw [ih (fun y hy => h y (List.mem_cons_of_mem _ hy)) f e s he (by simp only [List.length_append, List.length_cons]; omega) (by omega)]
  | succ d ihd =>
    intro hd l
    induction l with
    | nil =>
      intro h f e s he hf hl
      obtain ⟨f, rfl⟩ : ∃ g, f = g + 1 := ⟨f - 1, by simp at hf; omega⟩
      rw [List.flatMap_nil, List.nil_append, listS, if_pos he]
    | cons x l ih =>
      intro h f e s he hf hl
      obtain ⟨f, rfl⟩ : ∃ g, f = g + 1 := ⟨f - 1, by omega⟩
      obtain ⟨hm, hok⟩ := h x (List.mem_cons_self ..)
      have hb := shp_byte (mayI_shp hm)
      rw [List.flatMap_cons, encI_rec] at hf hl ⊢
      rw [mayI_rec] at hm
      have hx : x.f0 % 256 = x.f0 := by omega
      rw [List.append_assoc, List.cons_append, hx, listS, if_neg (by omega)]
      simp only [List.length_append, List.length_cons] at hf hl
      have hok2 := okT_open2 hok
      have hrest := rest_enc (listS f (40 - (d + 1) + 1)) (recE (d + 1)) (recM (d + 1)) (decide (40 - (d + 1) < 40)) x (l.flatMap (encI (d + 1)) ++ e :: s) hm hok2.1 (f6_bound (rec := recE (d + 1)) hm (by omega)) rfl (fun hs => decide_eq_true (by omega)) (fun l' hl' hr e' s' he' hlen => by
        have hall : ∀ y ∈ l', mayI d y = true := fun y hy => List.all_eq_true.1 hr y hy
        have hokl : ∀ y ∈ l', okT45 y := by
          rcases hl' with rfl | rfl
          · exact hok2.2.2.1.2
          · exact hok2.2.2.2.2
        have e40 : 40 - (d + 1) + 1 = 40 - d := by omega
        rw [e40]
        have hlen2 : (l'.flatMap (encI d) ++ e' :: s').length ≤ (encR (recE (d + 1)) x).length + (l.flatMap (encI (d + 1)) ++ e :: s).length := by
          refine Nat.le_trans hlen ?_
          simp only [List.length_append, List.length_cons]
          omega
        simp only [List.length_append, List.length_cons] at hlen2
        exact ihd (by omega) l' (fun y hy => ⟨hall y hy, hokl y hy⟩) f e' s' he' (by simp only [List.length_append, List.length_cons]; omega) (by
          have := enc_kid (rec := recE (d + 1)) hm rfl hl'
          have e : recE (d + 1) l' = l'.flatMap (encI d) := rfl
          rw [e] at this
          omega))
      rw [hrest]
      simp only
      rw [ih (fun y hy => h y (List.mem_cons_of_mem _ hy)) f e s he (by simp only [List.length_append, List.length_cons]; omega) (by omega)]
theorem zeroS_app {s t : List Int} (h : zeroS s = some t) (r : List Int) : zeroS (s ++ r) = some (t ++ r) := by
  rw [zeroS_suf h]
  rfl
theorem labS_app : ∀ (n : Nat) {s t l : List Int}, labS n s = some (l, t) → ∀ r, labS n (s ++ r) = some (l, t ++ r)
  | 0, s, t, l, h, r => by
    injection h with h
    injection h with h1 h2
    rw [← h1, h2]
    rfl
  | n + 1, s, t, l, h, r => by
    unfold labS at h ⊢
    split at h
    · cases h
    · rename_i v u hv
      split at h
      · cases h
      · rename_i l' w hw
        injection h with h
        injection h with h1 h2
        subst h1 h2
        rw [numS_app hv r]
        simp only
        rw [labS_app n hw r]
theorem blockS_app {rec rec' : List Int → Option (List S45 × Int × List Int)} (r : List Int) (hrec : ∀ s l e t, rec s = some (l, e, t) → rec' (s ++ r) = some (l, e, t ++ r)) {ok : Bool} {op : Int} {s u : List Int} {x : S45} (h : blockS rec ok op s = some (x, u)) : blockS rec' ok op (s ++ r) = some (x, u ++ r) := by
  unfold blockS at h
  split at h
  · cases h
  · rename_i ty t
    rw [List.cons_append]
    unfold blockS
    simp only
    split at h
    · rename_i hc
      rw [if_pos hc]
      split at h
      · cases h
      · rename_i b e v hv
        rw [hrec _ _ _ _ hv]
        simp only
        split at h
        · rename_i he
          rw [if_pos he]
          split at h
          · cases h
          · rename_i b2 e2 w hw
            rw [hrec _ _ _ _ hw]
            simp only
            split at h
            · rename_i h11
              rw [if_pos h11]
              injection h with h
              injection h with h1 h2
              rw [h1, h2]
            · cases h
        · rename_i he
          rw [if_neg he]
          split at h
          · rename_i h11
            rw [if_pos h11]
            injection h with h
            injection h with h1 h2
            rw [h1, h2]
          · cases h
    · cases h
theorem restS_app {rec rec' : List Int → Option (List S45 × Int × List Int)} (r : List Int) (hrec : ∀ s l e t, rec s = some (l, e, t) → rec' (s ++ r) = some (l, e, t ++ r)) {ok : Bool} {op : Int} {s u : List Int} {x : S45} (h : restS rec ok op s = some (x, u)) : restS rec' ok op (s ++ r) = some (x, u ++ r) := by
  unfold restS at h ⊢
  simp only at h ⊢
  split at h
  · injection h with h
    injection h with h1 h2
    rw [if_pos (by assumption), ← h1, h2]
  rw [if_neg (by assumption)]
  split at h
  · rw [if_pos (by assumption)]
    exact blockS_app r hrec h
  rw [if_neg (by assumption)]
  split at h
  · rw [if_pos (by assumption)]
    split at h
    · cases h
    · rename_i hv
      rw [numS_app hv r]
      injection h with h
      injection h with h1 h2
      rw [← h1, h2]
  rw [if_neg (by assumption)]
  split at h
  · rw [if_pos (by assumption)]
    split at h
    · cases h
    · rename_i n t hv
      rw [numS_app hv r]
      simp only
      split at h
      · cases h
      · rename_i l v hl
        rw [labS_app _ hl r]
        simp only
        split at h
        · cases h
        · rename_i hw
          rw [numS_app hw r]
          injection h with h
          injection h with h1 h2
          rw [← h1, h2]
  rw [if_neg (by assumption)]
  split at h
  · rw [if_pos (by assumption)]
    split at h
    · cases h
    · rename_i v t hv
      rw [numS_app hv r]
      simp only
      split at h
      · cases h
      · rename_i hz
        rw [zeroS_app hz r]
        injection h with h
        injection h with h1 h2
        rw [← h1, h2]
  rw [if_neg (by assumption)]
  split at h
  · rw [if_pos (by assumption)]
    split at h
    · cases h
    · rename_i v t hv
      rw [numS_app hv r]
      simp only
      split at h
      · cases h
      · rename_i hz
        rw [numS_app hz r]
        injection h with h
        injection h with h1 h2
        rw [← h1, h2]
  rw [if_neg (by assumption)]
  split at h
  · rw [if_pos (by assumption)]
    split at h
    · cases h
    · rename_i hz
      rw [zeroS_app hz r]
      injection h with h
      injection h with h1 h2
      rw [← h1, h2]
  rw [if_neg (by assumption)]
  split at h
  · rw [if_pos (by assumption)]
    split at h
    · cases h
    · rename_i hz
      rw [sigS_app (.inl ⟨rfl, rfl, rfl⟩) hz r]
      injection h with h
      injection h with h1 h2
      rw [← h1, h2]
  rw [if_neg (by assumption)]
  split at h
  · rw [if_pos (by assumption)]
    split at h
    · cases h
    · rename_i hz
      rw [sigS_app (.inr ⟨rfl, rfl, rfl⟩) hz r]
      injection h with h
      injection h with h1 h2
      rw [← h1, h2]
  cases h
theorem listS_app (r : List Int) : ∀ (f d : Nat) (s : List Int) (l : List S45) (e : Int) (t : List Int), listS f d s = some (l, e, t) → ∀ f', f ≤ f' → listS f' d (s ++ r) = some (l, e, t ++ r)
  | 0, d, s, l, e, t, h, f', hf => by cases h
  | f + 1, d, s, l, e, t, h, f', hf => by
    obtain ⟨f', rfl⟩ : ∃ g, f' = g + 1 := ⟨f' - 1, by omega⟩
    unfold listS at h
    split at h
    · cases h
    · rename_i c u
      rw [List.cons_append]
      unfold listS
      simp only
      split at h
      · rename_i hc
        rw [if_pos hc]
        injection h with h
        injection h with h1 h2
        injection h2 with h2 h3
        rw [← h1, h2, h3]
      · rename_i hc
        rw [if_neg hc]
        split at h
        · cases h
        · rename_i x v hx
          rw [restS_app r (fun s l e t hh => listS_app r f (d + 1) s l e t hh f' (by omega)) hx]
          simp only
          split at h
          · cases h
          · rename_i l' e' w hw
            rw [listS_app r f d v l' e' w hw f' (by omega)]
            injection h with h
            injection h with h1 h2
            injection h2 with h2 h3
            rw [← h1, h2, h3]
theorem labS_word : ∀ (n : Nat) {s t l : List Int}, labS n s = some (l, t) → l.length = n ∧ (∀ v ∈ l, W v) ∧ t.length + (l.flatMap (pu 9)).length ≤ s.length
  | 0, s, t, l, h => by
    injection h with h
    injection h with h1 h2
    subst h1 h2
    exact ⟨rfl, fun v hv => by simp at hv, by simp⟩
  | n + 1, s, t, l, h => by
    unfold labS at h
    split at h
    · cases h
    · rename_i v u hv
      split at h
      · cases h
      · rename_i l' w hw
        injection h with h
        injection h with h1 h2
        subst h1 h2
        obtain ⟨a, b, c⟩ := labS_word n hw
        obtain ⟨d, e, f, _⟩ := numS_word hv
        refine ⟨by rw [List.length_cons, a], fun y hy => ?_, ?_⟩
        · rcases List.mem_cons.1 hy with rfl | hy
          · exact ⟨d, e⟩
          · exact b y hy
        · rw [List.flatMap_cons, List.length_append]
          omega
/-- What is known of a list that was read. -/
def Read (recE : List S45 → List Int) (recM : List S45 → Bool) (u : List Int) (l : List S45) (w : List Int) : Prop := recM l = true ∧ (recE l).length + 1 + w.length ≤ u.length ∧ l.length ≤ u.length ∧ ∀ y ∈ l, okT45 y
theorem ok_flat {op f1 f2 f3 f4 f5 : Int} {l : List Int} (h0 : 0 ≤ op ∧ op ≤ 255) (h1 : 0 ≤ f1 ∧ f1 ≤ 255) (h2 : W f2) (h3 : W f3) (h4 : W f4) (h5 : -9223372036854775808 ≤ f5 ∧ f5 ≤ 9223372036854775807) (h6 : l.length ≤ 1000000 ∧ ∀ y ∈ l, W y) : okT45 ⟨op, f1, f2, f3, f4, f5, l, [], []⟩ := by
  have w64 : ∀ n, W n → -9223372036854775808 ≤ n ∧ n ≤ 9223372036854775807 := fun n h => by have := h.1; have := h.2; omega
  exact okT_mk ⟨by omega, by omega⟩ ⟨by omega, by omega⟩ (w64 _ h2) (w64 _ h3) (w64 _ h4) h5 ⟨by omega, fun y hy => w64 _ (h6.2 y hy)⟩ ⟨by decide, fun y hy => by cases hy⟩ ⟨by decide, fun y hy => by cases hy⟩
theorem W_0 : W 0 := ⟨by decide, by decide⟩
theorem restS_may {rec : List Int → Option (List S45 × Int × List Int)} {recE : List S45 → List Int} {recM : List S45 → Bool} {ok : Bool} {op : Int} {s t : List Int} {x : S45} (hop : 0 ≤ op ∧ op ≤ 255) (hs : ∀ i, 0 ≤ s.getD i 0 ∧ s.getD i 0 ≤ 255) (hl : s.length ≤ 1000000) (hM : ok = true → recM [] = true)
    (hrec : ok = true → ∀ u l e w, u <:+ s → rec u = some (l, e, w) → w <:+ u ∧ Read recE recM u l w) (h : restS rec ok op s = some (x, t)) :
    mayB recM x = true ∧ x.f0 = op ∧ (encR recE x).length + t.length ≤ s.length ∧ okT45 x := by
  have htop := shp_top op
  unfold restS at h
  simp only at h
  split at h
  · rename_i e
    injection h with h
    injection h with h1 h2
    subst h1 h2
    refine ⟨by simp [mayB, e], rfl, by simp [encR, e], ok_flat hop (by decide) W_0 W_0 W_0 (by decide) ⟨by decide, fun y hy => by cases hy⟩⟩
  split at h
  · rename_i e
    unfold blockS at h
    split at h
    · cases h
    · rename_i ty r
      split at h
      · rename_i hc
        obtain ⟨hT, hok⟩ := hc
        have hT' : 0 ≤ ty ∧ ty ≤ 255 := by rcases hT with rfl | rfl | rfl <;> decide
        split at h
        · cases h
        · rename_i b e' u hu
          obtain ⟨su, m1, m2, m3, m4⟩ := hrec hok _ _ _ _ (List.suffix_cons _ _) hu
          rw [List.length_cons] at hl
          split at h
          · rename_i he
            split at h
            · cases h
            · rename_i b2 e2 w hw
              obtain ⟨_, n1, n2, n3, n4⟩ := hrec hok _ _ _ _ (su.trans (List.suffix_cons _ _)) hw
              split at h
              · injection h with h
                injection h with h1 h2
                subst h1 h2
                refine ⟨?_, rfl, ?_, ?_⟩
                · unfold mayB
                  rw [if_pos e]
                  exact decide_eq_true ⟨hT, m1, fun _ => n1, fun h => absurd he.2 h, rfl, rfl, rfl, rfl, rfl⟩
                · unfold encR
                  rw [if_pos e]
                  split <;> simp only [List.length_cons, List.length_append, List.length_nil] <;> omega
                · exact okT_mk ⟨by omega, by omega⟩ ⟨by omega, by omega⟩ (by decide) (by decide) (by decide) (by decide) ⟨by decide, fun y hy => by cases hy⟩ ⟨by omega, m4⟩ ⟨by omega, n4⟩
              · cases h
          · rename_i he
            split at h
            · injection h with h
              injection h with h1 h2
              subst h1 h2
              refine ⟨?_, rfl, ?_, ?_⟩
              · unfold mayB
                rw [if_pos e]
                exact decide_eq_true ⟨hT, m1, fun _ => hM hok, fun _ => rfl, rfl, rfl, rfl, rfl, rfl⟩
              · unfold encR
                rw [if_pos e]
                simp only [List.length_cons, List.length_append, List.length_nil, Nat.lt_irrefl, if_false]
                omega
              · exact okT_mk ⟨by omega, by omega⟩ ⟨by omega, by omega⟩ (by decide) (by decide) (by decide) (by decide) ⟨by decide, fun y hy => by cases hy⟩ ⟨by omega, m4⟩ ⟨by decide, fun y hy => by cases hy⟩
            · cases h
      · cases h
  split at h
  · rename_i e
    split at h
    · cases h
    · rename_i v u hv
      obtain ⟨a, b, c, _⟩ := numS_word hv
      injection h with h
      injection h with h1 h2
      subst h1 h2
      refine ⟨by simp [mayB, e, W, a, b], rfl, by simp [encR, e]; omega, ok_flat hop (by decide) ⟨a, b⟩ W_0 W_0 (by decide) ⟨by decide, fun y hy => by cases hy⟩⟩
  split at h
  · rename_i e
    split at h
    · cases h
    · rename_i n u hn
      obtain ⟨a, b, c, _⟩ := numS_word hn
      split at h
      · cases h
      · rename_i l w hw
        obtain ⟨a2, b2, c2⟩ := labS_word _ hw
        split at h
        · cases h
        · rename_i v q hq
          obtain ⟨a3, b3, c3, _⟩ := numS_word hq
          injection h with h
          injection h with h1 h2
          subst h1 h2
          have hn : (l.length : Int) = n := by omega
          have hll : l.length ≤ 1000000 := by
            have : ∀ l : List Int, l.length ≤ (l.flatMap (pu 9)).length := by
              intro l
              induction l with
              | nil => exact Nat.le_refl _
              | cons a l ih =>
                rw [List.flatMap_cons, List.length_append, List.length_cons]
                have := (pu_length 9 a).1
                omega
            have := this l
            omega
          refine ⟨?_, rfl, ?_, ok_flat hop (by decide) ⟨a3, b3⟩ W_0 W_0 (by decide) ⟨hll, b2⟩⟩
          · unfold mayB
            rw [e]
            simp only [Int.reduceEq, or_self, if_false, if_true]
            exact decide_eq_true ⟨⟨a3, b3⟩, b2, by simp⟩
          · unfold encR
            rw [e]
            simp only [Int.reduceEq, or_self, if_false, if_true, List.length_append, hn]
            omega
  split at h
  · rename_i e
    split at h
    · cases h
    · rename_i v u hv
      obtain ⟨a, b, c, _⟩ := numS_word hv
      split at h
      · cases h
      · rename_i w hw
        have := zeroS_suf hw
        injection h with h
        injection h with h1 h2
        subst h1 h2
        rw [this, List.length_cons] at c
        refine ⟨by simp [mayB, e, W, a, b], rfl, by simp [encR, e]; omega, ok_flat hop (by decide) ⟨a, b⟩ W_0 W_0 (by decide) ⟨by decide, fun y hy => by cases hy⟩⟩
  split at h
  · rename_i e
    split at h
    · cases h
    · rename_i v u hv
      obtain ⟨a, b, c, _⟩ := numS_word hv
      split at h
      · cases h
      · rename_i v2 w hw
        obtain ⟨a2, b2, c2, _⟩ := numS_word hw
        injection h with h
        injection h with h1 h2
        subst h1 h2
        refine ⟨by simp [mayB, e, W, a, b, a2, b2], rfl, by simp [encR, e]; omega, ok_flat hop (by decide) W_0 ⟨a, b⟩ ⟨a2, b2⟩ (by decide) ⟨by decide, fun y hy => by cases hy⟩⟩
  split at h
  · rename_i e
    split at h
    · cases h
    · rename_i u hu
      have := zeroS_suf hu
      injection h with h
      injection h with h1 h2
      subst h1 h2
      refine ⟨by simp [mayB, e], rfl, by rw [this]; simp [encR, e]; omega, ok_flat hop (by decide) W_0 W_0 W_0 (by decide) ⟨by decide, fun y hy => by cases hy⟩⟩
  split at h
  · rename_i e
    split at h
    · cases h
    · rename_i v u hv
      obtain ⟨a, b, c, _⟩ := sigS_word (.inl ⟨rfl, rfl, rfl⟩) (fun i => (hs i).1) hv
      injection h with h
      injection h with h1 h2
      subst h1 h2
      refine ⟨by simp [mayB, e, a, b], rfl, by simp [encR, e]; omega, ok_flat hop (by decide) W_0 W_0 W_0 ⟨by omega, by omega⟩ ⟨by decide, fun y hy => by cases hy⟩⟩
  split at h
  · rename_i e
    split at h
    · cases h
    · rename_i v u hv
      obtain ⟨a, b, c, _⟩ := sigS_word (.inr ⟨rfl, rfl, rfl⟩) (fun i => (hs i).1) hv
      injection h with h
      injection h with h1 h2
      subst h1 h2
      refine ⟨by simp [mayB, e], rfl, by simp [encR, e]; omega, ok_flat hop (by decide) W_0 W_0 W_0 ⟨by omega, by omega⟩ ⟨by decide, fun y hy => by cases hy⟩⟩
  cases h
theorem getD_suf {u s : List Int} (h : u <:+ s) (hs : ∀ i, 0 ≤ s.getD i 0 ∧ s.getD i 0 ≤ 255) : ∀ i, 0 ≤ u.getD i 0 ∧ u.getD i 0 ≤ 255 := by
  obtain ⟨p, rfl⟩ := h
  intro i
  have := hs (p.length + i)
  rwa [List.getD_eq_getElem?_getD, List.getElem?_append_right (by omega), Nat.add_sub_cancel_left, ← List.getD_eq_getElem?_getD] at this
theorem listS_may : ∀ (f d : Nat), d ≤ 40 → ∀ (s : List Int) (l : List S45) (e : Int) (t : List Int), (∀ i, 0 ≤ s.getD i 0 ∧ s.getD i 0 ≤ 255) → s.length ≤ 1000000 → listS f (40 - d) s = some (l, e, t) → Read (fun l => l.flatMap (encI d)) (fun l => l.all (mayI d)) s l t
  | 0, d, hd, s, l, e, t, hs, hl, h => by cases h
  | f + 1, d, hd, s, l, e, t, hs, hl, h => by
    unfold listS at h
    split at h
    · cases h
    · rename_i c u
      have hc := hs 0
      rw [List.getD_cons_zero] at hc
      rw [List.length_cons] at hl
      split at h
      · injection h with h
        injection h with h1 h2
        injection h2 with h2 h3
        subst h1 h3
        exact ⟨rfl, by simp; omega, by simp, fun y hy => by cases hy⟩
      · split at h
        · cases h
        · rename_i x v hx
          have hsu := getD_suf (List.suffix_cons c u) hs
          have hrest := restS_may (recE := recE d) (recM := recM d) hc hsu (by omega) (fun hok => by
            have := of_decide_eq_true hok
            obtain ⟨m, rfl⟩ : ∃ m, d = m + 1 := ⟨d - 1, by omega⟩
            rfl) (fun hok u' l' e' w' hsuf hr => by
            have := of_decide_eq_true hok
            obtain ⟨m, rfl⟩ : ∃ m, d = m + 1 := ⟨d - 1, by omega⟩
            refine ⟨(listS_suf _ _ _ _ _ _ hr).1, ?_⟩
            rw [show 40 - (m + 1) + 1 = 40 - m by omega] at hr
            exact listS_may f m (by omega) u' l' e' w' (getD_suf hsuf hsu) (by have := hsuf.length_le; omega) hr) hx
          obtain ⟨r1, r2, r3, r4⟩ := hrest
          have hsv := restS_suf (fun s l e t hh => (listS_suf f (40 - d + 1) s l e t hh).1) hx
          split at h
          · cases h
          · rename_i l' e' w hw
            obtain ⟨q1, q2, q3, q4⟩ := listS_may f d hd v l' e' w (getD_suf hsv hsu) (by have := hsv.length_le; omega) hw
            injection h with h
            injection h with h1 h2
            injection h2 with h2 h3
            subst h1 h3
            have hv := hsv.length_le
            refine ⟨?_, ?_, by rw [List.length_cons, List.length_cons]; omega, fun y hy => ?_⟩
            · show (x :: l').all (mayI d) = true
              rw [List.all_cons, mayI_rec, r1]
              exact q1
            · show ((x :: l').flatMap (encI d)).length + 1 + w.length ≤ _
              simp only at q2
              rw [List.flatMap_cons, encI_rec, List.length_append, List.length_cons, List.length_cons]
              omega
            · rcases List.mem_cons.1 hy with rfl | hy
              · exact r4
              · exact q4 y hy
/-- What is written of instructions is read as them, whatever stands behind. -/
theorem dec_enc (l : List S45) (hm : l.all (mayI 40) = true) (hok : ∀ y ∈ l, okT45 y) (hl : (l.flatMap (encI 40)).length < 4294967296) (r : List Int) : decS (l.flatMap (encI 40) ++ 11 :: r) = some (l, r) := by
  unfold decS
  rw [show (0 : Nat) = 40 - 40 by decide, list_enc 40 (by decide) l (fun x hx => ⟨List.all_eq_true.1 hm x hx, hok x hx⟩) _ 11 r (.inl rfl) (Nat.lt_succ_self _) hl]
  simp
/-- No beginning of it is read. -/
theorem dec_take (l : List S45) (hm : l.all (mayI 40) = true) (hok : ∀ y ∈ l, okT45 y) (hl : (l.flatMap (encI 40)).length < 4294967296) (k : Nat) (hk : k < (l.flatMap (encI 40) ++ [11]).length) : decS ((l.flatMap (encI 40) ++ [11]).take k) = none := by
  cases h : decS ((l.flatMap (encI 40) ++ [11]).take k) with
  | none => rfl
  | some p =>
    exfalso
    obtain ⟨l2, t⟩ := p
    have h2 := dec_enc l hm hok hl []
    unfold decS at h h2
    split at h
    · rename_i l' e' t' hr
      split at h
      · rename_i h11
        have ha := listS_app ((l.flatMap (encI 40) ++ [11]).drop k) _ _ _ _ _ _ hr ((l.flatMap (encI 40) ++ [11]).length + 1) (by rw [List.length_take]; omega)
        rw [List.take_append_drop] at ha
        rw [ha] at h2
        simp only at h2
        rw [if_pos h11] at h2
        have h3 := congrArg (fun o : Option (List S45 × List Int) => o.map fun p => p.2.length) h2
        simp only [Option.map_some, List.length_append, List.length_nil, List.length_drop] at h3
        injection h3 with h3
        rw [List.length_append] at hk
        omega
      · cases h
    · cases h
/-- What is read is good, and is written in no more bytes. -/
theorem dec_may {s t : List Int} {l : List S45} (hs : ∀ i, 0 ≤ s.getD i 0 ∧ s.getD i 0 ≤ 255) (hl : s.length ≤ 1000000) (h : decS s = some (l, t)) : l.all (mayI 40) = true ∧ (l.flatMap (encI 40)).length + 1 + t.length ≤ s.length ∧ l.length ≤ s.length ∧ (∀ y ∈ l, okT45 y) ∧ t <:+ s := by
  unfold decS at h
  split at h
  · rename_i l' e' t' hr
    split at h
    · injection h with h
      injection h with h1 h2
      subst h1 h2
      obtain ⟨a, b, c, d⟩ := listS_may (s.length + 1) 40 (by decide) s l' e' t' hs hl hr
      exact ⟨a, b, c, d, (listS_suf _ _ _ _ _ _ hr).1⟩
    · cases h
  · cases h
end Go.Proofs.Ytlahigmoljflkaa.Q
