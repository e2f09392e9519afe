import Derived.Test.YtlahigmoljflkaaPAllx31
import Derived.Test.YtlahigmoljflkaaQWt
import Derived.Test.YtlahigmoljflkaaQBack
/- Instructions' bytes, whatever stands behind, are read as them; no beginning of them is; what is read is told by no more bytes: for every list of asks. -/
namespace Go.Proofs.Ytlahigmoljflkaa.Pure
open Go.RowKit Go.Proofs.Ytlahigmoljflkaa.PAll Go.Proofs.YtlahigmoljflkaaW.PrintWords Go.Proofs.YtlahigmoljflkaaW.PrintLast Go.Proofs.YtlahigmoljflkaaW.PrintMore Go.Proofs.YtlahigmoljflkaaU Go.Proofs.Ytlahigmoljflkaa.Q
set_option linter.unusedVariables false
theorem open26 {x : S26} (h : okT26 x) : (x.f0.length * 120 ≤ 140737488351232 ∧ ∀ y ∈ x.f0, okT45 y) ∧ (x.f1.length ≤ 140737488351232 ∧ ∀ y ∈ x.f1, 0 ≤ y ∧ y ≤ 255) := by
  obtain ⟨⟨h1, h2⟩, ⟨h3, h4⟩⟩ := h
  exact ⟨⟨h1, h2⟩, ⟨by omega, fun y hy => bd8 (h4 y hy)⟩⟩
theorem copyb_l0 (a : List Int) (hm : a.length < 140737488355328) : ∀ (d j : Nat), j + d = a.length → ∀ k, d < k → gangwayref0_CopyBytes.l0 k a (a.take j) (j : Int) = some a := by
  intro d
  induction d with
  | zero =>
    intro j hj k hk
    obtain ⟨k, rfl⟩ : ∃ m, k = m + 1 := ⟨k - 1, by omega⟩
    simp only [gangwayref0_CopyBytes.l0]
    rw [if_neg (by omega), List.take_of_length_le (by omega)]
  | succ d ih =>
    intro j hj k hk
    obtain ⟨k, rfl⟩ : ∃ m, k = m + 1 := ⟨k - 1, by omega⟩
    have e3 : wrap64 ((j : Int) + 1) = ((j + 1 : Nat) : Int) := by rw [w64 (by omega) (by omega)]; omega
    have et : a.take j ++ [a.getD j 0] = a.take (j + 1) := by
      rw [List.take_succ_eq_append_getElem (by omega), List.getD_eq_getElem?_getD, List.getElem?_eq_getElem (by omega)]
      rfl
    simp only [gangwayref0_CopyBytes.l0]
    rw [if_pos (by omega), if_pos (by omega), if_pos (by rw [List.length_take]; omega), rd_nat, e3, et]
    exact ih (j + 1) (by omega) k (by omega)
theorem copyb_ev (a : List Int) (hm : a.length < 140737488355328) : Ev (fun k => gangwayref0_CopyBytes.f k a) a :=
  Ev.big (a.length + 1) fun k hk => copyb_l0 a hm a.length 0 (by omega) k (by omega)
theorem light_b (l : List S45) (b : List Int) (hl : l.length ≤ 9223372036854775807) (hok : ∀ y ∈ l, okT45 y) (h : Ev (fun k => gangwaylaw5_heavy.f k l b) false) : b.length ≤ 4000 := by
  obtain ⟨n, hn⟩ := weight_ev 61 (by omega) l hl hok 0
  by_cases hc : n > 2000
  · have h2 : Ev (fun k => gangwaylaw5_heavy.f k l b) true := by
      refine Ev.bd hn ?_
      exact Ev.ifp hc (Ev.now _)
    exact absurd (Ev.same h h2) (by decide)
  · have h2 : Ev (fun k => gangwaylaw5_heavy.f k l b) (decide ((b.length : Int) > 4000)) := by
      refine Ev.bd hn ?_
      exact Ev.ifn hc (Ev.now _)
    have h3 := of_decide_eq_false (Ev.same h h2).symm
    omega
theorem b256 (n : Int) : 0 ≤ n % 256 ∧ n % 256 ≤ 255 := by omega
theorem encR_bytes {rec : List S45 → List Int} {x : S45} (h7 : ∀ y ∈ rec x.f7, 0 ≤ y ∧ y ≤ 255) (h8 : ∀ y ∈ rec x.f8, 0 ≤ y ∧ y ≤ 255) : ∀ y ∈ encR rec x, 0 ≤ y ∧ y ≤ 255 := by
  intro y hy
  unfold encR at hy
  have hp : ∀ n, y ∈ pu 9 n → 0 ≤ y ∧ y ≤ 255 := fun n => pu_bytes 9 n y
  have hs : ∀ n, y ∈ ps 9 n → 0 ≤ y ∧ y ≤ 255 := fun n => ps_bytes 9 n y
  have h0 : y ∈ [(0 : Int)] → 0 ≤ y ∧ y ≤ 255 := fun h => by rw [List.mem_singleton.1 h]; decide
  repeat' split at hy
  all_goals first
    | exact hp _ hy
    | exact hs _ hy
    | exact h0 hy
    | (cases hy; done)
    | (rcases List.mem_append.1 hy with hy | hy
       · exact hp _ hy
       · first | exact hp _ hy | exact h0 hy)
    | (rcases List.mem_append.1 hy with hy | hy
       · rcases List.mem_append.1 hy with hy | hy
         · exact hp _ hy
         · obtain ⟨n, _, hn⟩ := List.mem_flatMap.1 hy
           exact hp _ hn
       · exact hp _ hy)
    | (rcases List.mem_cons.1 hy with rfl | hy
       · exact b256 _
       · rcases List.mem_append.1 hy with hy | hy
         · rcases List.mem_append.1 hy with hy | hy
           · exact h7 y hy
           · first
             | (rcases List.mem_cons.1 hy with rfl | hy
                · decide
                · exact h8 y hy)
             | cases hy
         · rw [List.mem_singleton.1 hy]; decide)
theorem enc_bytes : ∀ (d : Nat) (l : List S45), ∀ y ∈ l.flatMap (encI d), 0 ≤ y ∧ y ≤ 255
  | 0, l, y, hy => by
    obtain ⟨x, _, hx⟩ := List.mem_flatMap.1 hy
    rw [encI_rec] at hx
    rcases List.mem_cons.1 hx with rfl | hx
    · exact b256 _
    · exact encR_bytes (fun y hy => by cases hy) (fun y hy => by cases hy) y hx
  | d + 1, l, y, hy => by
    obtain ⟨x, _, hx⟩ := List.mem_flatMap.1 hy
    rw [encI_rec] at hx
    rcases List.mem_cons.1 hx with rfl | hx
    · exact b256 _
    · exact encR_bytes (fun y hy => enc_bytes d x.f7 y hy) (fun y hy => enc_bytes d x.f8 y hy) y hx
theorem back_l1 (L : List S26) (j : Int) (l : List S45) (c : List S45) (b : List Int) (hm : l.all (mayI 40) = true) (hok : ∀ y ∈ l, okT45 y) (hl : (l.flatMap (encI 40)).length ≤ 80000) (hnext : Ev (fun k => gangwaylaw5_CodeBack.j3 k L j c b) true) :
    ∀ (d n : Nat), (l.flatMap (encI 40) ++ [11]).length ≤ n + d → n ≤ 200000 → Ev (fun k => gangwaylaw5_CodeBack.l1 k L j (l.flatMap (encI 40) ++ [11]) (n : Int) c b) true := by
  have hlen : (l.flatMap (encI 40) ++ [11]).length ≤ 80001 := by rw [List.length_append, List.length_singleton]; omega
  have hbytes : ∀ y ∈ l.flatMap (encI 40) ++ [11], 0 ≤ y ∧ y ≤ 255 := fun y hy => by
    rcases List.mem_append.1 hy with hy | hy
    · exact enc_bytes 40 l y hy
    · rw [List.mem_singleton.1 hy]; decide
  have htake := fun k hk => dec_take l hm hok (by omega) k hk
  revert hlen hbytes htake
  generalize l.flatMap (encI 40) ++ [11] = B
  intro hlen hbytes htake d
  induction d with
  | zero =>
    intro n hn _
    refine Ev.step (fun k => by rw [gangwaylaw5_CodeBack.l1]) ?_
    exact Ev.ifn (by omega) hnext
  | succ d ih =>
    intro n hn hn2
    refine Ev.step (fun k => by rw [gangwaylaw5_CodeBack.l1]) ?_
    by_cases h : (n : Int) < (B.length : Int)
    · refine Ev.ifp h (Ev.ifp (by omega) (Ev.ifp (by omega) ?_))
      have hb : Bytes (B.take n) := bytes_of (by rw [List.length_take]; omega) (fun y hy => hbytes y (List.mem_of_mem_take hy))
      have hd := decode_ev hb (by rw [List.length_take]; omega)
      rw [htake n (by omega)] at hd
      rw [Int.toNat_natCast]
      refine Ev.bd hd ?_
      refine Ev.val (v := (100 : Int)) rfl (Ev.ifp rfl ?_)
      have e : wrap64 (wrap64 ((n : Int) + 1) + wrap64 ((B.length : Int) / 20)) = ((n + 1 + B.length / 20 : Nat) : Int) := by
        rw [w64 (x := (n : Int) + 1) (by omega) (by omega), w64 (x := (B.length : Int) / 20) (by omega) (by omega), w64 (by omega) (by omega)]
        omega
      rw [e]
      exact ih (n + 1 + B.length / 20) (by omega) (by omega)
    · exact Ev.ifn h hnext
theorem back_l0 (L : List S26) (hL : L.length ≤ 9223372036854775806) (hok : ∀ x ∈ L, okT26 x) : ∀ (d j : Nat), j + d = L.length → Ev (fun k => gangwaylaw5_CodeBack.l0 k L (j : Int)) true := by
  intro d
  induction d with
  | zero =>
    intro j hj
    refine Ev.step (fun k => by rw [gangwaylaw5_CodeBack.l0]) ?_
    refine Ev.ifn (by omega) ?_
    refine Ev.step (fun k => by rw [gangwaylaw5_CodeBack.j1]) ?_
    refine Ev.ifn (by decide) ?_
    exact Ev.bd wakes_ev (Ev.now _)
  | succ d ih =>
    intro j hj
    have e3 : wrap64 ((j : Int) + 1) = ((j + 1 : Nat) : Int) := by rw [w64 (by omega) (by omega)]; omega
    have hg := rd26_nat L j (by omega)
    obtain ⟨⟨hl, hi⟩, hb, hbb⟩ := open26 (hok _ (List.getElem_mem (by omega : j < L.length)))
    refine Ev.step (fun k => by rw [gangwaylaw5_CodeBack.l0]) ?_
    refine Ev.ifp (by omega) ?_
    refine Ev.step (fun k => by rw [gangwaylaw5_CodeBack.j1]) ?_
    by_cases h10 : (j : Int) < 10
    · refine Ev.ifp (decide_eq_true h10) (Ev.ifp (by omega) (Ev.ifp (by omega) ?_))
      rw [hg]
      generalize L[j]'(by omega) = x at hl hi hb hbb ⊢
      obtain ⟨r, hr⟩ := heavy_ev x.f0 x.f1 (by omega) hi
      refine Ev.bd hr ?_
      by_cases hrt : r = true
      · exact Ev.ifp hrt (Ev.now _)
      rw [Bool.eq_false_iff.mpr hrt] at hr
      refine Ev.ifn hrt ?_
      have hlb := light_b x.f0 x.f1 (by omega) hi hr
      have hnext : Ev (fun k => gangwaylaw5_CodeBack.l0 k L (wrap64 ((j : Int) + 1))) true := by rw [e3]; exact ih (j + 1) (by omega)
      have hB : Bytes x.f1 := bytes_of (by omega) hbb
      have hj3 : Ev (fun k => gangwaylaw5_CodeBack.j3 k L (j : Int) x.f0 x.f1) true := by
        refine Ev.step (fun k => by rw [gangwaylaw5_CodeBack.j3]) ?_
        have hd := decode_ev hB (by omega)
        cases hdec : decS x.f1 with
        | none =>
          rw [hdec] at hd
          refine Ev.bd hd ?_
          exact Ev.val (v := (100 : Int)) rfl (Ev.ifn (by decide) hnext)
        | some p =>
          obtain ⟨l, t⟩ := p
          rw [hdec] at hd
          obtain ⟨m1, m2, m3, m4, m5⟩ := dec_may hB.2 (by omega) hdec
          have henc := encode_ev l (by omega) m4 (by omega)
          have hchk := check_ev l (by omega) m4
          rw [if_pos m1] at henc hchk
          refine Ev.bd hd ?_
          refine Ev.val (v := (0 : Int)) rfl (Ev.ifp rfl ?_)
          refine Ev.bd henc ?_
          refine Ev.val (v := (0 : Int)) rfl (Ev.ifp rfl ?_)
          refine Ev.ifn ?_ ?_
          · have := m5.length_le
            simp only [pos, List.length_append, List.length_singleton]
            omega
          · refine Ev.bd hchk ?_
            exact Ev.val (v := (0 : Int)) rfl (Ev.ifp rfl hnext)
      by_cases hc : (x.f0).all (mayI 40) = true
      · obtain ⟨hlen, _⟩ := light_len x.f0 x.f1 (by omega) hi hc hr
        have henc := encode_ev x.f0 (by omega) hi (by omega)
        rw [if_pos hc] at henc
        refine Ev.bd henc ?_
        refine Ev.val (v := (0 : Int)) rfl (Ev.ifp rfl ?_)
        have hlB : (x.f0.flatMap (encI 40) ++ [11]).length ≤ 80001 := by rw [List.length_append, List.length_singleton]; omega
        refine Ev.bd (copyb_ev (x.f0.flatMap (encI 40) ++ [11]) (by omega)) ?_
        refine Ev.ifp (show (x.f0.flatMap (encI 40) ++ [11]).length + x.f1.length < 140737488355328 by omega) ?_
        have hbytes : Bytes (x.f0.flatMap (encI 40) ++ [11] ++ x.f1) := bytes_of (by rw [List.length_append]; omega) (fun y hy => by
          rcases List.mem_append.1 hy with hy | hy
          · rcases List.mem_append.1 hy with hy | hy
            · exact enc_bytes 40 _ y hy
            · rw [List.mem_singleton.1 hy]; decide
          · exact hbb y hy)
        have hd := decode_ev hbytes (by rw [List.length_append]; omega)
        rw [show decS (x.f0.flatMap (encI 40) ++ [11] ++ x.f1) = some (x.f0, x.f1) from by rw [List.append_assoc]; exact dec_enc x.f0 hc hi (by omega) x.f1] at hd
        refine Ev.bd hd ?_
        refine Ev.val (v := (0 : Int)) rfl (Ev.ifp rfl ?_)
        refine Ev.ifp ?_ ?_
        · simp only [pos, List.length_append, List.length_singleton]
          omega
        obtain ⟨n, hn⟩ := oks_up x.f0 hi
        refine Ev.bd (eqi_ev n x.f0 ⟨hl, hn⟩) (Ev.ifp rfl ?_)
        exact back_l1 L (j : Int) x.f0 x.f0 x.f1 hc hi hlen hj3 (x.f0.flatMap (encI 40) ++ [11]).length 0 (by omega) (by omega)
      · have henc : Ev (fun k => code_Encode.f k x.f0) ([], 100) := by
          refine Ev.bd (all_ev 40 (by omega) x.f0 (by omega) hi) ?_
          exact Ev.ifn hc (Ev.now _)
        refine Ev.bd henc ?_
        exact Ev.val (v := (100 : Int)) rfl (Ev.ifn (by decide) hj3)
    · refine Ev.ifn (by rw [decide_eq_false h10]; decide) ?_
      exact Ev.bd wakes_ev (Ev.now _)
theorem CodeBack : gangwaylaw5_CodeBack.Pure := by
  rintro L ⟨hL, hok⟩
  exact (back_l0 L (by omega) hok L.length 0 (by omega)).rounds
end Go.Proofs.Ytlahigmoljflkaa.Pure
