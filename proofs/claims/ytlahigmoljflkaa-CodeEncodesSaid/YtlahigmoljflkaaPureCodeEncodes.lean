/- Whether any instructions may be, and their bytes, are the page's, or they are refused: for every list of asks. -/
import Derived.Test.YtlahigmoljflkaaPAllx30
import Derived.Test.YtlahigmoljflkaaQWt
namespace Go.Proofs.Ytlahigmoljflkaa.Pure
open Go.RowKit Go.Proofs.Ytlahigmoljflkaa.PAll Go.Proofs.YtlahigmoljflkaaW.PrintWords Go.Proofs.YtlahigmoljflkaaW.PrintLast Go.Proofs.YtlahigmoljflkaaW.PrintMore Go.Proofs.YtlahigmoljflkaaU Go.Proofs.Ytlahigmoljflkaa.Q
set_option linter.unusedVariables false
/-- Several instructions that came in are nested no deeper than some number. -/
theorem okn_mono : ∀ (n m : Nat), n ≤ m → ∀ x : S45, okT45n n x → okT45n m x := by
  intro n
  induction n with
  | zero => exact fun m _ x h => h.elim
  | succ n ih =>
    intro m hm x h
    obtain ⟨m, rfl⟩ : ∃ q, m = q + 1 := ⟨m - 1, by omega⟩
    obtain ⟨h0, h1, h2, h3, h4, h5, h6, ⟨h7, h7'⟩, ⟨h8, h8'⟩⟩ := h
    exact ⟨h0, h1, h2, h3, h4, h5, h6, ⟨h7, fun y hy => ih m (by omega) y (h7' y hy)⟩, ⟨h8, fun y hy => ih m (by omega) y (h8' y hy)⟩⟩
theorem oks_of : ∀ (l : List S45), (∀ y ∈ l, okT45 y) → ∃ n, ∀ y ∈ l, okT45n n y
  | [], _ => ⟨0, fun y hy => absurd hy (by simp)⟩
  | x :: l, h => by
    obtain ⟨n, hn⟩ := h x (List.mem_cons_self ..)
    obtain ⟨m, hm⟩ := oks_of l (fun y hy => h y (List.mem_cons_of_mem _ hy))
    refine ⟨max n m, fun y hy => ?_⟩
    rcases List.mem_cons.1 hy with rfl | hy
    · exact okn_mono n _ (by omega) _ hn
    · exact okn_mono m _ (by omega) _ (hm y hy)
theorem okT26_open2 {x : S26} (h : okT26 x) : (x.f0.length * 120 ≤ 140737488351232 ∧ ∀ y ∈ x.f0, okT45 y) ∧ (x.f1.length ≤ 140737488351232 ∧ ∀ y ∈ x.f1, 0 ≤ y ∧ y ≤ 255) := by
  obtain ⟨⟨h1, h2⟩, ⟨h3, h4⟩⟩ := h
  exact ⟨⟨h1, h2⟩, ⟨by omega, fun y hy => bd8 (h4 y hy)⟩⟩
theorem eqb_e (a : List Int) (hm : a.length < 140737488355328) : Ev (fun k => gangwayref0_EqBytes.f k a a) true := Ev.big (a.length + 1) fun k hk => by
  rw [eqb_ev a a hm k (by omega), decide_eq_true rfl]
theorem encodes_l0 (L : List S26) (hL : L.length ≤ 9223372036854775806) (hok : ∀ x ∈ L, okT26 x) : ∀ (d j : Nat), j + d = L.length → Ev (fun k => gangwaylaw5_CodeEncodes.l0 k L (j : Int)) true := by
  intro d
  induction d with
  | zero =>
    intro j hj
    refine Ev.step (fun k => by rw [gangwaylaw5_CodeEncodes.l0]) ?_
    refine Ev.ifn (by omega) ?_
    refine Ev.step (fun k => by rw [gangwaylaw5_CodeEncodes.j1]) ?_
    refine Ev.ifn (by decide) ?_
    exact Ev.bd wakes_ev (Ev.now _)
  | succ d ih =>
    intro j hj
    have e3 : wrap64 ((j : Int) + 1) = ((j + 1 : Nat) : Int) := by rw [w64 (by omega) (by omega)]; omega
    have hg := rd26_nat L j (by omega)
    obtain ⟨⟨hl, hi⟩, _⟩ := okT26_open2 (hok _ (List.getElem_mem (by omega : j < L.length)))
    refine Ev.step (fun k => by rw [gangwaylaw5_CodeEncodes.l0]) ?_
    refine Ev.ifp (by omega) ?_
    refine Ev.step (fun k => by rw [gangwaylaw5_CodeEncodes.j1]) ?_
    by_cases h10 : (j : Int) < 10
    · refine Ev.ifp (decide_eq_true h10) (Ev.ifp (by omega) (Ev.ifp (by omega) ?_))
      rw [hg]
      generalize L[j]'(by omega) = x at hl hi ⊢
      obtain ⟨r, hr⟩ := heavy_ev x.f0 x.f1 (by omega) hi
      refine Ev.bd hr ?_
      by_cases hrt : r = true
      · exact Ev.ifp hrt (Ev.now _)
      rw [Bool.eq_false_iff.mpr hrt] at hr
      refine Ev.ifn hrt ?_
      refine Ev.bd (May_ev 40 (by omega) x.f0 (by omega) hi) ?_
      obtain ⟨n, hn⟩ := oks_of x.f0 hi
      have hcopy := copyi_ev n x.f0 ⟨hl, hn⟩
      have heq := eqi_ev n x.f0 ⟨hl, hn⟩
      have hchk := check_ev x.f0 (by omega) hi
      have hnext : Ev (fun k => gangwaylaw5_CodeEncodes.l0 k L (wrap64 ((j : Int) + 1))) true := by rw [e3]; exact ih (j + 1) (by omega)
      by_cases hc : (x.f0).all (mayI 40) = true
      · obtain ⟨hlen, _⟩ := light_len x.f0 x.f1 (by omega) hi hc hr
        have henc := encode_ev x.f0 (by omega) hi (by omega)
        rw [if_pos hc] at henc hchk
        refine Ev.ifp hc ?_
        refine Ev.bd (Bytes_ev x.f0 (by omega) hi hc (by omega)) ?_
        refine Ev.step (fun k => by rw [gangwaylaw5_CodeEncodes.j2]) ?_
        refine Ev.bd hcopy ?_
        refine Ev.bd henc ?_
        refine Ev.bd hchk ?_
        refine Ev.val (v := (0 : Int)) rfl (Ev.ifp rfl ?_)
        refine Ev.val (v := (0 : Int)) rfl (Ev.ifp rfl ?_)
        refine Ev.bd (eqb_e _ (by rw [List.length_append, List.length_singleton]; omega)) (Ev.ifp rfl ?_)
        exact Ev.bd heq (Ev.ifp rfl hnext)
      · refine Ev.ifn hc ?_
        rw [if_neg hc] at hchk
        have henc : Ev (fun k => code_Encode.f k x.f0) ([], 100) := by
          refine Ev.bd (all_ev 40 (by omega) x.f0 (by omega) hi) ?_
          exact Ev.ifn hc (Ev.now _)
        refine Ev.step (fun k => by rw [gangwaylaw5_CodeEncodes.j2]) ?_
        refine Ev.bd hcopy ?_
        refine Ev.bd henc ?_
        refine Ev.bd hchk ?_
        refine Ev.val (v := (100 : Int)) rfl (Ev.ifp rfl ?_)
        refine Ev.val (v := (100 : Int)) rfl (Ev.ifp rfl ?_)
        refine Ev.bd (eqb_e [] (by decide)) (Ev.ifp rfl ?_)
        exact Ev.bd heq (Ev.ifp rfl hnext)
    · refine Ev.ifn (by rw [decide_eq_false h10]; decide) ?_
      exact Ev.bd wakes_ev (Ev.now _)
theorem CodeEncodes : gangwaylaw5_CodeEncodes.Pure := by
  rintro L ⟨hL, hok⟩
  exact (encodes_l0 L (by omega) hok L.length 0 (by omega)).rounds
end Go.Proofs.Ytlahigmoljflkaa.Pure
