/- THE DEN MACHINE, tenth part: the same values and objects by other numbers. -/
import Derived.Test.YtnlnjcgoodgmbaaD9
set_option linter.unusedVariables false
set_option linter.unusedSectionVars false
namespace Go.Proofs.YtnlnjcgoodgmbaaM
open Go.RowKit Go.Proofs.YtnlnjcgoodgmbaaW.PrintWords Go.Proofs.YtnlnjcgoodgmbaaW.PrintLast
open Tys Tab Kds
variable [Tys] [Tab] [Kds]
section
variable {C : Ctx} {E : Nat → Value} {Im : Nat → Prop} {s : St} {a : Act} {w w' : World}
/-- The places by other numbers. -/
def En (E : Nat → Value) (m : List Nat) : Nat → Value := fun q => match m[q]? with
  | some i => E i
  | none => .nilIface
theorem idx_some : ∀ {l : List Nat} {i j : Nat}, idx i l = some j → l[j]? = some i
  | [], i, j, h => by cases h
  | x :: l, i, j, h => by
    unfold idx at h
    split at h
    · rename_i hb
      injection h with h
      subst h
      rw [Nat.eq_of_beq_eq_true hb]
      rfl
    · split at h
      · rename_i k hk
        injection h with h
        subst h
        rw [List.getElem?_cons_succ]
        exact idx_some hk
      · cases h
theorem idx_none : ∀ {l : List Nat} {i : Nat}, idx i l = none → i ∉ l
  | [], i, h => by simp
  | x :: l, i, h => by
    unfold idx at h
    split at h
    · cases h
    · rename_i hb
      split at h
      · cases h
      · rename_i hn
        intro hm
        rcases List.mem_cons.1 hm with e | hm
        · exact Nat.ne_of_beq_eq_false hb e
        · exact idx_none hn hm
theorem memB_false {l : List Nat} {i : Nat} (h : memB i l = false) : i ∉ l := by
  unfold memB at h
  split at h
  · cases h
  · rename_i hn
    exact idx_none hn
theorem nodupB_ok : ∀ {l : List Nat}, nodupB l = true → l.Nodup
  | [], _ => List.nodup_nil
  | i :: l, h => by
    unfold nodupB at h
    split at h
    · cases h
    · rename_i hb
      exact List.nodup_cons.2 ⟨memB_false hb, nodupB_ok h⟩
theorem En_idx {m : List Nat} {i j : Nat} (h : idx i m = some j) : En E m j = E i ∧ j < m.length := by
  have h1 := idx_some h
  exact ⟨by unfold En; rw [h1], (List.getElem?_eq_some_iff.1 h1).1⟩
theorem rnL_len (m : List Nat) : ∀ l : List AV, (rnL s m l).length = l.length
  | [] => rfl
  | v :: l => by unfold rnL; rw [List.length_cons, List.length_cons, rnL_len m l]
theorem HRel.fro (hH : HRel C E Im s.nx s.hp w) : ∀ i t xs, s.look i = .fro t xs → Rep E s.nx w Im (.ro t xs) (E i) := fun i t xs hl => (hH.ob i _ (look_some hl (by simp))).2
mutual
theorem rn_rep (hH : ∀ i t xs, s.look i = .fro t xs → Rep E s.nx w Im (.ro t xs) (E i)) (m : List Nat) : ∀ (v : AV) (u : Value), Rep E s.nx w Im v u → Rep (En E m) m.length w Im (rn s m v) u
  | .int k n, u, h => h
  | .bl p d, u, h => h
  | .bo b, u, h => h
  | .str b, u, h => h
  | .nili, u, h => h
  | .nils, u, h => h
  | .nilp, u, h => h
  | .ro t xs, u, h => h
  | .lost, u, h => trivial
  | .agg l, u, h => by
    obtain ⟨cs, e, h1, h2⟩ := h
    exact ⟨cs, e, rnL_rep hH m l cs h1, h2⟩
  | .tup l, u, h => by
    obtain ⟨cs, e, h1⟩ := h
    exact ⟨cs, e, rnL_rep hH m l cs h1⟩
  | .fn f l, u, h => by
    obtain ⟨cs, e, h1⟩ := h
    exact ⟨cs, e, rnL_rep hH m l cs h1⟩
  | .rop cs, u, h => by
    obtain ⟨a, vs, e, h1, h2, h3, h4⟩ := h
    exact ⟨a, vs, e, h1, h2, rnL_rep hH m cs vs h3, h4⟩
  | .ifc t v, u, h => by
    obtain ⟨u', e, h1⟩ := h
    exact ⟨u', e, rn_rep hH m v u' h1⟩
  | .elp i t q off, u, h => by
    unfold rn
    split
    · split
      · rename_i j hj
        obtain ⟨e1, e2⟩ := En_idx (E := E) hj
        obtain ⟨h1, g, n, c, h2, h3⟩ := h
        exact ⟨e2, g, n, c, by rw [e1]; exact h2, h3⟩
      · trivial
    · trivial
  | .ela i t e j off, u, h => trivial
  | .cut i lo n, u, h => trivial
  | .nilf, u, h => h
  | .nilm, u, h => h
  | .bm f l, u, h => by
    obtain ⟨cs, e, h1⟩ := h
    exact ⟨cs, e, rnL_rep hH m l cs h1⟩
  | .vro t cs, u, h => by
    obtain ⟨a, vs, e, h1, h2, h3, h4⟩ := h
    refine ⟨a, vs, ?_, h1, h2, rnL_rep hH m cs vs h3, h4⟩
    rw [e, rnL_len]
  | .mp i, u, h => by
    unfold rn
    split
    · rename_i j hj
      obtain ⟨e1, e2⟩ := En_idx (E := E) hj
      exact ⟨e2, by rw [e1]; exact h.2.1, h.2.2⟩
    · trivial
  | .own i, u, h => by
    unfold rn
    split
    · split
      · rename_i j hj
        obtain ⟨e1, e2⟩ := En_idx (E := E) hj
        exact ⟨e2, by rw [e1]; exact h.2.1, h.2.2⟩
      · trivial
    · rename_i t xs hl
      have hob' := hH i t xs hl
      rw [← h.2.1] at hob'
      exact hob'
    · trivial
  | .ptr i off, u, h => by
    unfold rn
    split
    · rename_i j hj
      obtain ⟨e1, e2⟩ := En_idx (E := E) hj
      obtain ⟨h1, g, h2, h3⟩ := h
      exact ⟨e2, g, by rw [e1]; exact h2, h3⟩
    · trivial
theorem rnL_rep (hH : ∀ i t xs, s.look i = .fro t xs → Rep E s.nx w Im (.ro t xs) (E i)) (m : List Nat) : ∀ (l : List AV) (us : List Value), RepL E s.nx w Im l us → RepL (En E m) m.length w Im (rnL s m l) us
  | [], us, h => h
  | v :: l, us, h => by
    obtain ⟨u, us', e, h1, h2⟩ := h
    exact ⟨u, us', e, rn_rep hH m v u h1, rnL_rep hH m l us' h2⟩
end
theorem obsOf_get (s : St) (m : List Nat) : ∀ (l : List Nat) (q : Nat), (obsOf s m l)[q]? = (l[q]?).map fun i => rnO s m (s.look i)
  | [], q => by simp [obsOf]
  | i :: l, 0 => by simp [obsOf]
  | i :: l, q + 1 => by
    unfold obsOf
    rw [List.getElem?_cons_succ, List.getElem?_cons_succ]
    exact obsOf_get s m l q
theorem obsOf_len (s : St) (m : List Nat) : ∀ (l : List Nat), (obsOf s m l).length = l.length
  | [] => rfl
  | i :: l => by unfold obsOf; rw [List.length_cons, List.length_cons, obsOf_len s m l]
theorem hpFrom_get : ∀ (l : List Ob) (k i : Nat), get (hpFrom k l) i = if k ≤ i then l[i - k]? else none
  | [], k, i => by unfold hpFrom; split <;> rfl
  | o :: l, k, i => by
    unfold hpFrom
    rw [get_cons, hpFrom_get l (k + 1) i]
    by_cases e : i = k
    · rw [if_pos e, if_pos (by omega), e, Nat.sub_self]
      rfl
    · rw [if_neg e]
      by_cases h : k ≤ i
      · rw [if_pos h, if_pos (by omega), show i - k = (i - (k + 1)) + 1 by omega, List.getElem?_cons_succ]
      · rw [if_neg h, if_neg (by omega)]
theorem hp0_get (l : List Ob) (i : Nat) : get (hpFrom 0 l) i = l[i]? := by
  rw [hpFrom_get, if_pos (Nat.zero_le _), Nat.sub_zero]
theorem mb_rnO {m : List Nat} {o : Ob} {v : Value} : (rnO s m o).mb v = o.mb v := by
  cases o with
  | box t cs => exact mb_box
  | _ => rfl
theorem look_get {i : Nat} : get s.hp i = some (s.look i) ∨ s.look i = .dead := by
  unfold St.look
  split
  · rename_i o ho
    exact .inl ho
  · exact .inr rfl
theorem nodup_inj {m : List Nat} (h : m.Nodup) {p q i : Nat} (hp : m[p]? = some i) (hq : m[q]? = some i) : p = q := by
  obtain ⟨h1, e1⟩ := List.getElem?_eq_some_iff.1 hp
  obtain ⟨h2, e2⟩ := List.getElem?_eq_some_iff.1 hq
  exact (List.getElem_inj h).1 (e1.trans e2.symm)
/-- The objects by other numbers. -/
theorem HRel.canon (hH : HRel C E Im s.nx s.hp w) {m : List Nat} (hm : m.Nodup) (hnp : ∀ q, q < C.np → m[q]? = some q)  : HRel C (En E m) Im m.length (hpFrom 0 (obsOf s m m)) w := by
  have key : ∀ q o, get (hpFrom 0 (obsOf s m m)) q = some o → ∃ i, m[q]? = some i ∧ o = rnO s m (s.look i) ∧ En E m q = E i ∧ q < m.length := by
    intro q o h
    rw [hp0_get, obsOf_get] at h
    obtain ⟨i, hi, e⟩ := Option.map_eq_some_iff.1 h
    exact ⟨i, hi, e.symm, by unfold En; rw [hi], (List.getElem?_eq_some_iff.1 hi).1⟩
  have mbd : ∀ u k, (Ob.dead : Ob).mb u = some k → False := fun u k hk => by simp [Ob.mb] at hk
  refine ⟨hH.im, fun q o h => ?_, fun p q o o' k hpq h h' hk => ?_, fun q o k h hk => ?_, fun q o k h hk => ?_, hH.size, hH.frame, hH.same, hH.imo, ?_, fun q hq => ?_, hH.im0⟩
  · obtain ⟨i, hi, rfl, hE, hlt⟩ := key q o h
    refine ⟨hlt, ?_⟩
    rw [hE]
    rcases look_get (s := s) (i := i) with hg | hd
    · have hob := (hH.ob i _ hg).2
      revert hob
      cases s.look i with
      | box t cs =>
        rintro ⟨g, vs, e, h1, h2, h3⟩
        exact ⟨g, vs, e, h1, rnL_rep hH.fro m cs vs h2, h3⟩
      | row t xs => exact id
      | arr t e xs => exact id
      | map t k e es => exact id
      | fro t xs => exact id
      | dead => exact id
    · rw [hd]
      trivial
  · obtain ⟨i, hi, rfl, hE, _⟩ := key p o h
    obtain ⟨j, hj, rfl, hE', _⟩ := key q o' h'
    rw [hE, mb_rnO] at hk
    rw [hE', mb_rnO]
    have hij : i ≠ j := fun e => hpq (nodup_inj hm hi (e ▸ hj))
    rcases look_get (s := s) (i := i) with hg | hd
    · rcases look_get (s := s) (i := j) with hg' | hd'
      · exact hH.dis i j _ _ k hij hg hg' hk
      · rw [hd']
        exact fun e => mbd _ _ e
    · rw [hd] at hk
      exact (mbd _ _ hk).elim
  · obtain ⟨i, hi, rfl, hE, _⟩ := key q o h
    rw [hE, mb_rnO] at hk
    rcases look_get (s := s) (i := i) with hg | hd
    · exact hH.imd i _ k hg hk
    · rw [hd] at hk
      exact (mbd _ _ hk).elim
  · obtain ⟨i, hi, rfl, hE, _⟩ := key q o h
    rw [hE, mb_rnO] at hk
    rcases look_get (s := s) (i := i) with hg | hd
    · exact hH.mu i _ k hg hk
    · rw [hd] at hk
      exact (mbd _ _ hk).elim
  · rcases Nat.eq_zero_or_pos C.np with h0 | h0
    · omega
    · have := (List.getElem?_eq_some_iff.1 (hnp (C.np - 1) (by omega))).1
      omega
  · unfold En
    rw [hnp q hq]
    exact hH.e0 q hq
theorem pick_some {ρ : Type} {r : ρ} : ∀ {l : List Nat} {K : List AV → Option ρ}, pick s l K = some r → ∃ vs, K vs = some r ∧ l.map (get s.sl) = vs.map some
  | [], K, h => ⟨[], h, rfl⟩
  | i :: l, K, h => by
    unfold pick at h
    split at h
    · rename_i v hv
      obtain ⟨vs, h1, h2⟩ := pick_some h
      exact ⟨v :: vs, h1, by rw [List.map_cons, List.map_cons, hv, h2]⟩
    · cases h
theorem ord_pre : ∀ (n : Nat) (l acc : List Nat), ∃ t, ord s n l acc = acc ++ t
  | 0, l, acc => ⟨[], by unfold ord; simp⟩
  | n + 1, [], acc => ⟨[], by unfold ord; simp⟩
  | n + 1, i :: l, acc => by
    unfold ord
    split
    · exact ord_pre n l acc
    · split
      · obtain ⟨t, e⟩ := ord_pre n (idsL _ ++ l) (acc ++ [i])
        exact ⟨[i] ++ t, by rw [e, List.append_assoc]⟩
      · obtain ⟨t, e⟩ := ord_pre n l (acc ++ [i])
        exact ⟨[i] ++ t, by rw [e, List.append_assoc]⟩
      · obtain ⟨t, e⟩ := ord_pre n l (acc ++ [i])
        exact ⟨[i] ++ t, by rw [e, List.append_assoc]⟩
      · obtain ⟨t, e⟩ := ord_pre n l (acc ++ [i])
        exact ⟨[i] ++ t, by rw [e, List.append_assoc]⟩
      · exact ord_pre n l acc
theorem upto_len : ∀ n, (upto n).length = n
  | 0 => rfl
  | n + 1 => by unfold upto; rw [List.length_append, upto_len n]; rfl
theorem upto_get : ∀ {n q : Nat}, q < n → (upto n)[q]? = some q
  | 0, q, h => by omega
  | n + 1, q, h => by
    unfold upto
    by_cases e : q < n
    · rw [List.getElem?_append_left (by rw [upto_len]; exact e)]
      exact upto_get e
    · have : q = n := by omega
      subst this
      rw [List.getElem?_append_right (by rw [upto_len]; exact Nat.le_refl _), upto_len, Nat.sub_self]
      rfl
theorem canonK_some {ρ : Type} {r : ρ} {np : Nat} {vs : List AV} {J : List AV → List Ob → Option ρ} (h : canonK np s vs J = some r) : ∃ m : List Nat, m.Nodup ∧ (∀ q, q < np → m[q]? = some q) ∧ np ≤ m.length ∧ J (rnL s m vs) (obsOf s m m) = some r := by
  unfold canonK canonM at h
  split at h
  · rename_i hb
    obtain ⟨t, e⟩ := ord_pre (s := s) 1000 (inner s (upto np) ++ idsL vs) (upto np)
    refine ⟨_, nodupB_ok hb, fun q hq => ?_, ?_, h⟩
    · rw [e, List.getElem?_append_left (by rw [upto_len]; exact hq)]
      exact upto_get hq
    · rw [e, List.length_append, upto_len]
      omega
  · cases h
theorem zipS_get : ∀ {l : List Nat} {vs : List AV} {i : Nat} {v : AV}, get (zipS l vs) i = some v → ∃ q : Nat, l[q]? = some i ∧ vs[q]? = some v
  | [], vs, i, v, h => by cases vs <;> cases h
  | j :: l, [], i, v, h => by cases h
  | j :: l, x :: vs, i, v, h => by
    unfold zipS at h
    rw [get_cons] at h
    split at h
    · rename_i e
      injection h with h
      subst h
      subst e
      exact ⟨0, rfl, rfl⟩
    · obtain ⟨q, h1, h2⟩ := zipS_get h
      exact ⟨q + 1, by rw [List.getElem?_cons_succ]; exact h1, by rw [List.getElem?_cons_succ]; exact h2⟩
theorem rnL_get (m : List Nat) : ∀ (l : List AV) (q : Nat), (rnL s m l)[q]? = (l[q]?).map (rn s m)
  | [], q => by unfold rnL; simp
  | v :: l, 0 => by unfold rnL; simp
  | v :: l, q + 1 => by
    unfold rnL
    rw [List.getElem?_cons_succ, List.getElem?_cons_succ]
    exact rnL_get m l q
/-- A state behind a stop: what it stopped with, by its own numbers. -/
theorem Rel.canon {md : Nat} (hR : Rel C E Im s a w) {live m : List Nat} {vs : List AV} (hm : m.Nodup) (hnp : ∀ q, q < C.np → m[q]? = some q) (hv : live.map (get s.sl) = vs.map some) : Rel C (En E m) Im (mkS md s.n live (rnL s m vs) (obsOf s m m)) a w := by
  refine ⟨?_, ⟨fun i v h => ?_, fun i v h => ?_, hR.s.n, hR.s.defers⟩, hR.n⟩
  · show HRel C (En E m) Im (obsOf s m m).length (hpFrom 0 (obsOf s m m)) w
    rw [obsOf_len]
    exact hR.h.canon hm hnp
  · obtain ⟨q, h1, h2⟩ := zipS_get (show get (zipS live (rnL s m vs)) i = some v from h)
    rw [rnL_get] at h2
    obtain ⟨x, hx, rfl⟩ := Option.map_eq_some_iff.1 h2
    have h3 : (live.map (get s.sl))[q]? = some (get s.sl i) := by rw [List.getElem?_map, h1]; rfl
    rw [hv, List.getElem?_map, hx] at h3
    have h4 : get s.sl i = some x := by injection h3 with h3; exact h3.symm
    obtain ⟨u, hu, hr⟩ := hR.s.sl i x h4
    refine ⟨u, hu, ?_⟩
    show Rep (En E m) (obsOf s m m).length w Im (rn s m x) u
    rw [obsOf_len]
    exact rn_rep hR.h.fro m x u hr
  · obtain ⟨q, h1, h2⟩ := zipS_get (show get (zipS live (rnL s m vs)) i = some v from h)
    rw [rnL_get] at h2
    obtain ⟨x, hx, rfl⟩ := Option.map_eq_some_iff.1 h2
    have h3 : (live.map (get s.sl))[q]? = some (get s.sl i) := by rw [List.getElem?_map, h1]; rfl
    rw [hv, List.getElem?_map, hx] at h3
    have h4 : get s.sl i = some x := by injection h3 with h3; exact h3.symm
    exact hR.s.lt i x h4
mutual
theorem subV_rep {i nx : Nat} (hi : i < nx) : ∀ (v : AV) (u : Value), Rep E nx w Im v u → Rep (ext E nx (E i)) (nx + 1) w Im (subV i nx v) u
  | .int k n, u, h => h
  | .bl p d, u, h => h
  | .bo b, u, h => h
  | .str b, u, h => h
  | .nili, u, h => h
  | .nils, u, h => h
  | .nilp, u, h => h
  | .nilf, u, h => h
  | .nilm, u, h => h
  | .ro t xs, u, h => h
  | .lost, u, h => trivial
  | .cut i lo n, u, h => h
  | .agg l, u, h => by
    obtain ⟨cs, e, h1, h2⟩ := h
    exact ⟨cs, e, subL_rep hi l cs h1, h2⟩
  | .tup l, u, h => by
    obtain ⟨cs, e, h1⟩ := h
    exact ⟨cs, e, subL_rep hi l cs h1⟩
  | .fn f l, u, h => by
    obtain ⟨cs, e, h1⟩ := h
    exact ⟨cs, e, subL_rep hi l cs h1⟩
  | .bm f l, u, h => by
    obtain ⟨cs, e, h1⟩ := h
    exact ⟨cs, e, subL_rep hi l cs h1⟩
  | .rop cs, u, h => by
    obtain ⟨a, vs, e, h1, h2, h3, h4⟩ := h
    exact ⟨a, vs, e, h1, h2, subL_rep hi cs vs h3, h4⟩
  | .vro t cs, u, h => by
    obtain ⟨a, vs, e, h1, h2, h3, h4⟩ := h
    refine ⟨a, vs, ?_, h1, h2, subL_rep hi cs vs h3, h4⟩
    rw [e, subL_len]
  | .ifc t v, u, h => by
    obtain ⟨u', e, h1⟩ := h
    exact ⟨u', e, subV_rep hi v u' h1⟩
  | .ptr k off, u, h => by
    obtain ⟨h1, g, h2, h3⟩ := h
    exact ⟨by omega, g, by rw [ext_lt h1]; exact h2, h3⟩
  | .ela k t e j off, u, h => by
    obtain ⟨h1, g, n, h2, h3⟩ := h
    exact ⟨by omega, g, n, by rw [ext_lt h1]; exact h2, h3⟩
  | .mp k, u, h => ⟨by have := h.1; omega, by rw [ext_lt h.1]; exact h.2.1, h.2.2⟩
  | .own k, u, h => by
    unfold subV
    split
    · rename_i hb
      obtain rfl : k = i := Nat.eq_of_beq_eq_true hb
      exact ⟨Nat.lt_succ_self _, by rw [ext_self]; exact h.2.1, h.2.2⟩
    · exact ⟨by have := h.1; omega, by rw [ext_lt h.1]; exact h.2.1, h.2.2⟩
  | .elp k t q off, u, h => by
    obtain ⟨h1, g, n, c, h2, h3⟩ := h
    unfold subV
    split
    · rename_i hb
      obtain rfl : k = i := Nat.eq_of_beq_eq_true hb
      exact ⟨Nat.lt_succ_self _, g, n, c, by rw [ext_self]; exact h2, h3⟩
    · exact ⟨by omega, g, n, c, by rw [ext_lt h1]; exact h2, h3⟩
theorem subL_rep {i nx : Nat} (hi : i < nx) : ∀ (l : List AV) (us : List Value), RepL E nx w Im l us → RepL (ext E nx (E i)) (nx + 1) w Im (subL i nx l) us
  | [], us, h => h
  | v :: l, us, h => by
    obtain ⟨u, us', e, h1, h2⟩ := h
    exact ⟨u, us', e, subV_rep hi v u h1, subL_rep hi l us' h2⟩
theorem subL_len {i nx : Nat} : ∀ (l : List AV), (subL i nx l).length = l.length
  | [] => rfl
  | v :: l => by unfold subL; rw [List.length_cons, List.length_cons, subL_len l]
end
theorem subHp_get {i j : Nat} : ∀ (l : List (Nat × Ob)) (q : Nat), get (subHp i j l) q = (get l q).map (subO i j)
  | [], q => rfl
  | (k, o) :: l, q => by
    unfold subHp
    rw [get_cons, get_cons, subHp_get l q]
    split <;> rfl
theorem subSl_get {i j : Nat} : ∀ (l : List (Nat × AV)) (q : Nat), get (subSl i j l) q = (get l q).map (subV i j)
  | [], q => rfl
  | (k, o) :: l, q => by
    unfold subSl
    rw [get_cons, get_cons, subSl_get l q]
    split <;> rfl
theorem mb_subO {i j : Nat} {o : Ob} {v : Value} : (subO i j o).mb v = o.mb v := by
  cases o with
  | box t cs => exact mb_box
  | _ => rfl
theorem subO_rel {i nx : Nat} (hi : i < nx) {o : Ob} {v : Value} (h : ObRel E nx w Im v o) : ObRel (ext E nx (E i)) (nx + 1) w Im v (subO i nx o) := by
  have st : ∀ o', ObRel E nx w Im v o' → ObRel (ext E nx (E i)) (nx + 1) w Im v o' := fun o' h' => h'.step (fun _ _ _ => rfl) (fun _ _ _ => rfl) (fun _ h => h) (fun q hq => ext_lt hq) (Nat.le_succ _)
  cases o with
  | box t cs =>
    obtain ⟨g, vs, e, h1, h2, h3⟩ := h
    exact ⟨g, vs, e, h1, subL_rep hi cs vs h2, h3⟩
  | _ => exact st _ h
theorem ren1_ok {i : Nat} (hR : Rel C E Im s a w) : ∃ E', Rel C E' Im (ren1 i s) a w := by
  unfold ren1
  split
  rotate_left
  · exact ⟨E, hR⟩
  rename_i t xs hl
  have hg := look_some hl (by simp)
  obtain ⟨hi, hob⟩ := hR.h.ob i _ hg
  have mbd : ∀ u k, (Ob.dead : Ob).mb u = some k → False := fun u k hk => by simp [Ob.mb] at hk
  have key : ∀ q o, get (subHp i s.nx ((s.nx, .row t xs) :: (i, .dead) :: s.hp)) q = some o → q < s.nx + 1 ∧ (o = .dead ∨ ∃ p o0, q ≠ i ∧ p = (if q = s.nx then i else q) ∧ get s.hp p = some o0 ∧ o = subO i s.nx o0 ∧ ext E s.nx (E i) q = E p) := by
    intro q o h
    rw [subHp_get, get_cons, get_cons] at h
    by_cases e : q = s.nx
    · rw [if_pos e] at h
      injection h with h
      subst h
      exact ⟨by omega, .inr ⟨i, _, by omega, by rw [if_pos e], hg, rfl, by rw [e, ext_self]⟩⟩
    · rw [if_neg e] at h
      by_cases e2 : q = i
      · rw [if_pos e2] at h
        injection h with h
        exact ⟨by omega, .inl h.symm⟩
      · rw [if_neg e2] at h
        obtain ⟨o0, h0, e3⟩ := Option.map_eq_some_iff.1 h
        have hlt := (hR.h.ob q o0 h0).1
        exact ⟨by omega, .inr ⟨q, o0, e2, by rw [if_neg e], h0, e3.symm, ext_lt hlt⟩⟩
  refine ⟨ext E s.nx (E i), ⟨hR.h.im, fun q o h => ?_, fun p q o o' k hpq h h' hk => ?_, fun q o k h hk => ?_, fun q o k h hk => ?_, hR.h.size, hR.h.frame, hR.h.same, hR.h.imo, Nat.le_succ_of_le hR.h.np, fun q hq => (ext_lt (Nat.lt_of_lt_of_le hq hR.h.np)).trans (hR.h.e0 q hq), hR.h.im0⟩, ⟨fun k v h => ?_, fun k v h => ?_, hR.s.n, hR.s.defers⟩, hR.n⟩
  · obtain ⟨h1, h2⟩ := key q o h
    refine ⟨h1, ?_⟩
    rcases h2 with rfl | ⟨p, o0, _, _, h3, rfl, h4⟩
    · trivial
    · rw [h4]
      exact subO_rel hi (hR.h.ob p o0 h3).2
  · rcases (key p o h).2 with rfl | ⟨p', o0, hne, hp, h3, rfl, h4⟩
    · exact (mbd _ _ hk).elim
    · rcases (key q o' h').2 with rfl | ⟨q', o1, hne', hq, h3', rfl, h4'⟩
      · exact fun e => mbd _ _ e
      · rw [h4, mb_subO] at hk
        rw [h4', mb_subO]
        refine hR.h.dis p' q' _ _ k ?_ h3 h3' hk
        intro e
        rw [hp, hq] at e
        split at e <;> split at e <;> omega
  · rcases (key q o h).2 with rfl | ⟨p', o0, hne, hp, h3, rfl, h4⟩
    · exact (mbd _ _ hk).elim
    · rw [h4, mb_subO] at hk
      exact hR.h.imd p' _ k h3 hk
  · rcases (key q o h).2 with rfl | ⟨p', o0, hne, hp, h3, rfl, h4⟩
    · exact (mbd _ _ hk).elim
    · rw [h4, mb_subO] at hk
      exact hR.h.mu p' _ k h3 hk
  · obtain ⟨v0, h0, rfl⟩ := Option.map_eq_some_iff.1 ((subSl_get (i := i) (j := s.nx) s.sl k).symm.trans h)
    obtain ⟨u, hu, hr⟩ := hR.s.sl k v0 h0
    exact ⟨u, hu, subV_rep hi v0 u hr⟩
  · obtain ⟨v0, h0, rfl⟩ := Option.map_eq_some_iff.1 ((subSl_get (i := i) (j := s.nx) s.sl k).symm.trans h)
    exact hR.s.lt k v0 h0
theorem renAll_ok : ∀ (l : List Nat) (E : Nat → Value) (s : St), Rel C E Im s a w → ∃ E', Rel C E' Im (renAll l s) a w
  | [], E, s, hR => ⟨E, hR⟩
  | i :: l, E, s, hR => by
    obtain ⟨E', hR'⟩ := ren1_ok (i := i) hR
    exact renAll_ok l E' _ hR'
end
end Go.Proofs.YtnlnjcgoodgmbaaM
