/- More words for walks: slices that may be nil; cuts of a row that are read and written. -/
import Derived.Laws.IdiomCopy
import Derived.Test.YtdoaininjfbemaaOpn
import Derived.Lib.SliceRun
import Derived.Test.YtdoaininjfbemaaPur
namespace Go.Proofs.YtdoaininjfbemaaO
open Go.RowKit Go.Proofs.YtdoaininjfbemaaW.PrintWords Go.Proofs.YtdoaininjfbemaaW.PrintLast Go.Proofs.YtdoaininjfbemaaW.PrintMore
set_option linter.unusedVariables false

/-- A nil slice has no elements. -/
theorem C_none {α : Type} {d : Kd α} {w : World} {n : Nat} {xs : List α} (h : Kd.C d w none n xs) : xs = [] := by
  obtain ⟨h1, h2, h3⟩ := h
  rcases Nat.eq_zero_or_pos n with e | e
  · exact List.length_eq_zero_iff.1 (h1.trans e)
  · obtain ⟨ad, e', _⟩ := h3 e
    cases e'

theorem nil_or {A : Option Addr} : A.isNone = true ∨ A.isNone = false := by cases A <;> simp

/-- copy(v[lo:], ys), v a row of scalars of one's own: ys lies from lo on in it then. -/
theorem R_copy_cut {P : Program} {ops : Array Oper} {rest : List Oper} {o : Oper} {a : Act} {Q : Exit → Act → World → Prop} {α : Type} {enc : α → Value} {h1 : ∀ x, (enc x).oneCell' = true} (d : α) {w0 W : World} (base : Nat) (hgd : o.guard = none) (s x : Operand) (t t' e : TypeId)
    (ho : o.op = .call { callee := .builtin .copy, args := #[s, x], argTypes := #[t, t'] }) (ht : P.underlying t = some (.slice e)) (hinfo : (P.info? e).map (·.size) = some 1)
    (A0 : Option Addr) (n0 c0 lo : Nat) (xs ys : List α) (A : Option Addr) (m c : Nat) (ok : Nat → Prop) (hs : a.eval s = .slice (if c0 = lo then A0 else A0.map (·.add (lo * 1))) (n0 - lo) (c0 - lo)) (hx : a.eval x = .slice A m c)
    (HO : (Kd.scalar enc h1).R e W base ok (.slice A0 n0 c0) xs) (HR : (Kd.scalar enc h1).C W A m ys) (hlo : lo + m ≤ xs.length) (HB : Below base w0 W) (hbase : base ≤ W.heap.size)
    (h : ∀ w1, (Kd.scalar enc h1).R e w1 base ok (.slice A0 n0 c0) (xs.take lo ++ ys ++ xs.drop (lo + m)) → Below base w0 w1 → W.grownBy w1 (Value.slice A0 n0 c0).ownBlock → wpList P ops Q rest (a.put o.dst (.int .i64 (m : Int))) w1) :
    wpList P ops Q (o :: rest) a W := by
  have hR := Kd.reads_of_C (enc := enc) (d := d) (h1 := h1) HR
  have hm : ys.length = m := hR.1
  have hown := Kd.own_of_R HO
  obtain ⟨hn0, hnc0, _⟩ := Kd.R_reads' HO
  have hmin : Nat.min m (n0 - lo) = m := Nat.min_eq_left (by omega)
  have fin : ∀ w1, (Builtin.copy_ #[t, t'] o.type #[.slice (if c0 = lo then A0 else A0.map (·.add (lo * 1))) (n0 - lo) (c0 - lo), .slice A m c]).run P W = .ok (goInt (m : Int)) w1 → (Kd.scalar enc h1).R e w1 base ok (.slice A0 n0 c0) (xs.take lo ++ ys ++ xs.drop (lo + m)) → W.grownBy w1 (Value.slice A0 n0 c0).ownBlock → wpList P ops Q (o :: rest) a W := by
    intro w1 hr hrow hg
    refine wpList_plain hgd fun K hK => ?_
    unfold Oper.wp execOp
    simp only [ho, resolve, invoke, builtin, Sem.run_bind, Sem.run_pure, Result.andThen_ok, List.map_toArray, List.map_cons, List.map_nil, hs, hx, hr]
    exact hK _ _ (h w1 hrow (HB.grown hg hbase (own_base hown)) hg)
  rcases Nat.eq_zero_or_pos m with h0 | hp
  · refine fin W ?_ ?_ (World.grownBy.refl W _)
    · subst h0
      exact run_copy_none W t t' o.type e _ A _ _ _ c ht hinfo (by simp)
    · subst h0
      obtain rfl : ys = [] := List.eq_nil_of_length_eq_zero hm
      simpa using HO
  · obtain ⟨ad, hA, hc⟩ := hR.2.2 (by omega)
    rcases hown.2 with ⟨_, hx0⟩ | ⟨g, cap, cur, hv, hb, hh, hnc, hcm, hcs, htake⟩
    · omega
    injection hv with hv1 hv2 hv3
    subst hv1 hv3
    have hcs1 : cur.size = c0 := by omega
    have hne : ¬ c0 = lo := by omega
    have hkl : (encs enc ys).length = m := by rw [encs_length, hm]
    have hsrc : ∀ j u, (encs enc ys)[j]? = some u → W.cell? (ad.add j) = some u := by
      intro j u hu
      have hj : j < ys.length := by
        rcases Nat.lt_or_ge j ys.length with h | h
        · exact h
        · rw [List.getElem?_eq_none (by rw [encs_length]; exact h)] at hu
          cases hu
      rw [encs_get (d := d) _ j hj] at hu
      rw [hc j (by omega), ← hu]
    have hr := run_copy_cells (P := P) W t t' o.type e g lo (n0 - lo) (c0 - lo) ad m c (encs enc ys) ht hinfo (by rw [hkl, hmin]) hsrc
      (fun j hj => by rw [cell_of_row W g _ cur e (0, 0) hh]; simp; omega) (fun j _ => blk_frozen hh _) (by intro u hu; simp only [encs, List.mem_map] at hu; obtain ⟨q, _, rfl⟩ := hu; exact h1 q)
    obtain ⟨cur', h3, h4, h5⟩ := setCells_row (encs enc ys) lo W cur hh (by rw [hkl]; omega)
    obtain ⟨s1, s2, s3, s4⟩ := setCells_same g (encs enc ys) lo W
    have hdst : (if c0 = lo then (some (⟨g, 0, none⟩ : Addr)) else (some (⟨g, 0, none⟩ : Addr)).map (·.add (lo * 1))) = some ⟨g, lo, none⟩ := by
      rw [if_neg hne]
      unfold Addr.add
      by_cases hl : lo = 0 <;> simp [hl]
    refine fin _ (by rw [hdst, hA, hr, hkl]) (Kd.R_of_own ?_ HO.1) ⟨s1, s2, s3, by rw [s4]; exact Nat.le_refl _, fun k _ hk => setCells_far _ _ k (fun he => hk (by rw [he]; simp [Value.ownBlock]))⟩
    have hln : (xs.take lo ++ ys ++ xs.drop (lo + m)).length = xs.length := by
      rw [List.length_append, List.length_append, List.length_take, List.length_drop]
      omega
    rw [hln]
    refine ⟨by rw [encs_length, hln, Nat.mul_one], .inr ⟨g, c0, cur', by rw [hn0], hb, h3, hnc, hcm, by rw [h4, hcs], ?_⟩⟩
    have htk : cur.toList.take xs.length = encs enc xs := by rw [← htake, Nat.mul_one]
    have hlc : cur.toList.length = c0 := by rw [Array.length_toList]; exact hcs1
    rw [h5, hkl, encs_append, encs_append, Nat.mul_one]
    have e1 : encs enc (xs.take lo) = cur.toList.take lo := by
      have : encs enc (xs.take lo) = (encs enc xs).take lo := by simp [encs, List.map_take]
      rw [this, ← htk, List.take_take, Nat.min_eq_left (by omega)]
    have e2 : encs enc (xs.drop (lo + m)) = (cur.toList.drop (lo + m)).take (xs.length - (lo + m)) := by
      have : encs enc (xs.drop (lo + m)) = (encs enc xs).drop (lo + m) := by simp [encs, List.map_drop]
      rw [this, ← htk, List.drop_take]
    rw [e1, e2, List.take_append, List.take_of_length_le (by rw [List.length_append, List.length_take, hkl]; omega)]
    congr 1
    rw [List.length_append, List.length_take, hkl]
    congr 1
    omega

end Go.Proofs.YtdoaininjfbemaaO
