/- THE DEN MACHINE, eighth part: rows that are made, written and appended to. -/
import Derived.Test.YtnlnjcgoodgmbaaD7
import Derived.Test.YtnlnjcgoodgmbaaWZeros
import Derived.Lib.AppendZeros
set_option linter.unusedVariables false
set_option linter.unusedSectionVars false
set_option linter.unusedSimpArgs false
namespace Go.Proofs.YtnlnjcgoodgmbaaM
open Go.RowKit Go.Proofs.YtnlnjcgoodgmbaaW.PrintWords
open Tys Tab Kds
variable [Tys] [Tab] [Kds]
section
variable {P : Program} [Laws P] {C : Ctx} {E : Nat → Value} {Im : Nat → Prop} {s : St} {a : Act} {w w' : World} {next : Act → World → Prop} {Q : Exit → Act → World → Prop} {o : Oper} {ρ : Type} {r : ρ} {K : St → Option ρ} {ops : Array Oper}
theorem fillS (sz : Nat) : ∀ (vs : List Value) (j : Nat) (pre post : List Value), (∀ v ∈ vs, v.cells.size = sz) → pre.length = j * sz → post.length = vs.length * sz → Instr.fill (fun i => some (i * sz, sz)) (pre ++ post).toArray ((vs.zipIdx j).map fun p => (p.2, p.1)) = some (pre ++ vs.flatMap fun v => v.cells.toList).toArray
  | [], j, pre, post, _, _, hp => by
    have : post = [] := by simpa using hp
    subst this
    rfl
  | v :: vs, j, pre, post, hv, hpre, hpost => by
    have h1 := hv v (List.mem_cons_self ..)
    rw [List.zipIdx_cons, List.map_cons, Instr.fill]
    simp only
    have hlen : (pre ++ post).length = j * sz + (vs.length + 1) * sz := by rw [List.length_append, hpre, hpost, List.length_cons]
    have hm : (vs.length + 1) * sz = vs.length * sz + sz := by rw [Nat.add_mul, Nat.one_mul]
    have hc : ¬ (v.cells.size ≠ sz || decide (j * sz + v.cells.size > (pre ++ post).toArray.size)) = true := by
      simp [h1]
      rw [hpre, hpost, List.length_cons]
      omega
    rw [if_neg hc, splice (by rw [h1]; omega)]
    have e1 : (pre ++ post).take (j * sz) = pre := by rw [← hpre, List.take_left]
    have e2 : (pre ++ post).drop (j * sz + v.cells.size) = post.drop sz := by
      rw [h1, ← hpre, List.drop_append]
      simp
    rw [e1, e2, fillS sz vs (j + 1) (pre ++ v.cells.toList) (post.drop sz) (fun u hu => hv u (List.mem_cons_of_mem _ hu)) (by rw [List.length_append, hpre, Array.length_toList, h1, Nat.add_mul, Nat.one_mul]) (by rw [List.length_drop, hpost, List.length_cons, hm]; omega)]
    simp
theorem elems_ok (P : Program) [Laws P] {e : Nat} (hz : zero e ≠ []) (hsz : (kd e).sz = szOf e) : ∀ (ps : List (Nat × Operand)) (j : Nat) (s : St) (Im : Nat → Prop) (K : List (El e) → St → Option ρ), elems e ps j s K = some r → Rel C E Im s a w →
    ∃ xs s' Im', K xs s' = some r ∧ Rel C E Im' s' a w ∧ xs.length = ps.length ∧ Reps (Kd.FK (kd e) w Im') (kd e).sz xs (ps.flatMap fun p => (a.eval p.2).cells.toList) ∧ (∀ k, Im k → Im' k) ∧ s'.nx = s.nx ∧ s'.sl = s.sl ∧ s'.n = s.n ∧ (∀ p ∈ ps, (a.eval p.2).cells.size = szOf e) ∧ ps.map (fun p => (p.1, a.eval p.2)) = ((ps.map fun p => a.eval p.2).zipIdx j).map fun p => (p.2, p.1)
  | [], j, s, Im, K, h, hR => ⟨[], s, Im, h, hR, rfl, Reps.none _ _, fun _ h => h, rfl, rfl, rfl, fun p hp => (by cases hp), rfl⟩
  | (i, x) :: ps, j, s, Im, K, h, hR => by
    unfold elems at h
    split at h
    · rename_i hb
      have hij : i = j := Nat.eq_of_beq_eq_true hb
      obtain ⟨v, l, hv, h2, hrep⟩ := onC_some h
      obtain ⟨hl, h1⟩ := hrep _ _ _ _ _ (hR.eval hv)
      obtain ⟨y, s1, Im1, h3, hR1, hF, hi1, hn1, hs1, hn1', _⟩ := onEl_ok P hz h2 hR hl h1
      obtain ⟨xs, s', Im', h4, hR', hlen, hreps, hi2, hn2, hs2, hn2', hsize, hmap⟩ := elems_ok P hz hsz ps (j + 1) s1 Im1 _ h3 hR1
      have hcl : (a.eval x).cells.toList.length = (kd e).sz := (kd e).K_len (Kd.FK_now hF)
      refine ⟨y :: xs, s', Im', h4, hR', by simp [hlen], ?_, fun k hk => hi2 k (hi1 k hk), by omega, by rw [hs2, hs1], by omega, fun p hp => ?_, ?_⟩
      · rw [List.flatMap_cons]
        exact Reps.front (Kd.FK_mono hF hi2) hcl hreps rfl
      · rcases List.mem_cons.1 hp with rfl | hp
        · rw [← hsz, ← hcl, Array.length_toList]
        · exact hsize p hp
      · rw [List.map_cons, hmap, List.map_cons, List.zipIdx_cons, List.map_cons, hij]
    · cases h
/-- A row just made. -/
theorem newRow (hR : Rel C E Im s a w) {e : Nat} {xs : List (El e)} {v1 : Value} {w1 : World} (hN : Kd.N (kd e) e w1 0 (fun k => k = w.heap.size ∨ Im k) v1 xs) (hg : w.grownBy w1 none) (hat : ∃ b, v1.ownBlock = some b ∧ w.heap.size ≤ b) :
    Rel C (ext E s.nx v1) Im (s.new (.row e xs)) a w1 := by
  obtain ⟨b, hb, hle⟩ := hat
  have hbs : b = w.heap.size := by
    rcases hN.1 b hb with e | e
    · exact e
    · have := hR.h.im b e
      omega
  refine hR.new ⟨hg.os, hg.tape, hg.output⟩ (fun k hk => hg.block k hk (by simp)) hg.size v1 _ ?_ (fun k hk => ?_)
  · refine Kd.N_mono hN (fun k hk => hk.imp (fun e => ?_) id)
    rw [hb, hbs, e]
  · have : b = k := by
      have : v1.ownBlock = some k := hk
      rw [hb] at this
      injection this
    omega
theorem own_rep {v1 : Value} {nx : Nat} (h : ∃ A n c, v1 = .slice A n c) : Rep (ext E nx v1) (nx + 1) w Im (.own nx) v1 := ⟨Nat.lt_succ_self _, ext_self.symm, h⟩
theorem below0 (w w' : World) (h : Same w w') (hs : w.heap.size ≤ w'.heap.size) : Below 0 w w' := ⟨h.1, h.2.1, h.2.2, hs, fun k hk => absurd hk (Nat.not_lt_zero _)⟩
theorem okN_buildSlice {t : TypeId} {n : Nat} {ps : Array (Nat × Operand)} (ho : o.op = .buildSlice t n ps) (hw : Region.wanted o (yielded ops a.tmps) = true) (h : opK o s K = some r) (hR : Rel C E Im s a w) (hn : GoesN C r K next w) : o.wp P a w next Q := by
  simp only [opK, ho] at h
  obtain ⟨e, hte, h2⟩ := elemOf_some h
  obtain ⟨hu, hz, hsz⟩ := Laws.slice (P := P) t e hte
  split at h2
  · rename_i hb
    simp only [Bool.and_eq_true] at hb
    have hn1 : ps.toList.length = n := Nat.eq_of_beq_eq_true hb.1.1
    have hn2 : n * szOf e ≤ 16777216 := Nat.le_of_ble_eq_true hb.1.2
    obtain ⟨N', hd⟩ := Option.isSome_iff_exists.1 hb.2
    obtain ⟨xs, s', Im', h3, hR', hlen, hreps, him, hnx, hsl, hsn, hsize, hmap⟩ := elems_ok P hz hsz ps.toList 0 s Im _ h2 hR
    have hnl : xs.length = n := by omega
    have hinfo := info_size (P := P) (Laws.ok (P := P) e hz)
    have hrs := run_size (P := P) (Laws.ok (P := P) e hz) w
    obtain ⟨zv, hzr, hzs, hzc, hza, _⟩ := info_zero (P := P) (Laws.ok (P := P) e hz)
    obtain ⟨inner, hinner⟩ : ∃ inner, inner = ps.toList.flatMap fun p => (a.eval p.2).cells.toList := ⟨_, rfl⟩
    rw [← hinner] at hreps
    have hpos := zero_ne hz
    have hrun : (execOp a.eval o).run P w = .ok (.value (.slice (some ⟨w.heap.size, 0, none⟩) xs.length xs.length)) (w.alloc (.cells inner.toArray e)) := by
      have hm : (ps.map fun (p : Nat × Operand) => (p.1, a.eval p.2)).toList = ps.toList.map fun p => (p.1, a.eval p.2) := by simp
      have hgt : ¬ (n * szOf e > 2 ^ 24) := by omega
      have hfl : ∀ (post : List Value), post.length = n * szOf e → Instr.fill (fun i => some (i * szOf e, szOf e)) post.toArray (ps.toList.map fun p => (p.1, a.eval p.2)) = some inner.toArray := by
        intro post hp
        rw [hmap]
        have := fillS (szOf e) (ps.toList.map fun p => a.eval p.2) 0 [] post (fun v hv => by
          obtain ⟨p, hp, rfl⟩ := List.mem_map.1 hv
          exact hsize p hp) (by simp) (by rw [List.length_map, hn1]; exact hp)
        rw [List.nil_append] at this
        rw [this, hinner, List.flatMap_map]
        rfl
      simp only [execOp, ho, Sem.run_bind, Instr.buildSlice, underlying, run_program, hu, Result.andThen_ok, Sem.run_pure, hrs, if_neg hgt, hm, hnl]
      have hfl2 : ∀ (arr : Array Value), arr.size = n * szOf e → Instr.fill (fun i => some (i * szOf e, szOf e)) arr (ps.toList.map fun p => (p.1, a.eval p.2)) = some inner.toArray := fun arr ha => hfl arr.toList (by rw [Array.length_toList]; exact ha)
      by_cases h0 : n * szOf e = 0
      · simp only [h0, if_true, Sem.run_bind, Sem.run_pure, Result.andThen_ok]
        rw [hfl2 _ (by simp [h0])]
        simp only [Sem.run_bind, Go.newRow, run_newObj, Result.andThen_ok, Sem.run_pure]
        rfl
      · simp only [h0, if_false, Sem.run_bind, hzr, Sem.run_pure, Result.andThen_ok]
        rw [hfl2 _ (by simp)]
        simp only [Sem.run_bind, Go.newRow, run_newObj, Result.andThen_ok, Sem.run_pure]
        rfl
    have := Kd.N_lit_step (P := P) (Q := Q) (Kc := next) (kd e) (w0 := w) (W := w) 0 e hw hd (xs := xs) (inner := inner) (ok := fun k => k = w.heap.size ∨ Im' k) (okp := Im') hrun hreps (fun k hk => .inr hk) (.inl rfl) (below0 w w (Same.refl _) (Nat.le_refl _)) (Nat.zero_le _) ?_ (fun v1 w1 hN _ hg hat => ?_)
    · rwa [if_pos hw] at this
    · have := Nat.le_mul_of_pos_right n hpos
      omega
    · have hnew := newRow hR' hN hg hat
      exact hn _ _ _ _ _ h3 (hnew.put (v := .own s'.nx) (own_rep (by obtain ⟨A, c, e⟩ := Kd.N_slice hN; exact ⟨A, _, c, e⟩))) (cls_grown hg)
  · cases h2
theorem ok_buildSlice {t : TypeId} {n : Nat} {ps : Array (Nat × Operand)} (ho : o.op = .buildSlice t n ps) (hw : Region.wanted o (yielded ops a.tmps) = true) (h : opK o s K = some r) (hR : Rel C E Im s a w) (hn : Goes C r K next) : o.wp P a w next Q := okN_buildSlice ho hw h hR hn.toN
theorem okN_makeSlice {t : TypeId} {x y : Operand} (ho : o.op = .makeSlice t x y) (hw : Region.wanted o (yielded ops a.tmps) = true) (h : opK o s K = some r) (hR : Rel C E Im s a w) (hn : GoesN C r K next w) : o.wp P a w next Q := by
  simp only [opK, ho] at h
  obtain ⟨k, n, hx, h2⟩ := onI_some h
  obtain ⟨k', m, hy, h3⟩ := onI_some h2
  split at h3
  · rename_i N' hd
    obtain ⟨e, hte, h4⟩ := elemOf_some h3
    obtain ⟨hu, hz, hsz⟩ := Laws.slice (P := P) t e hte
    obtain ⟨rfl, h5⟩ := ite_some h4
    obtain ⟨h0, h6⟩ := ite_some h5
    obtain ⟨hlm, h7⟩ := ite_some h6
    have ex : a.eval x = .int .i64 n := hR.eval hx
    have ey : a.eval y = .int .i64 n := hR.eval hy
    obtain ⟨zv, b, hi1, hi2, hb0, hlb, _, _⟩ := (Laws.ok (P := P) e hz).info
    have hzz : (P.info? e).map (·.zero) = some (some zv) := by
      cases hq : P.info? e with
      | none => rw [hq] at hi1; simp at hi1
      | some i => rw [hq] at hi1; simp only [Option.map_some, Option.some.injEq, Prod.mk.injEq] at hi1; simp [hi1.1]
    have hl : n.toNat * b ≤ 281474976710656 := by
      have h8 : n.toNat ≤ lim e := by omega
      have := Nat.mul_le_mul_right b h8
      omega
    have := Kd.N_make_step (P := P) (Q := Q) (Kc := next) (kd e) (w0 := w) (W := w) 0 e hw hd t x y ho n ex ey hu zv b (by rw [hsz]; exact hi1) (by rw [hsz]; exact hi2) (by rw [hsz]; exact zero_ne hz) hb0 (z e) (ok := fun k => k = w.heap.size ∨ Im k) (okp := fun _ => False) (Laws.zero (P := P) t e w hte zv hzz) (fun _ hk => hk.elim) (.inl rfl) h0 hl (below0 w w (Same.refl _) (Nat.le_refl _)) (Nat.zero_le _) (fun v1 w1 hN _ hg hat => ?_)
    · rwa [if_pos hw] at this
    · have hnew := newRow hR hN hg hat
      exact hn _ _ _ _ _ h7 (hnew.put (v := .own s.nx) (own_rep (by obtain ⟨A, c, e⟩ := Kd.N_slice hN; exact ⟨A, _, c, e⟩))) (cls_grown hg)
  · cases h3
theorem ok_makeSlice {t : TypeId} {x y : Operand} (ho : o.op = .makeSlice t x y) (hw : Region.wanted o (yielded ops a.tmps) = true) (h : opK o s K = some r) (hR : Rel C E Im s a w) (hn : Goes C r K next) : o.wp P a w next Q := okN_makeSlice ho hw h hR hn.toN
theorem rowN (hR : Rel C E Im s a w) {i t : Nat} {xs : List (El t)} (hl : s.look i = .row t xs) : Kd.N (kd t) t w 0 (fun k => some k = (E i).ownBlock ∨ Im k) (E i) xs ∧ i < s.nx :=
  ⟨(hR.h.ob i _ (look_some hl (by simp))).2, (hR.h.ob i _ (look_some hl (by simp))).1⟩
theorem mb_box {t t' : Nat} {cs cs' : List AV} {v : Value} : (Ob.box t cs).mb v = (Ob.box t' cs').mb v := by
  cases v <;> try rfl
  rename_i a
  cases a <;> rfl
theorem ok_storeK {t : TypeId} {x y : Operand} (ho : o.op = .store t x y) {xv yv : Option AV} (hx : ∀ v, xv = some v → Rep E s.nx w Im v (a.eval x)) (hy : ∀ v, yv = some v → Rep E s.nx w Im v (a.eval y)) (h : storeK t xv yv o s K = some r) (hR : Rel C E Im s a w) (hn : Goes C r K next) : o.wp P a w next Q := by
  unfold storeK at h
  obtain ⟨v, hv, h2⟩ := onV_some h
  obtain ⟨v', seg, hv', h3, hrep⟩ := onC_some h2
  obtain ⟨hl, h1⟩ := hrep _ _ _ _ _ (hy _ hv')
  have hr := hx _ hv
  have hlen := RepL.length hl
  split at h3
  · cases h3
  · cases h3
  · cases h3
  rename_i c0 l0 hz0 hb hdst
  have hz : zero t ≠ [] := by rw [hz0]; simp
  have hsz : seg.length = szOf t := Nat.eq_of_beq_eq_true hb
  have hinfo := info_size (P := P) (Laws.ok (P := P) t hz)
  have hput : ∀ u, a.put o.dst u = a := fun u => by rw [hdst]; rfl
  have fin : ∀ (g off : Nat) (e : TypeId) (cur : Array Value), a.eval x = .pointer (some ⟨g, off, none⟩) → w.heap[g]? = some (.cells cur e (0, 0)) → off + seg.length ≤ cur.size → next a (w.setCells g off (a.eval y).cells.toList) → o.wp P a w next Q := by
    intro g off e cur ex hh hfit hnx
    have hrun := run_store_run (P := P) (w := w) t (a.eval y) (a.eval y).cells.toList (o := off) hh rfl (by rw [← hlen, hsz]; exact hinfo) (by rw [← hlen]; exact hfit) h1
    refine wp_skip' ?_ (by rw [hput]; exact hnx)
    simp only [execOp, ho, ex, Sem.run_bind, hrun, Result.andThen_ok]
    rfl
  have hsame : ∀ g off, Same w (w.setCells g off (a.eval y).cells.toList) ∧ w.heap.size ≤ (w.setCells g off (a.eval y).cells.toList).heap.size := fun g off => by
    obtain ⟨e1, e2, e3, e4⟩ := setCells_same g (a.eval y).cells.toList off w
    exact ⟨⟨e1, e2, e3⟩, Nat.le_of_eq e4.symm⟩
  split at h3
  · rename_i i off
    split at h3
    · rename_i tb cs hlk
      split at h3
      · rename_i hfit
        have hfit' : off + seg.length ≤ cs.length := Nat.le_of_ble_eq_true hfit
        obtain ⟨hi, g, hE, ex⟩ := hr
        have hg0 := look_some hlk (by simp)
        have hob := (hR.h.ob i _ hg0).2
        obtain ⟨g', vs, hE', hg, hvs, hv1⟩ := hob
        rw [hE] at hE'
        injection hE' with hE'
        injection hE' with hE'
        injection hE' with hE'
        subst hE'
        have hvl := RepL.length hvs
        obtain ⟨cur', hc1, hc2, hc3⟩ := setCells_row (a.eval y).cells.toList off w vs.toArray hg (by rw [← hlen]; simp; omega)
        refine fin g off tb vs.toArray ex hg (by simp; omega) ?_
        refine hn _ _ _ _ _ h3 (hR.turn hg0 (hsame g off).1 (fun _ hk => hk) (fun k hk => .inl hk) (fun k hk hne => setCells_far _ _ k (fun e => hne (by rw [hE, e]; rfl))) (hsame g off).2 ?_ (fun k hk => ⟨mb_box.trans hk, hR.h.imd i _ k hg0 (mb_box.trans hk)⟩))
        refine ⟨g, vs.take off ++ (a.eval y).cells.toList ++ vs.drop (off + (a.eval y).cells.toList.length), hE, ?_, ?_, upd_one hv1 h1⟩
        · rw [hc1]
          have : cur' = (vs.take off ++ (a.eval y).cells.toList ++ vs.drop (off + (a.eval y).cells.toList.length)).toArray := by
            apply Array.ext'
            rw [hc3]
          rw [this]
        · have him : ∀ k, Im k → k < w.heap.size → (w.setCells g off (a.eval y).cells.toList).heap[k]? = w.heap[k]? := fun k hk _ => setCells_far _ _ k (fun e => hR.h.imd i _ k hg0 (by rw [hE, e]; rfl) hk)
          exact RepL.step him (fun _ h => h) (fun _ _ => rfl) (Nat.le_refl _) _ _ (upd_rep hvs hl)
      · cases h3
    · cases h3
  · rename_i i t' j off
    split at h3
    · rename_i t'' xs hlk
      obtain ⟨rfl, h4⟩ := castR_some h3
      split at h4
      · rename_i hfit
        have hfit' : off + seg.length ≤ szOf t'' := Nat.le_of_ble_eq_true hfit
        obtain ⟨hi, g, n, c, hE, ⟨hj, hksz, hkz⟩, ex⟩ := hr
        have hN := (rowN hR hlk).1
        have hgb : (E i).ownBlock = some g := by rw [hE]; simp [Value.ownBlock]
        rw [hgb, hE] at hN
        obtain ⟨c', hcl, hK, hcc, _⟩ := Kd.N_elem hN (z t'') (j : Int) (by omega) (by exact_mod_cast hj)
        rw [Int.toNat_natCast] at hK hcc
        have hK2 : Kd.FK (kd t'') w Im (xs.getD j (z t'')) c' := Kd.FK_mono hK (fun k hk => by
          rcases hk.1 with e | e
          · injection e with e; exact absurd e hk.2
          · exact e)
        have hc1 := (kd t'').K_one (Kd.FK_now hK2)
        have henc := Laws.enc (P := P) t'' _ c' w Im E s.nx hkz hK2
        obtain ⟨x', s', Im', h5, hR', hF, him, hnx, hsl, hsn, hlook⟩ := onEl_ok P hkz h4 hR (upd_rep (off := off) henc hl) (upd_one hc1 h1)
        split at h5
        · rename_i t3 ys hlk'
          have hlk2 : s'.look i = .row t'' xs := by
            rcases hlook i with e | ⟨_, _, _, e⟩
            · rw [e]; exact hlk
            · rw [e] at hlk'; cases hlk'
          have hg0 := look_some hlk2 (by simp)
          have hN' := (rowN hR' hlk2).1
          rw [hgb, hE] at hN'
          have hng : ¬ Im' g := hR'.h.imd i _ g hg0 hgb
          obtain ⟨hN2, hgr⟩ := Kd.N_seg hN' (j : Int) (by omega) (by exact_mod_cast hj) (c := c') (seg := (a.eval y).cells.toList) (j := off) hcl (by rw [Int.toNat_natCast]; exact hcc) (by rw [← hlen, hksz]; exact hfit') (okp := Im') hF (fun k hk => ⟨.inr hk, fun e => hng (e ▸ hk)⟩)
          rw [Int.toNat_natCast] at hN2 hgr
          obtain ⟨cur, hcur⟩ := Kd.N_typed hN' g (by simp [Value.ownBlock])
          have hfit2 : j * (kd t'').sz + off + seg.length ≤ cur.size := by
            have hp : 0 < seg.length := by rw [hsz]; exact zero_ne hz
            have hq : off + seg.length - 1 < c'.length := by rw [hcl, hksz]; omega
            have h6 := hcc _ _ (List.getElem?_eq_getElem hq)
            rw [blk_cell hcur] at h6
            have := (Array.getElem?_eq_some_iff.1 h6).1
            omega
          refine fin g (j * (kd t'').sz + off) t'' cur ex hcur hfit2 ?_
          have hmbE : (Ob.row t'' xs).mb (E i) = some g := hgb
          refine hn _ _ _ _ _ h5 (hR'.turn hg0 (hsame g _).1 (fun _ hk => hk) (fun k hk => .inl hk) (fun k hk hne => setCells_far _ _ k (fun e => hne (by rw [hmbE, e]))) (hsame g _).2 ?_ (fun k hk => ⟨hk, hR'.h.imd i _ k hg0 hk⟩))
          show Kd.N (kd t'') t'' _ 0 (fun k => some k = (E i).ownBlock ∨ Im' k) (E i) (xs.set j x')
          rw [hgb, hE]
          exact hN2
        · cases h5
      · cases h4
    · cases h3
  · rename_i i t1 e j off
    split at h3
    · rename_i t2 e2 xs hlk
      split at h3
      · rename_i hb
        obtain ⟨rfl, h4⟩ := castR_some h3
        split at h4
        · rename_i hfit
          have hfit' : off + seg.length ≤ szOf e2 := Nat.le_of_ble_eq_true hfit
          have e12 : t2 = t1 := Nat.eq_of_beq_eq_true hb
          subst e12
          obtain ⟨hi, g, n, hE, ⟨htd, hj⟩, ex⟩ := hr
          obtain ⟨_, hze, hksz, hel, _, _⟩ := Laws.arr (P := P) t2 n e2 htd
          have hg00 := look_some hlk (by simp)
          obtain ⟨⟨g', vs, hE', hg, hvs, hv1⟩, htd2⟩ := (hR.h.ob i _ hg00).2
          rw [hE] at hE'
          injection hE' with hE'
          injection hE' with hE'
          injection hE' with hE'
          subst hE'
          have hxn : j < xs.length := by
            rw [htd] at htd2
            injection htd2 with hn' _
            omega
          obtain ⟨hch, hbound, hset⟩ := flat_at hel hxn (hvs E s.nx)
          have hch1 : ∀ u ∈ (vs.drop (j * szOf e2)).take (szOf e2), u.oneCell' = true := fun u hu => hv1 u (List.mem_of_mem_drop (List.mem_of_mem_take hu))
          obtain ⟨x', s', Im', h5, hR', hF, him, hnx, hsl, hsn, hlook⟩ := onEl_ok P hze h4 hR (upd_rep (off := off) hch hl) (upd_one hch1 h1)
          split at h5
          · rename_i t3 e3 ys hlk'
            have hlk2 : s'.look i = .arr t2 e2 xs := by
              rcases hlook i with e | ⟨_, _, _, e⟩
              · rw [e]; exact hlk
              · rw [e] at hlk'; cases hlk'
            have hg0 := look_some hlk2 (by simp)
            obtain ⟨⟨g2, vs2, hE2, hg2, hvs2, hv2⟩, _⟩ := (hR'.h.ob i _ hg0).2
            rw [hE] at hE2
            injection hE2 with hE2
            injection hE2 with hE2
            injection hE2 with hE2
            subst hE2
            have hvv : vs2 = vs := by
              rw [hg] at hg2
              injection hg2 with hg2
              injection hg2 with hg2
              have := congrArg Array.toList hg2
              simpa using this.symm
            subst hvv
            have hmb : (Ob.arr t2 e2 xs).mb (E i) = some g := by rw [hE]; rfl
            have hng : ¬ Im' g := hR'.h.imd i _ g hg0 hmb
            have hsegl : (a.eval y).cells.toList.length = seg.length := hlen.symm
            obtain ⟨cur', hc1, hc2, hc3⟩ := setCells_row (a.eval y).cells.toList (j * szOf e2 + off) w vs2.toArray hg (by rw [hsegl]; simp; omega)
            refine fin g (j * szOf e2 + off) t2 vs2.toArray ex hg (by simp; omega) ?_
            refine hn _ _ _ _ _ h5 (hR'.turn hg0 (hsame g _).1 (fun _ hk => hk) (fun k hk => .inl hk) (fun k hk hne => setCells_far _ _ k (fun e => hne (by rw [hmb, e]))) (hsame g _).2 ?_ (fun k hk => ?_))
            · have hnew := fun (E : Nat → Value) (nx : Nat) => (flat_at hel hxn (hvs2 E nx)).2.2 x' _ (Laws.enc (P := P) e2 x' _ w Im' E nx hze hF)
              have hcur : vs2.take (j * szOf e2) ++ (((vs2.drop (j * szOf e2)).take (szOf e2)).take off ++ (a.eval y).cells.toList ++ ((vs2.drop (j * szOf e2)).take (szOf e2)).drop (off + (a.eval y).cells.toList.length) ++ vs2.drop (j * szOf e2 + szOf e2)) = vs2.take (j * szOf e2 + off) ++ (a.eval y).cells.toList ++ vs2.drop (j * szOf e2 + off + (a.eval y).cells.toList.length) := by
                have e1 : vs2.take (j * szOf e2 + off) = vs2.take (j * szOf e2) ++ ((vs2.drop (j * szOf e2)).take (szOf e2)).take off := by
                  rw [List.take_take, Nat.min_eq_left (by omega), List.take_add]
                have e2' : vs2.drop (j * szOf e2 + off + (a.eval y).cells.toList.length) = ((vs2.drop (j * szOf e2)).take (szOf e2)).drop (off + (a.eval y).cells.toList.length) ++ vs2.drop (j * szOf e2 + szOf e2) := by
                  rw [List.drop_take, List.drop_drop]
                  have : vs2.drop (j * szOf e2 + szOf e2) = (vs2.drop (j * szOf e2 + (off + (a.eval y).cells.toList.length))).drop (szOf e2 - (off + (a.eval y).cells.toList.length)) := by
                    rw [List.drop_drop]
                    congr 1
                    omega
                  rw [this, List.take_append_drop, Nat.add_assoc]
                rw [e1, e2']
                simp only [List.append_assoc]
              simp only [hcur] at hnew
              refine ⟨⟨g, vs2.take (j * szOf e2 + off) ++ (a.eval y).cells.toList ++ vs2.drop (j * szOf e2 + off + (a.eval y).cells.toList.length), hE, ?_, ?_, upd_one hv2 h1⟩, by rw [List.length_set]; exact htd2⟩
              · rw [hc1]
                have : cur' = (vs2.take (j * szOf e2 + off) ++ (a.eval y).cells.toList ++ vs2.drop (j * szOf e2 + off + (a.eval y).cells.toList.length)).toArray := by
                  apply Array.ext'
                  rw [hc3]
                rw [this]
              · exact fun E nx => RepL.step (fun k hk _ => setCells_far _ _ k (fun e => hR'.h.imd i _ k hg0 (by rw [hmb, e]) hk)) (fun _ h => h) (fun _ _ => rfl) (Nat.le_refl _) _ _ (hnew E nx)
            · have hk' : (Ob.arr t2 e2 xs).mb (E i) = some k := by
                rw [hE] at hk ⊢
                exact hk
              exact ⟨hk', hR'.h.imd i _ k hg0 hk'⟩
          · cases h5
        · cases h4
      · cases h3
    · cases h3
  · cases h3
/-- What is appended, as rows of cells. -/
theorem ok_store {t : TypeId} {x y : Operand} (ho : o.op = .store t x y) (h : opK o s K = some r) (hR : Rel C E Im s a w) (hn : Goes C r K next) : o.wp P a w next Q := by
  simp only [opK, ho] at h
  split at h
  · rename_i hy
    obtain ⟨e, hte, h2⟩ := elemOf_some h
    have ey : a.eval y = .slice none 0 0 := hR.eval hy
    have hN := hR.new (w' := w) (Same.refl _) (fun _ _ => rfl) (Nat.le_refl _) (.slice none 0 0) (.row e []) (Kd.N_nil _ _ _ _ _) (fun k hk => by simp [Ob.mb, Value.ownBlock] at hk)
    refine ok_storeK ho (fun v hv => ?_) (fun v hv => ?_) h2 hN hn
    · exact Rep.step (fun _ _ _ => rfl) (fun _ h => h) (fun i hi => ext_lt hi) (Nat.le_succ _) _ _ (hR.eval hv)
    · injection hv with hv
      subst hv
      exact ⟨Nat.lt_succ_self _, by rw [ext_self, ey], _, _, _, ey⟩
  · exact ok_storeK ho (fun v hv => hR.eval hv) (fun v hv => hR.eval hv) h hR hn
theorem reads_ro {e : Nat} {ys : List (El e)} {u : Value} {nx : Nat} (h : Rep E nx w Im (.ro e ys) u) : ∃ A c news, u = .slice A ys.length c ∧ news.length = ys.length ∧ ReadsRow (fun x cs => cs = x ∧ cs.length = (kd e).sz ∧ ∀ u ∈ cs, u.oneCell' = true) (kd e).sz w A ys.length news ∧ ∀ (j : Nat) (x : El e) (c : List Value), ys[j]? = some x → news[j]? = some c → Kd.FK (kd e) w Im x c := by
  obtain ⟨A, c, rfl, _, hF⟩ := h
  obtain ⟨news, h1, h2, h3⟩ := Kd.reads_raw (Kd.F_rows hF) (fun y c hk => ⟨(kd e).K_len (Kd.FK_now hk), (kd e).K_one (Kd.FK_now hk)⟩)
  exact ⟨A, c, news, rfl, h1, h2, h3⟩
theorem reads_row {e : Nat} {ys : List (El e)} {u : Value} (h : Kd.N (kd e) e w 0 (fun k => some k = u.ownBlock ∨ Im k) u ys) : ∃ A c news, u = .slice A ys.length c ∧ news.length = ys.length ∧ ReadsRow (fun x cs => cs = x ∧ cs.length = (kd e).sz ∧ ∀ u ∈ cs, u.oneCell' = true) (kd e).sz w A ys.length news ∧ ∀ (j : Nat) (x : El e) (c : List Value), ys[j]? = some x → news[j]? = some c → Kd.FK (kd e) w Im x c := by
  obtain ⟨h0, rows, hl, hRr, hf⟩ := h
  obtain ⟨A, c, hu, hc, hC⟩ := Kd.R_reads hRr
  refine ⟨A, c, rows, by rw [hu, hl], hl, ?_, fun j x c hx hc => Kd.FK_mono (hf j x c hx hc) (fun k hk => hk.1.elim (fun e => absurd e hk.2) id)⟩
  rw [← hl]
  exact hC
/-- A row behind an append. -/
theorem appended (hR : Rel C E Im s a w) {i e : Nat} {xs ys : List (El e)} (hlk : s.look i = .row e xs) {v1 : Value} {w1 : World} {rows news : List (List Value)} (hl : rows.length = xs.length) (hf : ∀ (j : Nat) (x : El e) (c : List Value), xs[j]? = some x → rows[j]? = some c → Kd.FK (kd e) w Im x c) (hl2 : news.length = ys.length) (hf2 : ∀ (j : Nat) (x : El e) (c : List Value), ys[j]? = some x → news[j]? = some c → Kd.FK (kd e) w Im x c)
    (hr : (Kd.raw (kd e).sz).R e w1 0 (fun _ => True) v1 (rows ++ news)) (hg : w.grownBy w1 (E i).ownBlock) (hat : v1.ownBlock = (E i).ownBlock ∨ ∃ b, v1.ownBlock = some b ∧ w.heap.size ≤ b) :
    Rel C (ext E s.nx v1) Im ((s.obj i .dead).new (.row e (xs ++ ys))) a w1 := by
  have hg0 := look_some hlk (by simp)
  have hne : ∀ k, Im k → some k ≠ (E i).ownBlock := fun k hk e => hR.h.imd i _ k hg0 e.symm hk
  have hne1 : ∀ k, Im k → some k ≠ v1.ownBlock := fun k hk e => by
    rcases hat with hat | ⟨b, hb, hle⟩
    · exact hne k hk (e.trans hat)
    · rw [hb] at e
      injection e with e
      have := hR.h.im k hk
      omega
  have step : ∀ {x : El e} {c : List Value}, Kd.FK (kd e) w Im x c → Kd.FK (kd e) w1 (fun k => (some k = v1.ownBlock ∨ Im k) ∧ some k ≠ v1.ownBlock) x c := fun hq => Kd.FK_mono (Kd.FK_step hq (fun k hk hlt => hg.block k hlt (hne k hk))) (fun k hk => ⟨.inr hk, hne1 k hk⟩)
  refine hR.replace hg0 ⟨hg.os, hg.tape, hg.output⟩ (fun k hk h => hg.block k hk (fun e => h e.symm)) hg.size v1 _ ?_ (fun k hk => ?_)
  · refine ⟨fun k hk => .inl hk.symm, rows ++ news, by rw [List.length_append, List.length_append, hl, hl2], Kd.raw_tight hr, fun j x c hx hc => ?_⟩
    rcases Nat.lt_or_ge j xs.length with hlt | hge
    · rw [List.getElem?_append_left hlt] at hx
      rw [List.getElem?_append_left (by omega)] at hc
      exact step (hf j x c hx hc)
    · rw [List.getElem?_append_right hge] at hx
      rw [List.getElem?_append_right (by omega), hl] at hc
      exact step (hf2 _ x c hx hc)
  · have hk' : v1.ownBlock = some k := hk
    rcases hat with hat | ⟨b, hb, hle⟩
    · exact .inl (show (E i).ownBlock = some k from hat ▸ hk')
    · rw [hb] at hk'
      injection hk' with hk'
      exact .inr (by omega)
theorem ok_zerosK {c : Call} {x y : Operand} {t t' e i : Nat} {kt ky : IntKind} {n : Int} {xs : List (El e)} (ho : o.op = .call c) (hc : c.callee = .builtin .append) (hop : o.op = .call { callee := .builtin .append, args := #[x, y], argTypes := #[t, t'] }) (hte : td t = .slice e) (ht' : P.underlying t' = some (.int kt)) (hlk : s.look i = .row e xs) (ex : a.eval x = E i) (ey : a.eval y = .int ky n) (h : zerosK e i xs n o s K = some r) (hR : Rel C E Im s a w) (hn : Goes C r K next) : o.wp P a w next Q := by
  obtain ⟨hu, hz, hsz⟩ := Laws.slice (P := P) t e hte
  unfold zerosK at h
  obtain ⟨h0, h5⟩ := ite_some h
  obtain ⟨hlm, h6⟩ := ite_some h5
  obtain ⟨zv, b, hi1, hi2, hb0, hlb, _, _⟩ := (Laws.ok (P := P) e hz).info
  have hzz : (P.info? e).map (·.zero) = some (some zv) := by
    cases hq : P.info? e with
    | none => rw [hq] at hi1; simp at hi1
    | some i => rw [hq] at hi1; simp only [Option.map_some, Option.some.injEq, Prod.mk.injEq] at hi1; simp [hi1.1]
  have hFK := Laws.zero (P := P) t e w hte zv hzz
  obtain ⟨_, rows, hl, hRr, hf⟩ := (rowN hR hlk).1
  have hf' : ∀ (j : Nat) (x : El e) (c : List Value), xs[j]? = some x → rows[j]? = some c → Kd.FK (kd e) w Im x c := fun j x c hx hc => Kd.FK_mono (hf j x c hx hc) (fun k hk => hk.1.elim (fun e => absurd e hk.2) id)
  have hsum : xs.length + n.toNat ≤ lim e := by omega
  have hlb' : (rows.length + n.toNat) * b ≤ 140737488355328 := by
    rw [hl]
    exact Nat.le_trans (Nat.mul_le_mul_right b hsum) hlb
  have hcl : zv.cells.toList.length = (kd e).sz ∧ ∀ u ∈ zv.cells.toList, u.oneCell' = true := ⟨(kd e).K_len (Kd.FK_now hFK), (kd e).K_one (Kd.FK_now hFK)⟩
  obtain ⟨v1, w1, hrun, hr, hg, hat⟩ := Kd.R_zeros_run (P := P) (Kd.raw (kd e).sz) (W := w) 0 t t' o.type e zv b hu ht' (by rw [show (Kd.raw (kd e).sz).sz = szOf e from hsz]; exact hi1) (by rw [show (Kd.raw (kd e).sz).sz = szOf e from hsz]; exact hi2) (by rw [show (Kd.raw (kd e).sz).sz = szOf e from hsz]; exact zero_ne hz) hb0 (E i) rows zv.cells.toList (ok := fun _ => True) ⟨rfl, hcl.1, hcl.2⟩ (fun _ _ => trivial) (Kd.raw_any hRr) ky n h0 hlb' (Nat.zero_le _)
  refine Go.Lib.wp_append_run w x y t t' hop _ _ ex ey v1 w1 hrun ?_
  have hnew := appended (ys := List.replicate n.toNat (z e)) hR hlk hl hf' (news := List.replicate n.toNat zv.cells.toList) (by rw [List.length_replicate, List.length_replicate]) (fun j x c hx hc => by
    have h1 := (List.getElem?_eq_some_iff.1 hx).2
    have h2 := (List.getElem?_eq_some_iff.1 hc).2
    rw [List.getElem_replicate] at h1 h2
    rw [← h1, ← h2]
    exact Kd.FK_mono hFK (fun _ h => h.elim)) hr hg hat
  exact hn _ _ _ _ _ h6 (hnew.put (v := .own s.nx) (own_rep (by obtain ⟨A, c, e⟩ := Kd.R_slice hr; exact ⟨A, _, c, e⟩)))
theorem ok_appendS {c : Call} {x y : Operand} {t t' : TypeId} (ho : o.op = .call c) (hc : c.callee = .builtin .append) (hw : Region.wanted o (yielded ops a.tmps) = true) (hargs : c.args = #[x, y]) (htys : c.argTypes = #[t, t']) (h : (elemOf t fun e => onV (s.ev x) fun v => onV (s.ev y) fun u => appendS t' e o s K v u) = some r) (hR : Rel C E Im s a w) (hn : Goes C r K next) : o.wp P a w next Q := by
  have hop : o.op = .call { callee := .builtin .append, args := #[x, y], argTypes := #[t, t'] } := by
    rw [ho]
    obtain ⟨c1, c2, c3⟩ := c
    simp only at hc hargs htys
    rw [hc, hargs, htys]
  obtain ⟨e, hte, h2⟩ := elemOf_some h
  obtain ⟨hu, hz, hsz⟩ := Laws.slice (P := P) t e hte
  obtain ⟨v, hv, h3⟩ := onV_some h2
  obtain ⟨u, hu', h4⟩ := onV_some h3
  unfold appendS at h4
  split at h4
  · rename_i k htd
    have ht' := Laws.int (P := P) t' k htd
    split at h4
    · cases h4
    split at h4
    · rename_i k' n
      have ex : a.eval x = .slice none 0 0 := hR.eval hv
      have ey : a.eval y = .int k' n := hR.eval hu'
      have hN := hR.new (w' := w) (Same.refl _) (fun _ _ => rfl) (Nat.le_refl _) (.slice none 0 0) (.row e []) (Kd.N_nil _ _ _ _ _) (fun k hk => by simp [Ob.mb, Value.ownBlock] at hk)
      exact ok_zerosK ho hc hop hte ht' (i := s.nx) (xs := []) (by unfold St.look St.new; simp only; rw [get_cons, if_pos rfl]) (by rw [ext_self]; exact ex) ey h4 hN hn
    · rename_i i k' n
      split at h4
      · rename_i t1 xs hlk
        obtain ⟨rfl, h5⟩ := castR_some h4
        exact ok_zerosK ho hc hop hte ht' hlk (hR.eval hv).2.1 (hR.eval hu') h5 hR hn
      · cases h4
    · cases h4
  · cases h4
theorem ok_append {c : Call} (ho : o.op = .call c) (hc : c.callee = .builtin .append) (hw : Region.wanted o (yielded ops a.tmps) = true) (h : opK o s K = some r) (hR : Rel C E Im s a w) (hn : Goes C r K next) : o.wp P a w next Q := by
  simp only [opK, ho, hc, bltK] at h
  split at h
  · rename_i x y t t' hx hts
    have hargs : c.args = #[x, y] := by rw [← Array.toList_inj]; exact hx
    have htys : c.argTypes = #[t, t'] := by rw [← Array.toList_inj]; exact hts
    split at h
    rotate_left
    · exact ok_appendS ho hc hw hargs htys h hR hn
    · rename_i hb
      have htt : t = t' := Nat.eq_of_beq_eq_true hb
      subst htt
      have hop : o.op = .call { callee := .builtin .append, args := #[x, y], argTypes := #[t, t] } := by
        rw [ho]
        obtain ⟨c1, c2, c3⟩ := c
        simp only at hc hargs htys
        rw [hc, hargs, htys]
      obtain ⟨e, hte, h2⟩ := elemOf_some h
      obtain ⟨hu, hz, hsz⟩ := Laws.slice (P := P) t e hte
      obtain ⟨v, hv, h3⟩ := onV_some h2
      obtain ⟨u, hu', h4⟩ := onV_some h3
      have hrv := hR.eval hv
      have hru := hR.eval hu'
      obtain ⟨zv, b, hi1, hi2, hb0, hlb, _, _⟩ := (Laws.ok (P := P) e hz).info
      unfold appendK at h4
      split at h4
      · rename_i i
        split at h4
        · rename_i t1 xs hlk
          obtain ⟨rfl, h5⟩ := castR_some h4
          obtain ⟨h0, rows, hl, hRr, hf⟩ := (rowN hR hlk).1
          have hf' : ∀ (j : Nat) (x : El t1) (c : List Value), xs[j]? = some x → rows[j]? = some c → Kd.FK (kd t1) w Im x c := fun j x c hx hc => Kd.FK_mono (hf j x c hx hc) (fun k hk => hk.1.elim (fun e => absurd e hk.2) id)
          have go : ∀ (ys : List (El t1)) (A : Option Addr) (c : Nat) (news : List (List Value)), a.eval y = .slice A ys.length c → news.length = ys.length → ReadsRow (fun x cs => cs = x ∧ cs.length = (kd t1).sz ∧ ∀ u ∈ cs, u.oneCell' = true) (kd t1).sz w A ys.length news → (∀ (j : Nat) (x : El t1) (c : List Value), ys[j]? = some x → news[j]? = some c → Kd.FK (kd t1) w Im x c) → appK t1 i xs o s K ys = some r → o.wp P a w next Q := by
            intro ys A c news ey hl2 hrd hf2 h6
            obtain ⟨hlm, h7⟩ := ite_some h6
            have hlb' : (rows.length + ys.length) * b ≤ 140737488355328 := by
              rw [hl]
              exact Nat.le_trans (Nat.mul_le_mul_right b hlm) hlb
            have := Kd.R_append_rows_step (P := P) (Q := Q) (Kc := next) (Kd.raw (kd t1).sz) (w0 := w) (W := w) 0 hw x y t t1 zv b hop hu (by rw [show (Kd.raw (kd t1).sz).sz = szOf t1 from hsz]; exact hi1) (by rw [show (Kd.raw (kd t1).sz).sz = szOf t1 from hsz]; exact hi2) (by rw [show (Kd.raw (kd t1).sz).sz = szOf t1 from hsz]; exact zero_ne hz) hb0 (E i) rows news A ys.length c (fun _ => True) (fun _ => False) hrv.2.1 ey (Kd.raw_any hRr) hrd (fun _ _ hk => hk) (fun _ hk => hk.elim) (fun _ _ => trivial) (below0 w w (Same.refl _) (Nat.le_refl _)) (Nat.zero_le _) hlb' (fun v1 w1 hr _ hg hat => ?_)
            · rwa [if_pos hw] at this
            · have hnew := appended hR hlk hl hf' hl2 hf2 hr hg hat
              exact hn _ _ _ _ _ h7 (hnew.put (v := .own s.nx) (own_rep (by obtain ⟨A, c, e⟩ := Kd.R_slice hr; exact ⟨A, _, c, e⟩)))
          split at h5
          · rename_i t2 ys
            obtain ⟨rfl, h6⟩ := castR_some h5
            obtain ⟨A, c, news, ey, hl2, hrd, hf2⟩ := reads_ro hru
            exact go ys A c news ey hl2 hrd hf2 h6
          · rename_i j
            split at h5
            · cases h5
            · split at h5
              · rename_i t2 ys hlk2
                obtain ⟨rfl, h6⟩ := castR_some h5
                obtain ⟨A, c, news, ey, hl2, hrd, hf2⟩ := reads_row (rowN hR hlk2).1
                exact go ys A c news (by rw [hru.2.1]; exact ey) hl2 hrd hf2 h6
              · rename_i t2 ys hlk2
                obtain ⟨rfl, h6⟩ := castR_some h5
                have hob := (hR.h.ob j _ (look_some hlk2 (by simp))).2
                obtain ⟨A, c, news, ey, hl2, hrd, hf2⟩ := reads_ro (show Rep E s.nx w Im (.ro t2 ys) (E j) from hob)
                exact go ys A c news (by rw [hru.2.1]; exact ey) hl2 hrd hf2 h6
              · cases h5
          · cases h5
        · cases h4
      · cases h4
  · cases h
theorem own_same (A : Option Addr) (n m c : Nat) : (Value.slice A m c).ownBlock = (Value.slice A n c).ownBlock := by
  cases A <;> rfl
/-- The front of a row. -/
theorem N_take {α : Type} {d : Kd α} {e m : Nat} {ok : Nat → Prop} {A : Option Addr} {c : Nat} {xs : List α} (h : Kd.N d e w 0 ok (.slice A xs.length c) xs) (hm : m ≤ xs.length) : Kd.N d e w 0 ok (.slice A m c) (xs.take m) := by
  obtain ⟨h0, rows, hl, ⟨h1, inner, ho, hr⟩, hf⟩ := h
  rw [hl] at ho
  have ho2 := own_take ho hm
  have eo := own_same A xs.length m c
  refine ⟨fun k hk => h0 k (eo ▸ hk), rows.take m, by rw [List.length_take, List.length_take, hl], ⟨fun k hk => hk.symm, inner.take (m * d.sz), ?_, ?_⟩, fun j x c' hx hc => ?_⟩
  · rw [List.length_take, hl, Nat.min_eq_left hm]
    exact ho2
  · refine ⟨?_, fun j p hj => ?_⟩
    · have e2 : inner.length = xs.length * d.sz := by rw [← hl]; exact hr.1
      show (inner.take (m * d.sz)).length = (rows.take m).length * d.sz
      rw [List.length_take, List.length_take, hl, e2, Nat.min_eq_left hm]
      exact Nat.min_eq_left (Nat.mul_le_mul_right _ hm)
    · rw [List.getElem?_take] at hj
      split at hj
      · rename_i hjm
        have := hr.2 j p hj
        have e1 : ((inner.take (m * d.sz)).drop (j * d.sz)).take d.sz = (inner.drop (j * d.sz)).take d.sz := by
          rw [List.drop_take, List.take_take]
          congr 1
          have : (j + 1) * d.sz ≤ m * d.sz := Nat.mul_le_mul_right _ hjm
          rw [Nat.succ_mul] at this
          exact Nat.min_eq_left (by omega)
        show (Kd.raw d.sz).M w 0 _ p (((inner.take (m * d.sz)).drop (j * d.sz)).take d.sz)
        rw [e1]
        exact Kd.M_mono _ (fun k hk => by rw [eo]; exact hk) this
      · cases hj
  · rw [List.getElem?_take] at hx hc
    split at hx
    · rename_i hjm
      rw [if_pos hjm] at hc
      exact Kd.FK_mono (hf j x c' hx hc) (fun k hk => by rw [eo]; exact hk)
    · cases hx
theorem F_view {e : Nat} {xs : List (El e)} {ys : List (El e)} {A : Option Addr} {c : Nat} {l h : Option Int} {K : List (El e) → Option ρ} (hv : viewK xs l h K = some r) (hF : Kd.F (kd e) w Im A xs.length xs) (hc : xs.length ≤ c) :
    ∃ lo hi : Nat, lo ≤ hi ∧ hi ≤ xs.length ∧ (l = none ∧ lo = 0 ∨ l = some (lo : Int)) ∧ (h = none ∧ hi = xs.length ∨ h = some (hi : Int)) ∧ K ((xs.take hi).drop lo) = some r ∧ Kd.F (kd e) w Im (if c = lo then A else A.map (·.add (lo * (kd e).sz))) ((xs.take hi).drop lo).length ((xs.take hi).drop lo) := by
  have low : ∀ (hi : Nat) (rr : Int), hi ≤ xs.length → rr = (hi : Int) → lowK (xs.take hi) rr l K = some r → ∃ lo : Nat, lo ≤ hi ∧ (l = none ∧ lo = 0 ∨ l = some (lo : Int)) ∧ K ((xs.take hi).drop lo) = some r := by
    intro hi rr hle hr hk
    unfold lowK at hk
    split at hk
    · exact ⟨0, Nat.zero_le _, .inl ⟨rfl, rfl⟩, hk⟩
    · rename_i q
      obtain ⟨h0, hk⟩ := ite_some hk
      obtain ⟨h1, hk⟩ := ite_some hk
      refine ⟨q.toNat, by omega, .inr ?_, hk⟩
      congr 1
      omega
  unfold viewK at hv
  split at hv
  · obtain ⟨lo, h1, h2, h3⟩ := low xs.length xs.length (Nat.le_refl _) rfl (by rw [List.take_length]; exact hv)
    exact ⟨lo, xs.length, h1, Nat.le_refl _, h2, .inl ⟨rfl, rfl⟩, h3, Kd.F_mid hF h1 (Nat.le_refl _) hc⟩
  · rename_i q
    obtain ⟨h0, hv⟩ := ite_some hv
    obtain ⟨h1, hv⟩ := ite_some hv
    have h1' : q ≤ (xs.length : Int) := h1
    obtain ⟨lo, h2, h3, h4⟩ := low q.toNat q (by omega) (by omega) hv
    exact ⟨lo, q.toNat, h2, by omega, h3, .inr (by congr 1; omega), h4, Kd.F_mid hF h2 (by omega) hc⟩
theorem run_slice {t e : TypeId} {A : Option Addr} {n c lo hi sz : Nat} {l h : Option Value} (hu : P.underlying t = some (.slice e)) (hs : ∀ w, (sizeOf e).run P w = .ok sz w) (hlo : lo ≤ hi) (hhi : hi ≤ n) (hc : n ≤ c) (hl : l = none ∧ lo = 0 ∨ ∃ k, l = some (.int k (lo : Int))) (hh : h = none ∧ hi = n ∨ ∃ k, h = some (.int k (hi : Int))) (w : World) :
    (Instr.sliceAt t (.slice A n c) l h none).run P w = .ok (.slice (if c = lo then A else A.map (·.add (lo * sz))) (hi - lo) (c - lo)) w := by
  have hhc : (hi : Int) ≤ (c : Int) := by omega
  have hll : (lo : Int) ≤ (hi : Int) := by omega
  have q1 : ¬ c < hi := by omega
  have q2 : ¬ hi < lo := by omega
  have q3 : hi ≤ c := by omega
  rcases hl with ⟨rfl, rfl⟩ | ⟨k, rfl⟩ <;> rcases hh with ⟨rfl, rfl⟩ | ⟨k', rfl⟩
  all_goals
    simp [Instr.sliceAt, Instr.slice, Instr.sliceBounds, Instr.sliceBound, asIntOf, underlying, hu, hs, hhc, hll, q1, q2, q3, hlo]
theorem ok_ro_cut {t e : TypeId} {x : Operand} {lo hi mx : Option Operand} (ho : o.op = .slice t x lo hi mx) (hte : td t = .slice e) {xs : List (El e)} {l h : Option Int} {s' : St} (hx : Rep E s.nx w Im (.ro e xs) (a.eval x)) (hl : (lo = none ∧ l = none) ∨ ∃ y k n, lo = some y ∧ a.eval y = .int k n ∧ l = some n) (hh : (hi = none ∧ h = none) ∨ ∃ y k n, hi = some y ∧ a.eval y = .int k n ∧ h = some n) (hm : mx = none)
    (hk : viewK xs l h (fun ys => K (s'.put o.dst (.ro e ys))) = some r) (hnx : s'.nx = s.nx) (hR : Rel C E Im s' a w) (hn : Goes C r K next) : o.wp P a w next Q := by
  obtain ⟨hu, hz, hsz⟩ := Laws.slice (P := P) t e hte
  obtain ⟨A, c, ex, hc, hF⟩ := hx
  obtain ⟨q, p, h1, h2, h3, h4, h5, h6⟩ := F_view (ys := []) hk hF hc
  have hrun := run_slice (P := P) (A := A) hu (run_size (Laws.ok (P := P) e hz)) h1 h2 hc (l := lo.map a.eval) (h := hi.map a.eval) (by
    rcases hl with ⟨rfl, rfl⟩ | ⟨y, k, n, rfl, e1, rfl⟩
    · rcases h3 with ⟨_, h3⟩ | h3
      · exact .inl ⟨rfl, h3⟩
      · cases h3
    · rcases h3 with ⟨h3, _⟩ | h3
      · cases h3
      · injection h3 with h3
        exact .inr ⟨k, by rw [Option.map_some, e1, h3]⟩) (by
    rcases hh with ⟨rfl, rfl⟩ | ⟨y, k, n, rfl, e1, rfl⟩
    · rcases h4 with ⟨_, h4⟩ | h4
      · exact .inl ⟨rfl, h4⟩
      · cases h4
    · rcases h4 with ⟨h4, _⟩ | h4
      · cases h4
      · injection h4 with h4
        exact .inr ⟨k, by rw [Option.map_some, e1, h4]⟩) w
  have hlen : ((xs.take p).drop q).length = p - q := by rw [List.length_drop, List.length_take, Nat.min_eq_left h2]
  rw [hsz] at h6
  refine wp_val (v := .slice (if c = q then A else A.map (·.add (q * szOf e))) (p - q) (c - q)) ?_ (hn _ _ _ _ _ h5 (hR.put (v := .ro e ((xs.take p).drop q)) ⟨_, c - q, by rw [hlen], by rw [hlen]; omega, by rw [hlen] at h6; rw [hlen]; exact h6⟩))
  simp only [execOp, ho, ex, hm, Option.map_none, Sem.run_bind, hrun, Result.andThen_ok]
  rfl
theorem ok_take {t e : TypeId} {x hop : Operand} (ho : o.op = .slice t x none (some hop) none) (hte : td t = .slice e) {i : Nat} {xs : List (El e)} {k : IntKind} {n : Int} (hlk : s.look i = .row e xs) (hx : a.eval x = E i) (eh : a.eval hop = .int k n) (h : takeK e i xs n o s K = some r) (hR : Rel C E Im s a w) (hn : Goes C r K next) : o.wp P a w next Q := by
  obtain ⟨hu, hz, hsz⟩ := Laws.slice (P := P) t e hte
  unfold takeK at h
  obtain ⟨h0, h6⟩ := ite_some h
  obtain ⟨h1, h7⟩ := ite_some h6
  have hN := (rowN hR hlk).1
  obtain ⟨A, c, hE⟩ := Kd.N_slice hN
  obtain ⟨A', c', hE2, hlc, _⟩ := Kd.N_reads hN
  have hcc : c' = c := by
    rw [hE] at hE2
    injection hE2 with _ _ hc
    exact hc.symm
  subst hcc
  rw [hE] at hN
  have h1 : n ≤ (xs.length : Int) := h1
  have hm : n.toNat ≤ xs.length := by omega
  have hN2 := N_take hN hm
  have ex : a.eval x = .slice A xs.length c' := by rw [← hE]; exact hx
  have eo := own_same A xs.length n.toNat c'
  have hg0 := look_some hlk (by simp)
  have hEo : (E i).ownBlock = (Value.slice A n.toNat c').ownBlock := by rw [hE, eo]
  have hnew := hR.replace (w' := w) hg0 (Same.refl _) (fun _ _ _ => rfl) (Nat.le_refl _) (.slice A n.toNat c') (.row e (xs.take n.toNat)) (Kd.N_mono hN2 (fun k hk => by rw [eo]; exact hk)) (fun k hk => .inl (by
    show (E i).ownBlock = some k
    rw [hEo]
    exact hk))
  refine wp_val (v := .slice A n.toNat c') ?_ (hn _ _ _ _ _ h7 (hnew.put (v := .own s.nx) ⟨Nat.lt_succ_self _, by rw [ext_self], _, _, _, rfl⟩))
  have hs := run_size (Laws.ok (P := P) e hz)
  have hb : n ≤ (c' : Int) := by omega
  simp [execOp, ho, Instr.sliceAt, Instr.slice, Instr.sliceBounds, Instr.sliceBound, asIntOf, underlying, hu, ex, eh, hs, h0, hb]
  intro _
  cases A <;> rfl
theorem ok_slice {t : TypeId} {x : Operand} {lo hi mx : Option Operand} (ho : o.op = .slice t x lo hi mx) (h : opK o s K = some r) (hR : Rel C E Im s a w) (hn : Goes C r K next) : o.wp P a w next Q := by
  simp only [opK, ho] at h
  obtain ⟨v, hv, h2⟩ := onV_some h
  have hr := hR.eval hv
  have opt : ∀ (y : Option Operand) (K' : Option Int → Option ρ), optI s y K' = some r → ∃ l, ((y = none ∧ l = none) ∨ ∃ z k n, y = some z ∧ a.eval z = .int k n ∧ l = some n) ∧ K' l = some r := fun y K' hy => by
    rcases optI_some hy hR with ⟨h1, h2⟩ | ⟨z, k, n, h1, h2, h3⟩
    · exact ⟨none, .inl ⟨h1, rfl⟩, h2⟩
    · exact ⟨some n, .inr ⟨z, k, n, h1, h2, rfl⟩, h3⟩
  obtain ⟨l, hl, h3⟩ := opt _ _ h2
  obtain ⟨hh, hhi, h4⟩ := opt _ _ h3
  obtain ⟨m, hmx, h5⟩ := opt _ _ h4
  have hmn : m = none → mx = none := fun e => by
    rcases hmx with ⟨h1, _⟩ | ⟨z, k, n, h1, h2, h3⟩
    · exact h1
    · rw [e] at h3; cases h3
  unfold sliceK at h5
  split at h5
  · rename_i htd
    have hu := Laws.str (P := P) t htd
    split at h5
    · rename_i b
      obtain ⟨g0, h6⟩ := ite_some h5
      obtain ⟨g1, h7⟩ := ite_some h6
      obtain ⟨g2, h8⟩ := ite_some h7
      have ex : a.eval x = .string b := hr
      rw [hmn rfl] at ho
      refine wp_val (v := .string _) ?_ (hn _ _ _ _ _ h8 (hR.put rfl))
      rcases hl with ⟨rfl, rfl⟩ | ⟨z1, k1, n1, rfl, e1, rfl⟩ <;> rcases hhi with ⟨rfl, rfl⟩ | ⟨z2, k2, n2, rfl, e2, rfl⟩ <;> simp only at g0 g1 g2
      · simp [execOp, ho, Instr.sliceAt, Instr.slice, Instr.sliceBounds, Instr.sliceBound, asIntOf, underlying, hu, ex]
      · simp [execOp, ho, Instr.sliceAt, Instr.slice, Instr.sliceBounds, Instr.sliceBound, asIntOf, underlying, hu, ex, e2, g1, g2]
      · have : n1 ≤ (b.size : Int) := g1
        simp [execOp, ho, Instr.sliceAt, Instr.slice, Instr.sliceBounds, Instr.sliceBound, asIntOf, underlying, hu, ex, e1, g0, this]
      · obtain ⟨p1, rfl⟩ := Int.eq_ofNat_of_zero_le g0
        obtain ⟨p2, rfl⟩ := Int.eq_ofNat_of_zero_le (show 0 ≤ n2 by omega)
        have g3 : p1 ≤ p2 := by omega
        have g4 : p2 ≤ b.size := by omega
        simp [execOp, ho, Instr.sliceAt, Instr.slice, Instr.sliceBounds, Instr.sliceBound, asIntOf, underlying, hu, ex, e1, e2, g3, g4]
    · cases h5
  · rename_i e hte
    obtain ⟨hu, hz, hsz⟩ := Laws.slice (P := P) t e hte
    have view : ∀ (xs : List (El e)) (s' : St), Rep E s.nx w Im (.ro e xs) (a.eval x) → froCutK e xs l hh m o s' K = some r → s'.nx = s.nx → Rel C E Im s' a w → o.wp P a w next Q := fun xs s' hx h6 hnx hR' => by
      unfold froCutK at h6
      split at h6
      · cases h6
      · exact ok_ro_cut ho hte hx hl hhi (hmn rfl) h6 hnx hR' hn
    split at h5
    · split at h5
      · rename_i q
        obtain ⟨g0, h6⟩ := ite_some h5
        subst g0
        have ex : a.eval x = .slice none 0 0 := hr
        rw [hmn rfl] at ho
        rcases hl with ⟨rfl, _⟩ | ⟨z1, k1, n1, _, _, e1⟩
        rotate_left
        · cases e1
        rcases hhi with ⟨_, e2⟩ | ⟨z2, k2, n2, rfl, e2, e3⟩
        · cases e2
        injection e3 with e3
        subst e3
        refine wp_val (v := .slice none 0 0) ?_ (hn _ _ _ _ _ h6 (hR.put (v := .nils) rfl))
        have hs := run_size (Laws.ok (P := P) e hz)
        simp [execOp, ho, Instr.sliceAt, Instr.slice, Instr.sliceBounds, Instr.sliceBound, asIntOf, underlying, hu, ex, e2, hs]
      · cases h5
    · rename_i t1 xs
      obtain ⟨rfl, h6⟩ := castR_some h5
      exact view xs s hr h6 rfl hR
    · rename_i i
      split at h5
      · rename_i t1 xs hlk
        obtain ⟨rfl, h6⟩ := castR_some h5
        unfold ownCutK at h6
        split at h6
        · cases h6
        split at h6
        · rename_i q _
          rw [hmn rfl] at ho
          rcases hl with ⟨rfl, _⟩ | ⟨z1, k1, n1, _, _, e1⟩
          rotate_left
          · cases e1
          rcases hhi with ⟨_, e2⟩ | ⟨z2, k2, n2, rfl, e2, e3⟩
          · cases e2
          injection e3 with e3
          subst e3
          exact ok_take ho hte hlk hr.2.1 e2 h6 hR hn
        · have hF := hR.freeze hlk
          have hob := (hF.h.ob i _ (look_some (by rw [look_obj, if_pos rfl]) (by simp))).2
          have hob' : Rep E s.nx w (fun k => Im k ∨ (E i).ownBlock = some k) (.ro t1 xs) (E i) := hob
          exact ok_ro_cut (s := s) ho hte (by rw [hr.2.1]; exact hob') hl hhi (hmn rfl) h6 rfl hF hn
      · rename_i t1 xs hlk
        obtain ⟨rfl, h6⟩ := castR_some h5
        have hob := (hR.h.ob i _ (look_some hlk (by simp))).2
        exact view xs s (by rw [hr.2.1]; exact hob) h6 rfl hR
      · cases h5
    · cases h5
  · cases h5
theorem ok_makeMap {t : TypeId} {m : Option Operand} (ho : o.op = .makeMap t m) (h : opK o s K = some r) (hR : Rel C E Im s a w) (hn : Goes C r K next) : o.wp P a w next Q := by
  simp only [opK, ho] at h
  split at h
  · rename_i k e htd
    have hsame : ∀ q, q < w.heap.size → (w.alloc (.map #[] 0)).heap[q]? = w.heap[q]? := (cls_alloc _).2.2
    have hB := hR.new (w' := w.alloc (.map #[] 0)) (cls_alloc _).1 hsame (cls_alloc _).2.1 (.map (some w.heap.size)) (.map t k e []) ⟨w.heap.size, [], 0, rfl, blk_new w _, htd, rfl⟩ (fun q hq => by
      have : w.heap.size = q := by simpa [Ob.mb] using hq
      omega)
    refine wp_val (v := .map (some w.heap.size)) ?_ (hn _ _ _ _ _ h (hB.put (v := .mp s.nx) ⟨Nat.lt_succ_self _, by rw [ext_self], _, rfl⟩))
    simp only [execOp, ho, Option.map_none, Instr.makeMap, Sem.run_bind, run_newObj, Sem.run_pure, Result.andThen_ok]
    rfl
  · cases h
theorem same_key {k : Nat} {d : TypeDesc} (hd : ∀ (x : El k) (u : Value) E nx w Im, RepL E nx w Im (Tab.enc k x) [u] → Go.MapKept.IsKey d u ∧ ∀ (y : El k) (v : Value) E nx w Im, RepL E nx w Im (Tab.enc k y) [v] → (keq k x y = true ↔ u = v)) {y y' : El k} {u v : Value} (hu : ∀ E nx, RepL E nx w Im (Tab.enc k y) [u]) (hv : ∀ E nx, RepL E nx w Im (Tab.enc k y') [v]) : Go.Instr.sameNow d u v = some (keq k y y') ∧ (keq k y y' = true → u = v) := by
  obtain ⟨h1, h2⟩ := hd y u (fun _ => .nilIface) 0 w Im (hu _ _)
  obtain ⟨h3, _⟩ := hd y' v (fun _ => .nilIface) 0 w Im (hv _ _)
  have h4 := h2 y' v (fun _ => .nilIface) 0 w Im (hv _ _)
  obtain ⟨b, h5, h6⟩ := Go.MapKept.sameNow_of_keys h1 h3
  refine ⟨?_, h4.1⟩
  rw [h5]
  congr 1
  cases b <;> cases hq : keq k y y' <;> first
    | rfl
    | (have := h6.2 (h4.1 hq); cases this)
    | (have := h4.2 (h6.1 rfl); rw [hq] at this; cases this)
theorem find_ent {k e : Nat} {d : TypeDesc} (hd : ∀ (x : El k) (u : Value) E nx w Im, RepL E nx w Im (Tab.enc k x) [u] → Go.MapKept.IsKey d u ∧ ∀ (y : El k) (v : Value) E nx w Im, RepL E nx w Im (Tab.enc k y) [v] → (keq k x y = true ↔ u = v)) {y : El k} {u : Value} (hu : ∀ E nx, RepL E nx w Im (Tab.enc k y) [u]) : ∀ (es : List (El k × El e)) (ms : List MapEntry) (i : Nat), EntRel w Im k e es ms →
    (mapFind (keq k) es y = none ∧ Go.Instr.findNow d u ms i = some none) ∨ ∃ j x v, mapFind (keq k) es y = some x ∧ Go.Instr.findNow d u ms i = some (some (j, v)) ∧ (∀ E nx, RepL E nx w Im (Tab.enc e x) v.cells.toList) ∧ (∀ u ∈ v.cells.toList, u.oneCell' = true) ∧ (aggT e = true → ∃ c, v = .agg c) ∧ (aggT e = false → v.cells = #[v])
  | [], ms, i, h => by
    obtain rfl : ms = [] := h
    exact .inl ⟨rfl, rfl⟩
  | (y', x) :: es, ms, i, h => by
    obtain ⟨m, ms', rfl, h1, h2, h3, h4, h5, h6⟩ := h
    obtain ⟨g1, g2⟩ := same_key hd hu h1
    unfold mapFind Go.Instr.findNow
    rw [g1]
    cases hk : keq k y y' with
    | true => exact .inr ⟨i, x, m.val, rfl, rfl, h2, h3, h4, h5⟩
    | false =>
      rcases find_ent hd hu es ms' (i + 1) h6 with ⟨e1, e2⟩ | ⟨j, x', m', e1, e2, e4⟩
      · exact .inl ⟨e1, e2⟩
      · exact .inr ⟨j, x', m', e1, e2, e4⟩
/-- An entry set. -/
theorem set_ent {k e : Nat} {d : TypeDesc} (hd : ∀ (x : El k) (u : Value) E nx w Im, RepL E nx w Im (Tab.enc k x) [u] → Go.MapKept.IsKey d u ∧ ∀ (y : El k) (v : Value) E nx w Im, RepL E nx w Im (Tab.enc k y) [v] → (keq k x y = true ↔ u = v)) {y : El k} {u v : Value} {x : El e} (hu : ∀ E nx, RepL E nx w Im (Tab.enc k y) [u]) (hv1 : ∀ E nx, RepL E nx w Im (Tab.enc e x) v.cells.toList) (hv2 : ∀ u ∈ v.cells.toList, u.oneCell' = true) (hv3 : aggT e = true → ∃ c, v = .agg c) (hv4 : aggT e = false → v.cells = #[v]) : ∀ (es : List (El k × El e)) (ms : List MapEntry) (i : Nat), EntRel w Im k e es ms →
    (Go.Instr.findNow d u ms i = some none ∧ ∀ b, EntRel w Im k e (mapSetE (keq k) es y x) (ms ++ [⟨u, v, b⟩])) ∨ ∃ j m, Go.Instr.findNow d u ms i = some (some (i + j, m.val)) ∧ ms[j]? = some m ∧ m.key = u ∧ EntRel w Im k e (mapSetE (keq k) es y x) (ms.set j { m with key := u, val := v })
  | [], ms, i, h => by
    obtain rfl : ms = [] := h
    exact .inl ⟨rfl, fun b => ⟨_, _, rfl, hu, hv1, hv2, hv3, hv4, rfl⟩⟩
  | (y', x') :: es, ms, i, h => by
    obtain ⟨m, ms', rfl, h1, h2, h3, h4, h5, h6⟩ := h
    obtain ⟨g1, g2⟩ := same_key hd hu h1
    unfold mapSetE Go.Instr.findNow
    rw [g1]
    cases hk : keq k y y' with
    | true => exact .inr ⟨0, m, rfl, rfl, (g2 hk).symm, ⟨_, _, rfl, hu, hv1, hv2, hv3, hv4, h6⟩⟩
    | false =>
      rcases set_ent hd hu hv1 hv2 hv3 hv4 es ms' (i + 1) h6 with ⟨e1, e2⟩ | ⟨j, m', e1, e2, e3, e4⟩
      · exact .inl ⟨e1, fun b => ⟨_, _, rfl, h1, h2, h3, h4, h5, e2 b⟩⟩
      · exact .inr ⟨j + 1, m', by rw [show i + (j + 1) = i + 1 + j by omega]; exact e1, e2, e3, ⟨_, _, rfl, h1, h2, h3, h4, h5, e4⟩⟩
theorem modify_set {α : Type} (f : α → α) : ∀ {l : List α} {j : Nat} {m : α}, l[j]? = some m → l.modify j f = l.set j (f m)
  | [], j, m, h => by simp at h
  | x :: l, 0, m, h => by
    rw [List.getElem?_cons_zero] at h
    injection h with h
    subst h
    rfl
  | x :: l, j + 1, m, h => by
    rw [List.getElem?_cons_succ] at h
    have := modify_set f h
    simp [this]
theorem keyK_some {t : Nat} {v : AV} {K : El t → Option ρ} (h : keyK t v K = some r) : ∃ y, dec t [v] = some y ∧ K y = some r ∧ ∀ (E : Nat → Value) nx w Im u, Rep E nx w Im v u → (∀ E' nx' w' Im', RepL E' nx' w' Im' [v] [u]) ∧ ∀ q ∈ [u], q.oneCell' = true := by
  unfold keyK keyL at h
  cases v <;> simp only at h <;> first
    | (cases h; done)
    | (split at h
       · rename_i y hy
         exact ⟨y, hy, h, fun E nx w Im u hu => ⟨fun E' nx' w' Im' => ⟨u, [], rfl, hu, rfl⟩, fun q hq => by rw [List.mem_singleton.1 hq, show u = _ from hu]; rfl⟩⟩
       · cases h)
theorem aggV_rep {v : AV} {u : Value} {E : Nat → Value} {nx : Nat} (hv : onC (some v) some ≠ none) (h : Rep E nx w Im v u) : (aggV v = true → ∃ c, u = .agg c) ∧ (aggV v = false → u.cells = #[u]) := by
  cases v
  case agg l =>
    obtain ⟨c, rfl, _⟩ := h
    exact ⟨fun _ => ⟨_, rfl⟩, fun e => (by cases e)⟩
  all_goals refine ⟨fun e => (by cases e), fun _ => ?_⟩
  all_goals first
    | (exact absurd rfl hv)
    | (obtain ⟨A, c, rfl, _⟩ := h; rfl)
    | (obtain ⟨_, _, A, n, c, rfl⟩ := h; rfl)
    | (obtain ⟨_, _, g, rfl⟩ := h; rfl)
    | (obtain ⟨_, g, _, rfl⟩ := h; rfl)
    | (obtain ⟨_, g, n, c, _, _, rfl⟩ := h; rfl)
    | (obtain ⟨_, g, n, _, _, rfl⟩ := h; rfl)
    | (obtain ⟨g, rfl, _⟩ := h; rfl)
    | (exact h.elim)
    | (rw [show u = _ from h]; rfl)
theorem ok_mapUpdate {t : TypeId} {m kx x : Operand} (ho : o.op = .insert t m kx x ∨ o.op = .mapUpdate t m kx x) (h : opK o s K = some r) (hR : Rel C E Im s a w) (hn : Goes C r K next) : o.wp P a w next Q := by
  have h' : (match o.dst with
    | none => onV (s.ev m) fun v => onV (s.ev kx) fun k => onV (s.ev x) fun u => mapUpd t v k u s K
    | some _ => none) = some r := by rcases ho with ho | ho <;> (simp only [opK, ho] at h; exact h)
  split at h'
  rotate_left
  · cases h'
  rename_i hdst
  obtain ⟨v, hv, h2⟩ := onV_some h'
  obtain ⟨kv, hkv, h3⟩ := onV_some h2
  obtain ⟨uv, huv, h4⟩ := onV_some h3
  have hr := hR.eval hv
  have hrk := hR.eval hkv
  have hru := hR.eval huv
  unfold mapUpd at h4
  split at h4
  · rename_i i
    split at h4
    · rename_i t1 k1 e1 es hlk
      split at h4
      · rename_i hb
        rw [Bool.and_eq_true] at hb
        obtain rfl : t1 = t := Nat.eq_of_beq_eq_true hb.1
        obtain ⟨y, hy, h5, hkr⟩ := keyK_some h4
        obtain ⟨u', ul, e0, h6, hurep⟩ := onC_some h5
        injection e0 with e0
        subst e0
        obtain ⟨hul, hu1⟩ := hurep _ _ _ _ _ hru
        unfold decK at h6
        split at h6
        · rename_i z hz
          have hg := look_some hlk (by simp)
          obtain ⟨hi, g, ms, clk, hE, hh, htd, hent⟩ := hR.h.ob i _ hg
          obtain ⟨hu, hze, d, hdk, hd⟩ := Laws.map (P := P) t1 k1 e1 htd
          have hukey : ∀ E nx, RepL E nx w Im (Tab.enc k1 y) [a.eval kx] := Laws.mapK (P := P) t1 k1 e1 htd _ y _ w Im E s.nx hy ((hkr _ _ _ _ _ hrk).1 _ _ _ _) (hkr _ _ _ _ _ hrk).2
          have huval : ∀ E nx, RepL E nx w Im (Tab.enc e1 z) (a.eval x).cells.toList := Laws.mapE (P := P) t1 k1 e1 htd _ z _ w Im E s.nx hz hul hu1
          have hne : onC (some uv) some ≠ none := by
            intro e
            unfold onC at h5 e
            cases uv <;> simp only at h5 e <;> first | cases h5 | cases e
          obtain ⟨ha1, ha2⟩ := aggV_rep hne hru
          have hxor : aggV uv = aggT e1 := by
            have := hb.2
            cases h8 : aggV uv <;> cases h9 : aggT e1 <;> rw [h8, h9] at this <;> first | rfl | cases this
          rw [hxor] at ha1 ha2
          have em : a.eval m = .map (some g) := by rw [hr.2.1, hE]
          have hkk := (hd y _ (fun _ => .nilIface) 0 w Im (hukey _ _)).1
          have hput : ∀ u, a.put o.dst u = a := fun u => by rw [hdst]; rfl
          have key : ∀ (ms' : List MapEntry) (clk' : Nat), (Instr.mapUpdate t1 (.map (some g)) (a.eval kx) (a.eval x)).run P w = .ok () { w with heap := w.heap.setIfInBounds g (.map ms'.toArray clk') } → EntRel w Im k1 e1 (mapSetE (keq k1) es y z) ms' → o.wp P a w next Q := by
            intro ms' clk' hrun hent'
            obtain ⟨hs1, hs2⟩ := Go.MapKept.heap_set (o' := .map ms'.toArray clk') hh
            have hmbE : (Ob.map t1 k1 e1 es).mb (E i) = some g := by rw [hE]; rfl
            have hI : ∀ q, Im q → q ≠ g := fun q hq e => hR.h.imd i _ q hg (by rw [hmbE, e]) hq
            have hnew := hR.turn (w' := { w with heap := w.heap.setIfInBounds g (.map ms'.toArray clk') }) (o' := .map t1 k1 e1 (mapSetE (keq k1) es y z)) hg ⟨rfl, rfl, rfl⟩ (fun _ h => h) (fun _ h => .inl h) (fun q hq hne => hs2 q (fun e => hne (by rw [hmbE, e]))) (by simp) ⟨g, ms', clk', hE, hs1, htd, EntRel.step (fun q hq _ => hs2 q (hI q hq)) (fun _ h => h) _ _ hent'⟩ (fun q hq => by
              have hq' : (Ob.map t1 k1 e1 es).mb (E i) = some q := by rw [hE] at hq ⊢; exact hq
              exact ⟨hq', fun hq2 => hR.h.imd i _ q hg hq' hq2⟩)
            refine wp_skip' ?_ (by rw [hput]; exact hn _ _ _ _ _ h6 hnew)
            rcases ho with ho | ho <;> (simp only [execOp, ho, em, Sem.run_bind, hrun, Result.andThen_ok]; rfl)
          rcases set_ent (v := a.eval x) hd hukey huval hu1 ha1 ha2 es ms 0 hent with ⟨e1', e2'⟩ | ⟨j, m', e1', e2', e3', e4'⟩
          · refine key (ms ++ [⟨a.eval kx, a.eval x, clk⟩]) (clk + 1) ?_ (e2' clk)
            have hb0 : Go.Instr.findNow d (a.eval kx) ms.toArray.toList 0 = some none := e1'
            simp [Instr.mapUpdate, run_underlying hu, Go.MapKept.run_getObj_map hh, Go.MapKept.run_checkKey hdk hkk, Go.MapKept.run_findKey hdk e1', Go.MapKept.run_setObj_map _ hh, Result.andThen]
          · refine key _ clk ?_ e4'
            rw [Nat.zero_add] at e1'
            have hj : ms.toArray[j]? = some m' := by simpa using e2'
            have hjl : j < ms.length := (List.getElem?_eq_some_iff.1 e2').1
            simp [Instr.mapUpdate, run_underlying hu, Go.MapKept.run_getObj_map hh, Go.MapKept.run_checkKey hdk hkk, Go.MapKept.run_findKey hdk e1', e2', e3', Go.MapKept.run_keyThatStays hkk, Go.MapKept.run_setObj_map _ hh, Result.andThen, modify_set _ e2']
        · cases h6
      · cases h4
    · cases h4
  · cases h4
theorem y_lookup {t : TypeId} {m kx : Operand} {ok : Bool} (ho : o.op = .lookup t m kx ok) (h : opK o s K = some r) (hR : Rel C E Im s a w) : ∃ v u, K (s.put o.dst v) = some r ∧ Rep E s.nx w Im v u ∧ (execOp a.eval o).run P w = .ok (.value u) w := by
  simp only [opK, ho] at h
  split at h
  · cases h
  obtain ⟨v, hv, h2⟩ := onV_some h
  obtain ⟨kv, hkv, h3⟩ := onV_some h2
  have hr := hR.eval hv
  have hrk := hR.eval hkv
  unfold mapLook at h3
  split at h3
  · rename_i i
    split at h3
    · rename_i t1 k1 e1 es hlk
      split at h3
      · rename_i hb
        obtain rfl : t1 = t := Nat.eq_of_beq_eq_true hb
        obtain ⟨y, hy, h5, hkr⟩ := keyK_some h3
        have hg := look_some hlk (by simp)
        obtain ⟨hi, g, ms, clk, hE, hh, htd, hent⟩ := hR.h.ob i _ hg
        obtain ⟨hu, hze, d, hdk, hd⟩ := Laws.map (P := P) t1 k1 e1 htd
        have hukey : ∀ E nx, RepL E nx w Im (Tab.enc k1 y) [a.eval kx] := Laws.mapK (P := P) t1 k1 e1 htd _ y _ w Im E s.nx hy ((hkr _ _ _ _ _ hrk).1 _ _ _ _) (hkr _ _ _ _ _ hrk).2
        have hkk := (hd y _ (fun _ => .nilIface) 0 w Im (hukey _ _)).1
        have em : a.eval m = .map (some g) := by rw [hr.2.1, hE]
        obtain ⟨zv, hzr, hzs, hzc, hza, hzz⟩ := info_zero (P := P) (Laws.ok (P := P) e1 hze)
        have fin : ∀ (x : El e1) (u : Value), ofCells e1 (enc e1 x) (fun v => K (s.put o.dst v)) = some r → (∀ E nx, RepL E nx w Im (Tab.enc e1 x) u.cells.toList) → (∀ q ∈ u.cells.toList, q.oneCell' = true) → (aggT e1 = true → ∃ c, u = .agg c) → (aggT e1 = false → u.cells = #[u]) → ∃ v, K (s.put o.dst v) = some r ∧ Rep E s.nx w Im v u := by
          intro x u hk h1 h2 h3 h4
          unfold ofCells at hk
          split at hk
          · rename_i hag
            split at hk
            · cases hk
            · split at hk
              · obtain ⟨c, rfl⟩ := h3 hag
                exact ⟨_, hk, c.toList, by simp, h1 _ _, h2⟩
              · cases hk
          · rename_i hag
            split at hk
            · rename_i v hv
              have h5 := h1 E s.nx
              rw [hv, h4 hag] at h5
              obtain ⟨u', us, e1, h6, _⟩ := h5
              have e1 : [u] = u' :: us := e1
              injection e1 with e1
              exact ⟨v, hk, by rw [e1]; exact h6⟩
            · cases hk
        unfold mapGetE at h5
        rcases find_ent hd hukey es ms 0 hent with ⟨e1', e2'⟩ | ⟨j, x, u, e1', e2', e3', e4', e5', e6'⟩
        · rw [e1'] at h5
          obtain ⟨hz1, hz2, hz3⟩ := Laws.mapZ (P := P) t1 k1 e1 htd zv hzz
          obtain ⟨v, hk, hv⟩ := fin _ zv h5 (fun E nx => hz1 E nx w Im) hz2 hza hz3
          refine ⟨v, zv, hk, hv, ?_⟩
          simp [execOp, ho, Instr.lookup, run_underlying hu, em, Go.MapKept.run_getObj_map hh, Go.MapKept.run_checkKey hdk hkk, Go.MapKept.run_findKey hdk e2', hzr, Result.andThen]
        · rw [e1'] at h5
          obtain ⟨v, hk, hv⟩ := fin x u h5 e3' e4' e5' e6'
          refine ⟨v, u, hk, hv, ?_⟩
          simp [execOp, ho, Instr.lookup, run_underlying hu, em, Go.MapKept.run_getObj_map hh, Go.MapKept.run_checkKey hdk hkk, Go.MapKept.run_findKey hdk e2', Result.andThen]
      · cases h3
    · cases h3
  · cases h3
theorem ok_lookup {t : TypeId} {m kx : Operand} {ok : Bool} (ho : o.op = .lookup t m kx ok) (h : opK o s K = some r) (hR : Rel C E Im s a w) (hn : Goes C r K next) : o.wp P a w next Q := by
  obtain ⟨v, u, hk, hv, hrun⟩ := y_lookup (P := P) ho h hR
  exact wp_val hrun (hn _ _ _ _ _ hk (hR.put hv))
theorem opK_ok (hw : Region.wanted o (yielded ops a.tmps) = true) (h : opK o s K = some r) (hR : Rel C E Im s a w) (hn : Goes C r K next) : o.wp P a w next Q := by
  cases ho : o.op with
  | move x => exact ok_move (.inl ho) h hR hn
  | assign x => exact ok_move (.inr ho) h hR hn
  | pick c x y => exact ok_pick ho h hR hn
  | binOp op t x y t' => exact ok_binOp ho h hR hn
  | unOp op t x => exact ok_unOp ho h hR hn
  | convert t' t x => exact ok_convert ho h hR hn
  | extract x i => exact ok_extract ho h hR hn
  | nilCheck x => exact ok_nilCheck ho h hR hn
  | indexAddr t x i => exact ok_indexAddr ho h hR hn
  | fieldAddr t x i => exact ok_fieldAddr ho h hR hn
  | field t x i => exact ok_field ho h hR hn
  | load t x => exact ok_load ho h hR hn
  | store t x y => exact ok_store ho h hR hn
  | alloc t => exact ok_alloc ho h hR hn
  | box t x => exact ok_box ho h hR hn
  | build t ps => exact ok_build ho h hR hn
  | buildSlice t n ps => exact ok_buildSlice ho hw h hR hn
  | makeSlice t n c => exact ok_makeSlice ho hw h hR hn
  | makeFunc f first caps => exact ok_makeFunc ho h hR hn
  | makeInterface t x => exact ok_makeInterface ho h hR hn
  | slice t x lo hi mx => exact ok_slice ho h hR hn
  | index t x i => exact ok_index ho h hR hn
  | makeMap t r => exact ok_makeMap ho h hR hn
  | insert t m k x => exact ok_mapUpdate (.inl ho) h hR hn
  | mapUpdate t m k x => exact ok_mapUpdate (.inr ho) h hR hn
  | lookup t m k ok => exact ok_lookup ho h hR hn
  | typeAssert x xt t ok => exact ok_typeAssert ho h hR hn
  | call c =>
    cases hc : c.callee with
    | builtin b =>
      cases b
      case len => exact ok_len ho hc h hR hn
      case cap => exact (y_cap ho hc h hR).ok hR hn
      case append => exact ok_append ho hc hw h hR hn
      case max => exact (y_max ho (.inl hc) h hR).ok hR hn
      case min => exact (y_max ho (.inr hc) h hR).ok hR hn
      all_goals (simp only [opK, ho, hc, bltK] at h; cases h)
    | _ => simp only [opK, ho, hc] at h; cases h
  | _ => simp only [opK, ho] at h; cases h
end
end Go.Proofs.YtnlnjcgoodgmbaaM
