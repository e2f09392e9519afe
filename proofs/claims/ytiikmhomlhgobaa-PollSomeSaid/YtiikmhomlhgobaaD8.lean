/- THE DEN MACHINE, eighth part: rows that are made, written and appended to. -/
import Derived.Test.YtiikmhomlhgobaaD7
set_option linter.unusedVariables false
set_option linter.unusedSectionVars false
namespace Go.Proofs.YtiikmhomlhgobaaM
open Go.RowKit Go.Proofs.YtiikmhomlhgobaaW.PrintWords
open Tys Tab Kds
variable [Tys] [Tab] [Kds]
section
variable {P : Program} [Laws P] {C : Ctx} {E : Nat → Value} {Im : Nat → Prop} {s : St} {a : Act} {w w' : World} {next : Act → World → Prop} {Q : Exit → Act → World → Prop} {o : Oper} {ρ : Type} {r : ρ} {K : St → Option ρ} {ops : Array Oper}
theorem fillS (sz : Nat) : ∀ (vs : List Value) (j : Nat) (pre post : List Value), (∀ v ∈ vs, v.cells.size = sz) → pre.length = j * sz → post.length = vs.length * sz → Instr.fill (fun i => some (i * sz, sz)) (pre ++ post).toArray ((vs.zipIdx j).map fun p => (p.2, p.1)) = some (pre ++ vs.flatMap fun v => v.cells.toList).toArray
  | [], j, pre, post, _, _, hp => by
    have : post = [] := by simpa using hp
    subst this
    rfl
  | v :: vs, j, pre, post, hv, hpre, hpost => by
    have h1 := hv v (List.mem_cons_self ..)
    rw [List.zipIdx_cons, List.map_cons, Instr.fill]
    simp only
    have hlen : (pre ++ post).length = j * sz + (vs.length + 1) * sz := by rw [List.length_append, hpre, hpost, List.length_cons]
    have hm : (vs.length + 1) * sz = vs.length * sz + sz := by rw [Nat.add_mul, Nat.one_mul]
    have hc : ¬ (v.cells.size ≠ sz || decide (j * sz + v.cells.size > (pre ++ post).toArray.size)) = true := by
      simp [h1]
      rw [hpre, hpost, List.length_cons]
      omega
    rw [if_neg hc, splice (by rw [h1]; omega)]
    have e1 : (pre ++ post).take (j * sz) = pre := by rw [← hpre, List.take_left]
    have e2 : (pre ++ post).drop (j * sz + v.cells.size) = post.drop sz := by
      rw [h1, ← hpre, List.drop_append]
      simp
    rw [e1, e2, fillS sz vs (j + 1) (pre ++ v.cells.toList) (post.drop sz) (fun u hu => hv u (List.mem_cons_of_mem _ hu)) (by rw [List.length_append, hpre, Array.length_toList, h1, Nat.add_mul, Nat.one_mul]) (by rw [List.length_drop, hpost, List.length_cons, hm]; omega)]
    simp
theorem elems_ok (P : Program) [Laws P] {e : Nat} (hz : zero e ≠ []) (hsz : (kd e).sz = szOf e) : ∀ (ps : List (Nat × Operand)) (j : Nat) (s : St) (Im : Nat → Prop) (K : List (El e) → St → Option ρ), elems e ps j s K = some r → Rel C E Im s a w →
    ∃ xs s' Im', K xs s' = some r ∧ Rel C E Im' s' a w ∧ xs.length = ps.length ∧ Reps (Kd.FK (kd e) w Im') (kd e).sz xs (ps.flatMap fun p => (a.eval p.2).cells.toList) ∧ (∀ k, Im k → Im' k) ∧ s'.nx = s.nx ∧ s'.sl = s.sl ∧ s'.n = s.n ∧ (∀ p ∈ ps, (a.eval p.2).cells.size = szOf e) ∧ ps.map (fun p => (p.1, a.eval p.2)) = ((ps.map fun p => a.eval p.2).zipIdx j).map fun p => (p.2, p.1)
  | [], j, s, Im, K, h, hR => ⟨[], s, Im, h, hR, rfl, Reps.none _ _, fun _ h => h, rfl, rfl, rfl, fun p hp => (by cases hp), rfl⟩
  | (i, x) :: ps, j, s, Im, K, h, hR => by
    unfold elems at h
    split at h
    · rename_i hb
      have hij : i = j := Nat.eq_of_beq_eq_true hb
      obtain ⟨v, l, hv, h2, hrep⟩ := onC_some h
      obtain ⟨hl, h1⟩ := hrep _ _ _ _ _ (hR.eval hv)
      obtain ⟨y, s1, Im1, h3, hR1, hF, hi1, hn1, hs1, hn1', _⟩ := onEl_ok P hz h2 hR hl h1
      obtain ⟨xs, s', Im', h4, hR', hlen, hreps, hi2, hn2, hs2, hn2', hsize, hmap⟩ := elems_ok P hz hsz ps (j + 1) s1 Im1 _ h3 hR1
      have hcl : (a.eval x).cells.toList.length = (kd e).sz := (kd e).K_len (Kd.FK_now hF)
      refine ⟨y :: xs, s', Im', h4, hR', by simp [hlen], ?_, fun k hk => hi2 k (hi1 k hk), by omega, by rw [hs2, hs1], by omega, fun p hp => ?_, ?_⟩
      · rw [List.flatMap_cons]
        exact Reps.front (Kd.FK_mono hF hi2) hcl hreps rfl
      · rcases List.mem_cons.1 hp with rfl | hp
        · rw [← hsz, ← hcl, Array.length_toList]
        · exact hsize p hp
      · rw [List.map_cons, hmap, List.map_cons, List.zipIdx_cons, List.map_cons, hij]
    · cases h
/-- A row just made. -/
theorem newRow (hR : Rel C E Im s a w) {e : Nat} {xs : List (El e)} {v1 : Value} {w1 : World} (hN : Kd.N (kd e) e w1 0 (fun k => k = w.heap.size ∨ Im k) v1 xs) (hg : w.grownBy w1 none) (hat : ∃ b, v1.ownBlock = some b ∧ w.heap.size ≤ b) :
    Rel C (ext E s.nx v1) Im (s.new (.row e xs)) a w1 := by
  obtain ⟨b, hb, hle⟩ := hat
  have hbs : b = w.heap.size := by
    rcases hN.1 b hb with e | e
    · exact e
    · have := hR.h.im b e
      omega
  refine hR.new ⟨hg.os, hg.tape, hg.output⟩ (fun k hk => hg.block k hk (by simp)) hg.size v1 _ ?_ (fun k hk => ?_)
  · refine Kd.N_mono hN (fun k hk => hk.imp (fun e => ?_) id)
    rw [hb, hbs, e]
  · have : b = k := by
      have : v1.ownBlock = some k := hk
      rw [hb] at this
      injection this
    omega
theorem own_rep {v1 : Value} {nx : Nat} (h : ∃ A n c, v1 = .slice A n c) : Rep (ext E nx v1) (nx + 1) w Im (.own nx) v1 := ⟨Nat.lt_succ_self _, ext_self.symm, h⟩
theorem below0 (w w' : World) (h : Same w w') (hs : w.heap.size ≤ w'.heap.size) : Below 0 w w' := ⟨h.1, h.2.1, h.2.2, hs, fun k hk => absurd hk (Nat.not_lt_zero _)⟩
theorem okN_buildSlice {t : TypeId} {n : Nat} {ps : Array (Nat × Operand)} (ho : o.op = .buildSlice t n ps) (hw : Region.wanted o (yielded ops a.tmps) = true) (h : opK o s K = some r) (hR : Rel C E Im s a w) (hn : GoesN C r K next w) : o.wp P a w next Q := by
  simp only [opK, ho] at h
  obtain ⟨e, hte, h2⟩ := elemOf_some h
  obtain ⟨hu, hz, hsz⟩ := Laws.slice (P := P) t e hte
  split at h2
  · rename_i hb
    simp only [Bool.and_eq_true] at hb
    have hn1 : ps.toList.length = n := Nat.eq_of_beq_eq_true hb.1.1
    have hn2 : n * szOf e ≤ 16777216 := Nat.le_of_ble_eq_true hb.1.2
    obtain ⟨N', hd⟩ := Option.isSome_iff_exists.1 hb.2
    obtain ⟨xs, s', Im', h3, hR', hlen, hreps, him, hnx, hsl, hsn, hsize, hmap⟩ := elems_ok P hz hsz ps.toList 0 s Im _ h2 hR
    have hnl : xs.length = n := by omega
    have hinfo := info_size (P := P) (Laws.ok (P := P) e hz)
    have hrs := run_size (P := P) (Laws.ok (P := P) e hz) w
    obtain ⟨zv, hzr, hzs, hzc, hza, _⟩ := info_zero (P := P) (Laws.ok (P := P) e hz)
    obtain ⟨inner, hinner⟩ : ∃ inner, inner = ps.toList.flatMap fun p => (a.eval p.2).cells.toList := ⟨_, rfl⟩
    rw [← hinner] at hreps
    have hpos := zero_ne hz
    have hrun : (execOp a.eval o).run P w = .ok (.value (.slice (some ⟨w.heap.size, 0, none⟩) xs.length xs.length)) (w.alloc (.cells inner.toArray e)) := by
      have hm : (ps.map fun (p : Nat × Operand) => (p.1, a.eval p.2)).toList = ps.toList.map fun p => (p.1, a.eval p.2) := by simp
      have hgt : ¬ (n * szOf e > 2 ^ 24) := by omega
      have hfl : ∀ (post : List Value), post.length = n * szOf e → Instr.fill (fun i => some (i * szOf e, szOf e)) post.toArray (ps.toList.map fun p => (p.1, a.eval p.2)) = some inner.toArray := by
        intro post hp
        rw [hmap]
        have := fillS (szOf e) (ps.toList.map fun p => a.eval p.2) 0 [] post (fun v hv => by
          obtain ⟨p, hp, rfl⟩ := List.mem_map.1 hv
          exact hsize p hp) (by simp) (by rw [List.length_map, hn1]; exact hp)
        rw [List.nil_append] at this
        rw [this, hinner, List.flatMap_map]
        rfl
      simp only [execOp, ho, Sem.run_bind, Instr.buildSlice, underlying, run_program, hu, Result.andThen_ok, Sem.run_pure, hrs, if_neg hgt, hm, hnl]
      have hfl2 : ∀ (arr : Array Value), arr.size = n * szOf e → Instr.fill (fun i => some (i * szOf e, szOf e)) arr (ps.toList.map fun p => (p.1, a.eval p.2)) = some inner.toArray := fun arr ha => hfl arr.toList (by rw [Array.length_toList]; exact ha)
      by_cases h0 : n * szOf e = 0
      · simp only [h0, if_true, Sem.run_bind, Sem.run_pure, Result.andThen_ok]
        rw [hfl2 _ (by simp [h0])]
        simp only [Sem.run_bind, Go.newRow, run_newObj, Result.andThen_ok, Sem.run_pure]
        rfl
      · simp only [h0, if_false, Sem.run_bind, hzr, Sem.run_pure, Result.andThen_ok]
        rw [hfl2 _ (by simp)]
        simp only [Sem.run_bind, Go.newRow, run_newObj, Result.andThen_ok, Sem.run_pure]
        rfl
    have := Kd.N_lit_step (P := P) (Q := Q) (Kc := next) (kd e) (w0 := w) (W := w) 0 e hw hd (xs := xs) (inner := inner) (ok := fun k => k = w.heap.size ∨ Im' k) (okp := Im') hrun hreps (fun k hk => .inr hk) (.inl rfl) (below0 w w (Same.refl _) (Nat.le_refl _)) (Nat.zero_le _) ?_ (fun v1 w1 hN _ hg hat => ?_)
    · rwa [if_pos hw] at this
    · have := Nat.le_mul_of_pos_right n hpos
      omega
    · have hnew := newRow hR' hN hg hat
      exact hn _ _ _ _ _ h3 (hnew.put (v := .own s'.nx) (own_rep (by obtain ⟨A, c, e⟩ := Kd.N_slice hN; exact ⟨A, _, c, e⟩))) (cls_grown hg)
  · cases h2
theorem ok_buildSlice {t : TypeId} {n : Nat} {ps : Array (Nat × Operand)} (ho : o.op = .buildSlice t n ps) (hw : Region.wanted o (yielded ops a.tmps) = true) (h : opK o s K = some r) (hR : Rel C E Im s a w) (hn : Goes C r K next) : o.wp P a w next Q := okN_buildSlice ho hw h hR hn.toN
theorem okN_makeSlice {t : TypeId} {x y : Operand} (ho : o.op = .makeSlice t x y) (hw : Region.wanted o (yielded ops a.tmps) = true) (h : opK o s K = some r) (hR : Rel C E Im s a w) (hn : GoesN C r K next w) : o.wp P a w next Q := by
  simp only [opK, ho] at h
  obtain ⟨k, n, hx, h2⟩ := onI_some h
  obtain ⟨k', m, hy, h3⟩ := onI_some h2
  split at h3
  · rename_i N' hd
    obtain ⟨e, hte, h4⟩ := elemOf_some h3
    obtain ⟨hu, hz, hsz⟩ := Laws.slice (P := P) t e hte
    obtain ⟨rfl, h5⟩ := ite_some h4
    obtain ⟨h0, h6⟩ := ite_some h5
    obtain ⟨hlm, h7⟩ := ite_some h6
    have ex : a.eval x = .int .i64 n := hR.eval hx
    have ey : a.eval y = .int .i64 n := hR.eval hy
    obtain ⟨zv, b, hi1, hi2, hb0, hlb, _, _⟩ := (Laws.ok (P := P) e hz).info
    have hzz : (P.info? e).map (·.zero) = some (some zv) := by
      cases hq : P.info? e with
      | none => rw [hq] at hi1; simp at hi1
      | some i => rw [hq] at hi1; simp only [Option.map_some, Option.some.injEq, Prod.mk.injEq] at hi1; simp [hi1.1]
    have hl : n.toNat * b ≤ 281474976710656 := by
      have h8 : n.toNat ≤ lim e := by omega
      have := Nat.mul_le_mul_right b h8
      omega
    have := Kd.N_make_step (P := P) (Q := Q) (Kc := next) (kd e) (w0 := w) (W := w) 0 e hw hd t x y ho n ex ey hu zv b (by rw [hsz]; exact hi1) (by rw [hsz]; exact hi2) (by rw [hsz]; exact zero_ne hz) hb0 (z e) (ok := fun k => k = w.heap.size ∨ Im k) (okp := fun _ => False) (Laws.zero (P := P) t e w hte zv hzz) (fun _ hk => hk.elim) (.inl rfl) h0 hl (below0 w w (Same.refl _) (Nat.le_refl _)) (Nat.zero_le _) (fun v1 w1 hN _ hg hat => ?_)
    · rwa [if_pos hw] at this
    · have hnew := newRow hR hN hg hat
      exact hn _ _ _ _ _ h7 (hnew.put (v := .own s.nx) (own_rep (by obtain ⟨A, c, e⟩ := Kd.N_slice hN; exact ⟨A, _, c, e⟩))) (cls_grown hg)
  · cases h3
theorem ok_makeSlice {t : TypeId} {x y : Operand} (ho : o.op = .makeSlice t x y) (hw : Region.wanted o (yielded ops a.tmps) = true) (h : opK o s K = some r) (hR : Rel C E Im s a w) (hn : Goes C r K next) : o.wp P a w next Q := okN_makeSlice ho hw h hR hn.toN
theorem rowN (hR : Rel C E Im s a w) {i t : Nat} {xs : List (El t)} (hl : s.look i = .row t xs) : Kd.N (kd t) t w 0 (fun k => some k = (E i).ownBlock ∨ Im k) (E i) xs ∧ i < s.nx :=
  ⟨(hR.h.ob i _ (look_some hl (by simp))).2, (hR.h.ob i _ (look_some hl (by simp))).1⟩
theorem mb_box {t t' : Nat} {cs cs' : List AV} {v : Value} : (Ob.box t cs).mb v = (Ob.box t' cs').mb v := by
  cases v <;> try rfl
  rename_i a
  cases a <;> rfl
theorem ok_store {t : TypeId} {x y : Operand} (ho : o.op = .store t x y) (h : opK o s K = some r) (hR : Rel C E Im s a w) (hn : Goes C r K next) : o.wp P a w next Q := by
  simp only [opK, ho] at h
  obtain ⟨v, hv, h2⟩ := onV_some h
  obtain ⟨v', seg, hv', h3, hrep⟩ := onC_some h2
  obtain ⟨hl, h1⟩ := hrep _ _ _ _ _ (hR.eval hv')
  have hr := hR.eval hv
  have hlen := RepL.length hl
  split at h3
  · cases h3
  · cases h3
  · cases h3
  rename_i c0 l0 hz0 hb hdst
  have hz : zero t ≠ [] := by rw [hz0]; simp
  have hsz : seg.length = szOf t := Nat.eq_of_beq_eq_true hb
  have hinfo := info_size (P := P) (Laws.ok (P := P) t hz)
  have hput : ∀ u, a.put o.dst u = a := fun u => by rw [hdst]; rfl
  have fin : ∀ (g off : Nat) (e : TypeId) (cur : Array Value), a.eval x = .pointer (some ⟨g, off, none⟩) → w.heap[g]? = some (.cells cur e (0, 0)) → off + seg.length ≤ cur.size → next a (w.setCells g off (a.eval y).cells.toList) → o.wp P a w next Q := by
    intro g off e cur ex hh hfit hnx
    have hrun := run_store_run (P := P) (w := w) t (a.eval y) (a.eval y).cells.toList (o := off) hh rfl (by rw [← hlen, hsz]; exact hinfo) (by rw [← hlen]; exact hfit) h1
    refine wp_skip' ?_ (by rw [hput]; exact hnx)
    simp only [execOp, ho, ex, Sem.run_bind, hrun, Result.andThen_ok]
    rfl
  have hsame : ∀ g off, Same w (w.setCells g off (a.eval y).cells.toList) ∧ w.heap.size ≤ (w.setCells g off (a.eval y).cells.toList).heap.size := fun g off => by
    obtain ⟨e1, e2, e3, e4⟩ := setCells_same g (a.eval y).cells.toList off w
    exact ⟨⟨e1, e2, e3⟩, Nat.le_of_eq e4.symm⟩
  split at h3
  · rename_i i off
    split at h3
    · rename_i tb cs hlk
      split at h3
      · rename_i hfit
        have hfit' : off + seg.length ≤ cs.length := Nat.le_of_ble_eq_true hfit
        obtain ⟨hi, g, hE, ex⟩ := hr
        have hg0 := look_some hlk (by simp)
        have hob := (hR.h.ob i _ hg0).2
        obtain ⟨g', vs, hE', hg, hvs, hv1⟩ := hob
        rw [hE] at hE'
        injection hE' with hE'
        injection hE' with hE'
        injection hE' with hE'
        subst hE'
        have hvl := RepL.length hvs
        obtain ⟨cur', hc1, hc2, hc3⟩ := setCells_row (a.eval y).cells.toList off w vs.toArray hg (by rw [← hlen]; simp; omega)
        refine fin g off tb vs.toArray ex hg (by simp; omega) ?_
        refine hn _ _ _ _ _ h3 (hR.turn hg0 (hsame g off).1 (fun _ hk => hk) (fun k hk => .inl hk) (fun k hk hne => setCells_far _ _ k (fun e => hne (by rw [hE, e]; rfl))) (hsame g off).2 ?_ (fun k hk => ⟨mb_box.trans hk, hR.h.imd i _ k hg0 (mb_box.trans hk)⟩))
        refine ⟨g, vs.take off ++ (a.eval y).cells.toList ++ vs.drop (off + (a.eval y).cells.toList.length), hE, ?_, ?_, upd_one hv1 h1⟩
        · rw [hc1]
          have : cur' = (vs.take off ++ (a.eval y).cells.toList ++ vs.drop (off + (a.eval y).cells.toList.length)).toArray := by
            apply Array.ext'
            rw [hc3]
          rw [this]
        · have him : ∀ k, Im k → k < w.heap.size → (w.setCells g off (a.eval y).cells.toList).heap[k]? = w.heap[k]? := fun k hk _ => setCells_far _ _ k (fun e => hR.h.imd i _ k hg0 (by rw [hE, e]; rfl) hk)
          exact RepL.step him (fun _ h => h) (fun _ _ => rfl) (Nat.le_refl _) _ _ (upd_rep hvs hl)
      · cases h3
    · cases h3
  · rename_i i t' j off
    split at h3
    · rename_i t'' xs hlk
      obtain ⟨rfl, h4⟩ := castR_some h3
      split at h4
      · rename_i hfit
        have hfit' : off + seg.length ≤ szOf t'' := Nat.le_of_ble_eq_true hfit
        obtain ⟨hi, g, n, c, hE, ⟨hj, hksz, hkz⟩, ex⟩ := hr
        have hN := (rowN hR hlk).1
        have hgb : (E i).ownBlock = some g := by rw [hE]; simp [Value.ownBlock]
        rw [hgb, hE] at hN
        obtain ⟨c', hcl, hK, hcc, _⟩ := Kd.N_elem hN (z t'') (j : Int) (by omega) (by exact_mod_cast hj)
        rw [Int.toNat_natCast] at hK hcc
        have hK2 : Kd.FK (kd t'') w Im (xs.getD j (z t'')) c' := Kd.FK_mono hK (fun k hk => by
          rcases hk.1 with e | e
          · injection e with e; exact absurd e hk.2
          · exact e)
        have hc1 := (kd t'').K_one (Kd.FK_now hK2)
        have henc := Laws.enc (P := P) t'' _ c' w Im E s.nx hkz hK2
        obtain ⟨x', s', Im', h5, hR', hF, him, hnx, hsl, hsn, hlook⟩ := onEl_ok P hkz h4 hR (upd_rep (off := off) henc hl) (upd_one hc1 h1)
        split at h5
        · rename_i t3 ys hlk'
          have hlk2 : s'.look i = .row t'' xs := by
            rcases hlook i with e | ⟨_, _, _, e⟩
            · rw [e]; exact hlk
            · rw [e] at hlk'; cases hlk'
          have hg0 := look_some hlk2 (by simp)
          have hN' := (rowN hR' hlk2).1
          rw [hgb, hE] at hN'
          have hng : ¬ Im' g := hR'.h.imd i _ g hg0 hgb
          obtain ⟨hN2, hgr⟩ := Kd.N_seg hN' (j : Int) (by omega) (by exact_mod_cast hj) (c := c') (seg := (a.eval y).cells.toList) (j := off) hcl (by rw [Int.toNat_natCast]; exact hcc) (by rw [← hlen, hksz]; exact hfit') (okp := Im') hF (fun k hk => ⟨.inr hk, fun e => hng (e ▸ hk)⟩)
          rw [Int.toNat_natCast] at hN2 hgr
          obtain ⟨cur, hcur⟩ := Kd.N_typed hN' g (by simp [Value.ownBlock])
          have hfit2 : j * (kd t'').sz + off + seg.length ≤ cur.size := by
            have hp : 0 < seg.length := by rw [hsz]; exact zero_ne hz
            have hq : off + seg.length - 1 < c'.length := by rw [hcl, hksz]; omega
            have h6 := hcc _ _ (List.getElem?_eq_getElem hq)
            rw [blk_cell hcur] at h6
            have := (Array.getElem?_eq_some_iff.1 h6).1
            omega
          refine fin g (j * (kd t'').sz + off) t'' cur ex hcur hfit2 ?_
          have hmbE : (Ob.row t'' xs).mb (E i) = some g := hgb
          refine hn _ _ _ _ _ h5 (hR'.turn hg0 (hsame g _).1 (fun _ hk => hk) (fun k hk => .inl hk) (fun k hk hne => setCells_far _ _ k (fun e => hne (by rw [hmbE, e]))) (hsame g _).2 ?_ (fun k hk => ⟨hk, hR'.h.imd i _ k hg0 hk⟩))
          show Kd.N (kd t'') t'' _ 0 (fun k => some k = (E i).ownBlock ∨ Im' k) (E i) (xs.set j x')
          rw [hgb, hE]
          exact hN2
        · cases h5
      · cases h4
    · cases h3
  · rename_i i t1 e j off
    split at h3
    · rename_i t2 e2 xs hlk
      split at h3
      · rename_i hb
        obtain ⟨rfl, h4⟩ := castR_some h3
        split at h4
        · rename_i hfit
          have hfit' : off + seg.length ≤ szOf e2 := Nat.le_of_ble_eq_true hfit
          have e12 : t2 = t1 := Nat.eq_of_beq_eq_true hb
          subst e12
          obtain ⟨hi, g, n, hE, ⟨htd, hj⟩, ex⟩ := hr
          obtain ⟨_, hze, hksz, hel, _, _⟩ := Laws.arr (P := P) t2 n e2 htd
          have hg00 := look_some hlk (by simp)
          obtain ⟨⟨g', vs, hE', hg, hvs, hv1⟩, htd2⟩ := (hR.h.ob i _ hg00).2
          rw [hE] at hE'
          injection hE' with hE'
          injection hE' with hE'
          injection hE' with hE'
          subst hE'
          have hxn : j < xs.length := by
            rw [htd] at htd2
            injection htd2 with hn' _
            omega
          obtain ⟨hch, hbound, hset⟩ := flat_at hel hxn (hvs E s.nx)
          have hch1 : ∀ u ∈ (vs.drop (j * szOf e2)).take (szOf e2), u.oneCell' = true := fun u hu => hv1 u (List.mem_of_mem_drop (List.mem_of_mem_take hu))
          obtain ⟨x', s', Im', h5, hR', hF, him, hnx, hsl, hsn, hlook⟩ := onEl_ok P hze h4 hR (upd_rep (off := off) hch hl) (upd_one hch1 h1)
          split at h5
          · rename_i t3 e3 ys hlk'
            have hlk2 : s'.look i = .arr t2 e2 xs := by
              rcases hlook i with e | ⟨_, _, _, e⟩
              · rw [e]; exact hlk
              · rw [e] at hlk'; cases hlk'
            have hg0 := look_some hlk2 (by simp)
            obtain ⟨⟨g2, vs2, hE2, hg2, hvs2, hv2⟩, _⟩ := (hR'.h.ob i _ hg0).2
            rw [hE] at hE2
            injection hE2 with hE2
            injection hE2 with hE2
            injection hE2 with hE2
            subst hE2
            have hvv : vs2 = vs := by
              rw [hg] at hg2
              injection hg2 with hg2
              injection hg2 with hg2
              have := congrArg Array.toList hg2
              simpa using this.symm
            subst hvv
            have hmb : (Ob.arr t2 e2 xs).mb (E i) = some g := by rw [hE]; rfl
            have hng : ¬ Im' g := hR'.h.imd i _ g hg0 hmb
            have hsegl : (a.eval y).cells.toList.length = seg.length := hlen.symm
            obtain ⟨cur', hc1, hc2, hc3⟩ := setCells_row (a.eval y).cells.toList (j * szOf e2 + off) w vs2.toArray hg (by rw [hsegl]; simp; omega)
            refine fin g (j * szOf e2 + off) t2 vs2.toArray ex hg (by simp; omega) ?_
            refine hn _ _ _ _ _ h5 (hR'.turn hg0 (hsame g _).1 (fun _ hk => hk) (fun k hk => .inl hk) (fun k hk hne => setCells_far _ _ k (fun e => hne (by rw [hmb, e]))) (hsame g _).2 ?_ (fun k hk => ?_))
            · have hnew := fun (E : Nat → Value) (nx : Nat) => (flat_at hel hxn (hvs2 E nx)).2.2 x' _ (Laws.enc (P := P) e2 x' _ w Im' E nx hze hF)
              have hcur : vs2.take (j * szOf e2) ++ (((vs2.drop (j * szOf e2)).take (szOf e2)).take off ++ (a.eval y).cells.toList ++ ((vs2.drop (j * szOf e2)).take (szOf e2)).drop (off + (a.eval y).cells.toList.length) ++ vs2.drop (j * szOf e2 + szOf e2)) = vs2.take (j * szOf e2 + off) ++ (a.eval y).cells.toList ++ vs2.drop (j * szOf e2 + off + (a.eval y).cells.toList.length) := by
                have e1 : vs2.take (j * szOf e2 + off) = vs2.take (j * szOf e2) ++ ((vs2.drop (j * szOf e2)).take (szOf e2)).take off := by
                  rw [List.take_take, Nat.min_eq_left (by omega), List.take_add]
                have e2' : vs2.drop (j * szOf e2 + off + (a.eval y).cells.toList.length) = ((vs2.drop (j * szOf e2)).take (szOf e2)).drop (off + (a.eval y).cells.toList.length) ++ vs2.drop (j * szOf e2 + szOf e2) := by
                  rw [List.drop_take, List.drop_drop]
                  have : vs2.drop (j * szOf e2 + szOf e2) = (vs2.drop (j * szOf e2 + (off + (a.eval y).cells.toList.length))).drop (szOf e2 - (off + (a.eval y).cells.toList.length)) := by
                    rw [List.drop_drop]
                    congr 1
                    omega
                  rw [this, List.take_append_drop, Nat.add_assoc]
                rw [e1, e2']
                simp only [List.append_assoc]
              simp only [hcur] at hnew
              refine ⟨⟨g, vs2.take (j * szOf e2 + off) ++ (a.eval y).cells.toList ++ vs2.drop (j * szOf e2 + off + (a.eval y).cells.toList.length), hE, ?_, ?_, upd_one hv2 h1⟩, by rw [List.length_set]; exact htd2⟩
              · rw [hc1]
                have : cur' = (vs2.take (j * szOf e2 + off) ++ (a.eval y).cells.toList ++ vs2.drop (j * szOf e2 + off + (a.eval y).cells.toList.length)).toArray := by
                  apply Array.ext'
                  rw [hc3]
                rw [this]
              · exact fun E nx => RepL.step (fun k hk _ => setCells_far _ _ k (fun e => hR'.h.imd i _ k hg0 (by rw [hmb, e]) hk)) (fun _ h => h) (fun _ _ => rfl) (Nat.le_refl _) _ _ (hnew E nx)
            · have hk' : (Ob.arr t2 e2 xs).mb (E i) = some k := by
                rw [hE] at hk ⊢
                exact hk
              exact ⟨hk', hR'.h.imd i _ k hg0 hk'⟩
          · cases h5
        · cases h4
      · cases h3
    · cases h3
  · cases h3
/-- What is appended, as rows of cells. -/
theorem reads_ro {e : Nat} {ys : List (El e)} {u : Value} {nx : Nat} (h : Rep E nx w Im (.ro e ys) u) : ∃ A c news, u = .slice A ys.length c ∧ news.length = ys.length ∧ ReadsRow (fun x cs => cs = x ∧ cs.length = (kd e).sz ∧ ∀ u ∈ cs, u.oneCell' = true) (kd e).sz w A ys.length news ∧ ∀ (j : Nat) (x : El e) (c : List Value), ys[j]? = some x → news[j]? = some c → Kd.FK (kd e) w Im x c := by
  obtain ⟨A, c, rfl, _, hF⟩ := h
  obtain ⟨news, h1, h2, h3⟩ := Kd.reads_raw (Kd.F_rows hF) (fun y c hk => ⟨(kd e).K_len (Kd.FK_now hk), (kd e).K_one (Kd.FK_now hk)⟩)
  exact ⟨A, c, news, rfl, h1, h2, h3⟩
theorem reads_row {e : Nat} {ys : List (El e)} {u : Value} (h : Kd.N (kd e) e w 0 (fun k => some k = u.ownBlock ∨ Im k) u ys) : ∃ A c news, u = .slice A ys.length c ∧ news.length = ys.length ∧ ReadsRow (fun x cs => cs = x ∧ cs.length = (kd e).sz ∧ ∀ u ∈ cs, u.oneCell' = true) (kd e).sz w A ys.length news ∧ ∀ (j : Nat) (x : El e) (c : List Value), ys[j]? = some x → news[j]? = some c → Kd.FK (kd e) w Im x c := by
  obtain ⟨h0, rows, hl, hRr, hf⟩ := h
  obtain ⟨A, c, hu, hc, hC⟩ := Kd.R_reads hRr
  refine ⟨A, c, rows, by rw [hu, hl], hl, ?_, fun j x c hx hc => Kd.FK_mono (hf j x c hx hc) (fun k hk => hk.1.elim (fun e => absurd e hk.2) id)⟩
  rw [← hl]
  exact hC
/-- A row behind an append. -/
theorem appended (hR : Rel C E Im s a w) {i e : Nat} {xs ys : List (El e)} (hlk : s.look i = .row e xs) {v1 : Value} {w1 : World} {rows news : List (List Value)} (hl : rows.length = xs.length) (hf : ∀ (j : Nat) (x : El e) (c : List Value), xs[j]? = some x → rows[j]? = some c → Kd.FK (kd e) w Im x c) (hl2 : news.length = ys.length) (hf2 : ∀ (j : Nat) (x : El e) (c : List Value), ys[j]? = some x → news[j]? = some c → Kd.FK (kd e) w Im x c)
    (hr : (Kd.raw (kd e).sz).R e w1 0 (fun _ => True) v1 (rows ++ news)) (hg : w.grownBy w1 (E i).ownBlock) (hat : v1.ownBlock = (E i).ownBlock ∨ ∃ b, v1.ownBlock = some b ∧ w.heap.size ≤ b) :
    Rel C (ext E s.nx v1) Im ((s.obj i .dead).new (.row e (xs ++ ys))) a w1 := by
  have hg0 := look_some hlk (by simp)
  have hne : ∀ k, Im k → some k ≠ (E i).ownBlock := fun k hk e => hR.h.imd i _ k hg0 e.symm hk
  have hne1 : ∀ k, Im k → some k ≠ v1.ownBlock := fun k hk e => by
    rcases hat with hat | ⟨b, hb, hle⟩
    · exact hne k hk (e.trans hat)
    · rw [hb] at e
      injection e with e
      have := hR.h.im k hk
      omega
  have step : ∀ {x : El e} {c : List Value}, Kd.FK (kd e) w Im x c → Kd.FK (kd e) w1 (fun k => (some k = v1.ownBlock ∨ Im k) ∧ some k ≠ v1.ownBlock) x c := fun hq => Kd.FK_mono (Kd.FK_step hq (fun k hk hlt => hg.block k hlt (hne k hk))) (fun k hk => ⟨.inr hk, hne1 k hk⟩)
  refine hR.replace hg0 ⟨hg.os, hg.tape, hg.output⟩ (fun k hk h => hg.block k hk (fun e => h e.symm)) hg.size v1 _ ?_ (fun k hk => ?_)
  · refine ⟨fun k hk => .inl hk.symm, rows ++ news, by rw [List.length_append, List.length_append, hl, hl2], Kd.raw_tight hr, fun j x c hx hc => ?_⟩
    rcases Nat.lt_or_ge j xs.length with hlt | hge
    · rw [List.getElem?_append_left hlt] at hx
      rw [List.getElem?_append_left (by omega)] at hc
      exact step (hf j x c hx hc)
    · rw [List.getElem?_append_right hge] at hx
      rw [List.getElem?_append_right (by omega), hl] at hc
      exact step (hf2 _ x c hx hc)
  · have hk' : v1.ownBlock = some k := hk
    rcases hat with hat | ⟨b, hb, hle⟩
    · exact .inl (show (E i).ownBlock = some k from hat ▸ hk')
    · rw [hb] at hk'
      injection hk' with hk'
      exact .inr (by omega)
theorem ok_append {c : Call} (ho : o.op = .call c) (hc : c.callee = .builtin .append) (hw : Region.wanted o (yielded ops a.tmps) = true) (h : opK o s K = some r) (hR : Rel C E Im s a w) (hn : Goes C r K next) : o.wp P a w next Q := by
  simp only [opK, ho, hc, bltK] at h
  split at h
  · rename_i x y t t' hx hts
    have hargs : c.args = #[x, y] := by rw [← Array.toList_inj]; exact hx
    have htys : c.argTypes = #[t, t'] := by rw [← Array.toList_inj]; exact hts
    split at h
    · rename_i hb
      have htt : t = t' := Nat.eq_of_beq_eq_true hb
      subst htt
      have hop : o.op = .call { callee := .builtin .append, args := #[x, y], argTypes := #[t, t] } := by
        rw [ho]
        obtain ⟨c1, c2, c3⟩ := c
        simp only at hc hargs htys
        rw [hc, hargs, htys]
      obtain ⟨e, hte, h2⟩ := elemOf_some h
      obtain ⟨hu, hz, hsz⟩ := Laws.slice (P := P) t e hte
      obtain ⟨v, hv, h3⟩ := onV_some h2
      obtain ⟨u, hu', h4⟩ := onV_some h3
      have hrv := hR.eval hv
      have hru := hR.eval hu'
      obtain ⟨zv, b, hi1, hi2, hb0, hlb, _, _⟩ := (Laws.ok (P := P) e hz).info
      unfold appendK at h4
      split at h4
      · rename_i i
        split at h4
        · rename_i t1 xs hlk
          obtain ⟨rfl, h5⟩ := castR_some h4
          obtain ⟨h0, rows, hl, hRr, hf⟩ := (rowN hR hlk).1
          have hf' : ∀ (j : Nat) (x : El t1) (c : List Value), xs[j]? = some x → rows[j]? = some c → Kd.FK (kd t1) w Im x c := fun j x c hx hc => Kd.FK_mono (hf j x c hx hc) (fun k hk => hk.1.elim (fun e => absurd e hk.2) id)
          have go : ∀ (ys : List (El t1)) (A : Option Addr) (c : Nat) (news : List (List Value)), a.eval y = .slice A ys.length c → news.length = ys.length → ReadsRow (fun x cs => cs = x ∧ cs.length = (kd t1).sz ∧ ∀ u ∈ cs, u.oneCell' = true) (kd t1).sz w A ys.length news → (∀ (j : Nat) (x : El t1) (c : List Value), ys[j]? = some x → news[j]? = some c → Kd.FK (kd t1) w Im x c) → appK t1 i xs o s K ys = some r → o.wp P a w next Q := by
            intro ys A c news ey hl2 hrd hf2 h6
            obtain ⟨hlm, h7⟩ := ite_some h6
            have hlb' : (rows.length + ys.length) * b ≤ 140737488355328 := by
              rw [hl]
              exact Nat.le_trans (Nat.mul_le_mul_right b hlm) hlb
            have := Kd.R_append_rows_step (P := P) (Q := Q) (Kc := next) (Kd.raw (kd t1).sz) (w0 := w) (W := w) 0 hw x y t t1 zv b hop hu (by rw [show (Kd.raw (kd t1).sz).sz = szOf t1 from hsz]; exact hi1) (by rw [show (Kd.raw (kd t1).sz).sz = szOf t1 from hsz]; exact hi2) (by rw [show (Kd.raw (kd t1).sz).sz = szOf t1 from hsz]; exact zero_ne hz) hb0 (E i) rows news A ys.length c (fun _ => True) (fun _ => False) hrv.2.1 ey (Kd.raw_any hRr) hrd (fun _ _ hk => hk) (fun _ hk => hk.elim) (fun _ _ => trivial) (below0 w w (Same.refl _) (Nat.le_refl _)) (Nat.zero_le _) hlb' (fun v1 w1 hr _ hg hat => ?_)
            · rwa [if_pos hw] at this
            · have hnew := appended hR hlk hl hf' hl2 hf2 hr hg hat
              exact hn _ _ _ _ _ h7 (hnew.put (v := .own s.nx) (own_rep (by obtain ⟨A, c, e⟩ := Kd.R_slice hr; exact ⟨A, _, c, e⟩)))
          split at h5
          · rename_i t2 ys
            obtain ⟨rfl, h6⟩ := castR_some h5
            obtain ⟨A, c, news, ey, hl2, hrd, hf2⟩ := reads_ro hru
            exact go ys A c news ey hl2 hrd hf2 h6
          · rename_i j
            split at h5
            · cases h5
            · split at h5
              · rename_i t2 ys hlk2
                obtain ⟨rfl, h6⟩ := castR_some h5
                obtain ⟨A, c, news, ey, hl2, hrd, hf2⟩ := reads_row (rowN hR hlk2).1
                exact go ys A c news (by rw [hru.2.1]; exact ey) hl2 hrd hf2 h6
              · rename_i t2 ys hlk2
                obtain ⟨rfl, h6⟩ := castR_some h5
                have hob := (hR.h.ob j _ (look_some hlk2 (by simp))).2
                obtain ⟨A, c, news, ey, hl2, hrd, hf2⟩ := reads_ro (show Rep E s.nx w Im (.ro t2 ys) (E j) from hob)
                exact go ys A c news (by rw [hru.2.1]; exact ey) hl2 hrd hf2 h6
              · cases h5
          · cases h5
        · cases h4
      · cases h4
    · cases h
  · cases h
theorem own_same (A : Option Addr) (n m c : Nat) : (Value.slice A m c).ownBlock = (Value.slice A n c).ownBlock := by
  cases A <;> rfl
/-- The front of a row. -/
theorem N_take {α : Type} {d : Kd α} {e m : Nat} {ok : Nat → Prop} {A : Option Addr} {c : Nat} {xs : List α} (h : Kd.N d e w 0 ok (.slice A xs.length c) xs) (hm : m ≤ xs.length) : Kd.N d e w 0 ok (.slice A m c) (xs.take m) := by
  obtain ⟨h0, rows, hl, ⟨h1, inner, ho, hr⟩, hf⟩ := h
  rw [hl] at ho
  have ho2 := own_take ho hm
  have eo := own_same A xs.length m c
  refine ⟨fun k hk => h0 k (eo ▸ hk), rows.take m, by rw [List.length_take, List.length_take, hl], ⟨fun k hk => hk.symm, inner.take (m * d.sz), ?_, ?_⟩, fun j x c' hx hc => ?_⟩
  · rw [List.length_take, hl, Nat.min_eq_left hm]
    exact ho2
  · refine ⟨?_, fun j p hj => ?_⟩
    · have e2 : inner.length = xs.length * d.sz := by rw [← hl]; exact hr.1
      show (inner.take (m * d.sz)).length = (rows.take m).length * d.sz
      rw [List.length_take, List.length_take, hl, e2, Nat.min_eq_left hm]
      exact Nat.min_eq_left (Nat.mul_le_mul_right _ hm)
    · rw [List.getElem?_take] at hj
      split at hj
      · rename_i hjm
        have := hr.2 j p hj
        have e1 : ((inner.take (m * d.sz)).drop (j * d.sz)).take d.sz = (inner.drop (j * d.sz)).take d.sz := by
          rw [List.drop_take, List.take_take]
          congr 1
          have : (j + 1) * d.sz ≤ m * d.sz := Nat.mul_le_mul_right _ hjm
          rw [Nat.succ_mul] at this
          exact Nat.min_eq_left (by omega)
        show (Kd.raw d.sz).M w 0 _ p (((inner.take (m * d.sz)).drop (j * d.sz)).take d.sz)
        rw [e1]
        exact Kd.M_mono _ (fun k hk => by rw [eo]; exact hk) this
      · cases hj
  · rw [List.getElem?_take] at hx hc
    split at hx
    · rename_i hjm
      rw [if_pos hjm] at hc
      exact Kd.FK_mono (hf j x c' hx hc) (fun k hk => by rw [eo]; exact hk)
    · cases hx
theorem ok_slice {t : TypeId} {x : Operand} {lo hi mx : Option Operand} (ho : o.op = .slice t x lo hi mx) (h : opK o s K = some r) (hR : Rel C E Im s a w) (hn : Goes C r K next) : o.wp P a w next Q := by
  simp only [opK, ho] at h
  split at h
  · rename_i hop
    obtain ⟨e, hte, h2⟩ := elemOf_some h
    obtain ⟨v, hv, h3⟩ := onV_some h2
    obtain ⟨k, n, hi, h4⟩ := onI_some h3
    have hr := hR.eval hv
    have eh : a.eval hop = .int k n := hR.eval hi
    obtain ⟨hu, hz, hsz⟩ := Laws.slice (P := P) t e hte
    split at h4
    · rename_i i
      split at h4
      · rename_i t1 xs hlk
        obtain ⟨rfl, h5⟩ := castR_some h4
        obtain ⟨h0, h6⟩ := ite_some h5
        obtain ⟨h1, h7⟩ := ite_some h6
        have hN := (rowN hR hlk).1
        obtain ⟨A, c, hE⟩ := Kd.N_slice hN
        obtain ⟨A', c', hE2, hlc, _⟩ := Kd.N_reads hN
        have hcc : c' = c := by
          rw [hE] at hE2
          injection hE2 with _ _ hc
          exact hc.symm
        subst hcc
        rw [hE] at hN
        have h1 : n ≤ (xs.length : Int) := h1
        have hm : n.toNat ≤ xs.length := by omega
        have hN2 := N_take hN hm
        have ex : a.eval x = .slice A xs.length c' := by rw [← hE]; exact hr.2.1
        have eo := own_same A xs.length n.toNat c'
        have hg0 := look_some hlk (by simp)
        have hEo : (E i).ownBlock = (Value.slice A n.toNat c').ownBlock := by rw [hE, eo]
        have hnew := hR.replace (w' := w) hg0 (Same.refl _) (fun _ _ _ => rfl) (Nat.le_refl _) (.slice A n.toNat c') (.row t1 (xs.take n.toNat)) (Kd.N_mono hN2 (fun k hk => by rw [eo]; exact hk)) (fun k hk => .inl (by
          show (E i).ownBlock = some k
          rw [hEo]
          exact hk))
        refine wp_val (v := .slice A n.toNat c') ?_ (hn _ _ _ _ _ h7 (hnew.put (v := .own s.nx) ⟨Nat.lt_succ_self _, by rw [ext_self], _, _, _, rfl⟩))
        have hs := run_size (Laws.ok (P := P) t1 hz)
        have hb : n ≤ (c' : Int) := by omega
        simp [execOp, ho, Instr.sliceAt, Instr.slice, Instr.sliceBounds, Instr.sliceBound, asIntOf, underlying, hu, ex, eh, hs, h0, hb]
        intro _
        cases A <;> rfl
      · cases h4
    · cases h4
  · cases h
theorem opK_ok (hw : Region.wanted o (yielded ops a.tmps) = true) (h : opK o s K = some r) (hR : Rel C E Im s a w) (hn : Goes C r K next) : o.wp P a w next Q := by
  cases ho : o.op with
  | move x => exact ok_move (.inl ho) h hR hn
  | assign x => exact ok_move (.inr ho) h hR hn
  | pick c x y => exact ok_pick ho h hR hn
  | binOp op t x y t' => exact ok_binOp ho h hR hn
  | unOp op t x => exact ok_unOp ho h hR hn
  | convert t' t x => exact ok_convert ho h hR hn
  | extract x i => exact ok_extract ho h hR hn
  | nilCheck x => exact ok_nilCheck ho h hR hn
  | indexAddr t x i => exact ok_indexAddr ho h hR hn
  | fieldAddr t x i => exact ok_fieldAddr ho h hR hn
  | field t x i => exact ok_field ho h hR hn
  | load t x => exact ok_load ho h hR hn
  | store t x y => exact ok_store ho h hR hn
  | alloc t => exact ok_alloc ho h hR hn
  | box t x => exact ok_box ho h hR hn
  | build t ps => exact ok_build ho h hR hn
  | buildSlice t n ps => exact ok_buildSlice ho hw h hR hn
  | makeSlice t n c => exact ok_makeSlice ho hw h hR hn
  | makeFunc f first caps => exact ok_makeFunc ho h hR hn
  | makeInterface t x => exact ok_makeInterface ho h hR hn
  | slice t x lo hi mx => exact ok_slice ho h hR hn
  | typeAssert x xt t ok => exact ok_typeAssert ho h hR hn
  | call c =>
    cases hc : c.callee with
    | builtin b =>
      cases b
      case len => exact ok_len ho hc h hR hn
      case append => exact ok_append ho hc hw h hR hn
      case max => exact (y_max ho (.inl hc) h hR).ok hR hn
      case min => exact (y_max ho (.inr hc) h hR).ok hR hn
      all_goals (simp only [opK, ho, hc, bltK] at h; cases h)
    | _ => simp only [opK, ho, hc] at h; cases h
  | _ => simp only [opK, ho] at h; cases h
end
end Go.Proofs.YtiikmhomlhgobaaM
