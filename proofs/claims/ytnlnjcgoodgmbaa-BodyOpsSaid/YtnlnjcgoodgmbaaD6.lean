/- THE DEN MACHINE, sixth part: elements' places, loads, lengths. -/
import Derived.Test.YtnlnjcgoodgmbaaD5
set_option linter.unusedVariables false
set_option linter.unusedSectionVars false
namespace Go.Proofs.YtnlnjcgoodgmbaaM
open Go.RowKit Go.Proofs.YtnlnjcgoodgmbaaW.PrintWords Go.Proofs.YtnlnjcgoodgmbaaW.PrintMore
open Tys Tab Kds
variable [Tys] [Tab] [Kds]
section
variable {P : Program} [Laws P] {C : Ctx} {E : Nat → Value} {Im : Nat → Prop} {s : St} {a : Act} {w w' : World} {next : Act → World → Prop} {Q : Exit → Act → World → Prop} {o : Oper} {ρ : Type} {r : ρ} {K : St → Option ρ}
theorem info_size {t : Nat} (h : TOk P t) : (P.info? t).map (·.size) = some (szOf t) := by
  obtain ⟨zv, b, h1, _⟩ := h.info
  cases hq : P.info? t with
  | none => rw [hq] at h1; simp at h1
  | some i => rw [hq] at h1; simp only [Option.map_some, Option.some.injEq, Prod.mk.injEq] at h1; simp [h1.2.1]
theorem run_size {t : Nat} (h : TOk P t) (w : World) : (sizeOf t).run P w = .ok (szOf t) w := by
  have := info_size h
  cases hq : P.info? t with
  | none => simp [hq] at this
  | some i =>
    have hs : i.size = szOf t := by simpa [hq] using this
    simp [sizeOf, typeInfo, hq, hs]
theorem zero_ne {t : Nat} (h : zero t ≠ []) : 0 < szOf t := by
  unfold szOf
  exact List.length_pos_iff.2 h
/-- The place of an element. -/
theorem run_indexAt {t e : Nat} (ht : td t = .slice e) {ad : Addr} {n c : Nat} {k : IntKind} {i : Int} (h0 : 0 ≤ i) (h1 : i < (n : Int)) (w : World) : (Instr.indexAt t (.slice (some ad) n c) (.int k i)).run P w = .ok (.pointer (some (ad.add (i.toNat * szOf e)))) w := by
  obtain ⟨hu, hz, _⟩ := Laws.slice (P := P) t e ht
  have hs := run_size (Laws.ok (P := P) e hz) w
  simp [Instr.indexAt, asIntOf, underlying, hu, hs, h0, h1]
theorem enc_at (P : Program) [Laws P] {e : Nat} (hz : zero e ≠ []) (hsz : (kd e).sz = szOf e) {A : Option Addr} {xs : List (El e)} (hF : Kd.F (kd e) w Im A xs.length xs) {j : Int} (h0 : 0 ≤ j) (h1 : j < (xs.length : Int)) :
    ∃ ad, A = some ad ∧ ∀ nx, Rep E nx w Im (.rop (enc e (xs.getD j.toNat (z e)))) (.pointer (some (ad.add (j.toNat * szOf e)))) := by
  obtain ⟨ad, c, hA, hcl, hK, hcc, him⟩ := Kd.F_get hF (z e) j h0 (by exact_mod_cast h1)
  refine ⟨ad, hA, fun nx => ⟨ad.add (j.toNat * szOf e), c, rfl, ?_, fun q u hq => ?_, Laws.enc (P := P) e _ c w Im E nx hz hK, fun u hu => (kd e).K_one (Kd.FK_now hK) u hu⟩⟩
  · rw [add_block]
    exact him (by rw [hsz]; exact zero_ne hz)
  · have := hcc q u hq
    rw [hsz] at this
    rwa [show (ad.add (j.toNat * szOf e)).add q = ad.add (j.toNat * szOf e + q) from by
      unfold Addr.add
      by_cases h1 : j.toNat * szOf e = 0 <;> by_cases h2 : q = 0 <;> simp [h1, h2, Nat.add_assoc]]
theorem y_indexAddr {t : TypeId} {x i : Operand} (ho : o.op = .indexAddr t x i) (h : opK o s K = some r) (hR : Rel C E Im s a w) : YdA P a E Im s w o K r := by
  simp only [opK, ho] at h
  obtain ⟨v, hv, h2⟩ := onV_some h
  obtain ⟨k, j, hi, h3⟩ := onI_some h2
  have hr := hR.eval hv
  have ei : a.eval i = .int k j := hR.eval hi
  split at h3
  · rename_i n e htd
    replace htd := arrOf_some htd
    obtain ⟨hu, hz, hsz, hel, _, _⟩ := Laws.arr (P := P) t n e htd
    split at h3
    · rename_i q off
      split at h3
      rotate_left
      · cases h3
      split at h3
      · rename_i t1 e1 xs hlk
        split at h3
        · rename_i hb
          rw [Bool.and_eq_true] at hb
          have hb1 : t1 = t := Nat.eq_of_beq_eq_true hb.1
          obtain ⟨h0, h1, h4⟩ := inB_some h3
          obtain ⟨hq, g, hE, ex⟩ := hr
          have hs := run_size (Laws.ok (P := P) e hz)
          refine yda h4 (u := .pointer (some ⟨g, j.toNat * szOf e + 0, none⟩)) (fun w' => ?_) ⟨hq, g, n, hE, ⟨htd, by omega⟩, rfl⟩
          simp only [execOp, ho, ex, ei, Sem.run_bind]
          have : (Instr.indexAt t (.pointer (some ⟨g, 0, none⟩)) (.int k j)).run P w' = .ok (.pointer (some ⟨g, j.toNat * szOf e + 0, none⟩)) w' := by
            have e1 : (⟨g, 0, none⟩ : Addr).add (j.toNat * szOf e) = ⟨g, j.toNat * szOf e + 0, none⟩ := by
              rw [add_at, Nat.zero_add, Nat.add_zero]
            simp [Instr.indexAt, asIntOf, underlying, hu, hs, h0, h1, Instr.sureAddr, e1]
          rw [this]
          rfl
        · cases h3
      · cases h3
    · cases h3
  obtain ⟨e, hte, h4⟩ := elemOf_some h3
  obtain ⟨hu, hz, hsz⟩ := Laws.slice (P := P) t e hte
  have fin : ∀ (v : AV) (ad : Addr) (n c : Nat), K (s.put o.dst v) = some r → a.eval x = .slice (some ad) n c → 0 ≤ j → j < (n : Int) → Rep E s.nx w Im v (.pointer (some (ad.add (j.toNat * szOf e)))) → YdA P a E Im s w o K r := by
    intro v ad n c hk ex h0 h1 hv
    refine yda hk (u := .pointer (some (ad.add (j.toNat * szOf e)))) (fun w' => ?_) hv
    have := run_indexAt (P := P) (t := t) (e := e) hte (ad := ad) (n := n) (c := c) (k := k) h0 h1 w'
    simp only [execOp, ho, ex, ei, Sem.run_bind, this, Result.andThen_ok]
    rfl
  have ro : ∀ (t1 : Nat) (xs : List (El t1)), Rep E s.nx w Im (.ro t1 xs) (a.eval x) → (castR t1 e xs fun xs => inB j xs.length (K (s.put o.dst (.rop (enc e (xs.getD j.toNat (z e))))))) = some r → YdA P a E Im s w o K r := by
    intro t1 xs hr h5
    obtain ⟨rfl, h6⟩ := castR_some h5
    obtain ⟨h0, h1, h7⟩ := inB_some h6
    obtain ⟨A, c, ex, hl, hF⟩ := hr
    obtain ⟨ad, rfl, hrep⟩ := enc_at P hz hsz hF h0 h1
    exact fin _ ad _ _ h7 ex h0 h1 (hrep _)
  split at h4
  · exact ro _ _ hr h4
  · rename_i i
    split at h4
    · rename_i t1 xs hl
      obtain ⟨rfl, h6⟩ := castR_some h4
      obtain ⟨h0, h1, h7⟩ := inB_some h6
      have hob := (hR.h.ob i _ (look_some hl (by simp))).2
      have hN : Kd.N (kd t1) t1 w 0 (fun k => some k = (E i).ownBlock ∨ Im k) (E i) xs := hob
      have hlt : 0 < xs.length := by
        have h1' : j < (xs.length : Int) := h1
        omega
      obtain ⟨g, cap, hE, _⟩ := Kd.N_form hN hlt
      have ex : a.eval x = .slice (some ⟨g, 0, none⟩) xs.length cap := by rw [← hE]; exact hr.2.1
      refine fin _ ⟨g, 0, none⟩ _ _ h7 ex h0 h1 ⟨hr.1, g, xs.length, cap, hE, ⟨?_, hsz, hz⟩, ?_⟩
      · have h1' : j < (xs.length : Int) := h1
        omega
      · rw [add_at, hsz, Nat.zero_add, Nat.add_zero]
    · rename_i t1 xs hl
      have hob := (hR.h.ob i _ (look_some hl (by simp))).2
      have hob' : Rep E s.nx w Im (.ro t1 xs) (E i) := hob
      rw [← hr.2.1] at hob'
      exact ro t1 xs hob' h4
    · cases h4
  · cases h4
theorem ok_indexAddr {t : TypeId} {x i : Operand} (ho : o.op = .indexAddr t x i) (h : opK o s K = some r) (hR : Rel C E Im s a w) (hn : Goes C r K next) : o.wp P a w next Q := (y_indexAddr ho h hR).ok hR hn
theorem ofCells_ne {t n : Nat} {l : List AV} {put : AV → Option ρ} (h : ofCells t (l.take (szOf t)) put = some r) : zero t ≠ [] := by
  intro e
  have : szOf t = 0 := by unfold szOf; rw [e]; rfl
  rw [this, List.take_zero] at h
  unfold ofCells at h
  split at h <;> cases h
/-- Cells that stand at a place are loaded. -/
theorem run_loadA {t : Nat} (hz : zero t ≠ []) {ad : Addr} {vs : List Value} {l : List AV} (hl : RepL E s.nx w Im l vs) (h1 : ∀ u ∈ vs, u.oneCell' = true) {put : AV → Option ρ} (h : ofCells t l put = some r) :
    ∃ v u, put v = some r ∧ (∀ w', (∀ (q : Nat) u, vs[q]? = some u → w'.cell? (ad.add q) = some u) → (Instr.loadAt t (.pointer (some ad))).run P w' = .ok u w') ∧ Rep E s.nx w Im v u := by
  have hok := Laws.ok (P := P) t hz
  have hag := run_isAgg (P := P) hok
  have hsz := run_size (P := P) hok
  unfold ofCells at h
  cases hagg : aggT t with
  | true =>
    rw [hagg] at h hag
    simp only at h
    split at h
    · cases h
    cases hb : Nat.beq l.length (szOf t) with
    | false => rw [hb] at h; cases h
    | true =>
      rw [hb] at h
      have hlen : vs.length = szOf t := by rw [← RepL.length hl]; exact Nat.eq_of_beq_eq_true hb
      refine ⟨_, .agg vs.toArray, h, fun w' hc => ?_, vs, rfl, hl, h1⟩
      have := run_loadCells_list (P := P) w' ad vs hc
      rw [hlen] at this
      simp [Instr.loadAt, Instr.sureAddr, loadVar, hag, hsz, this]
  | false =>
    rw [hagg] at h hag
    simp only at h
    split at h
    · rename_i v
      obtain ⟨u, vs', rfl, hr, hl'⟩ := hl
      have e : vs' = [] := hl'
      subst e
      refine ⟨_, u, h, fun w' hc => ?_, hr⟩
      have hcell := hc 0 u rfl
      rw [show ad.add 0 = ad from rfl] at hcell
      simp [Instr.loadAt, Instr.sureAddr, loadVar, hag, hcell]
    · cases h
theorem run_loadAt {t : Nat} (hz : zero t ≠ []) {ad : Addr} {vs : List Value} {l : List AV} (hc : ∀ (q : Nat) u, vs[q]? = some u → w.cell? (ad.add q) = some u) (hl : RepL E s.nx w Im l vs) (h1 : ∀ u ∈ vs, u.oneCell' = true) {put : AV → Option ρ} (h : ofCells t l put = some r) :
    ∃ v u, put v = some r ∧ (Instr.loadAt t (.pointer (some ad))).run P w = .ok u w ∧ Rep E s.nx w Im v u := by
  obtain ⟨v, u, h2, h3, h4⟩ := run_loadA (P := P) hz hl h1 h
  exact ⟨v, u, h2, h3 w hc, h4⟩
theorem cell_cls (hc : Cls w w') {ad : Addr} {u : Value} (h : w.cell? ad = some u) : w'.cell? ad = some u := by
  rw [cell_same (hc.2.2 _ (World.block_lt_of_cell? w _ h))]
  exact h
/-- An element of an array's cells. -/
theorem flat_split {e n : Nat} (hel : ∀ x, (enc e x).length = n) : ∀ (xs : List (El e)) (j : Nat), j < xs.length → ∃ pre post, flatC e xs = pre ++ (enc e (xs.getD j (z e)) ++ post) ∧ pre.length = j * n ∧ ∀ y, flatC e (xs.set j y) = pre ++ (enc e y ++ post)
  | [], j, h => by simp at h
  | x :: xs, 0, h => ⟨[], flatC e xs, by simp [flatC], by simp, fun y => by simp [flatC]⟩
  | x :: xs, j + 1, h => by
    obtain ⟨pre, post, h1, h2, h3⟩ := flat_split hel xs j (by simpa using h)
    refine ⟨enc e x ++ pre, post, ?_, ?_, fun y => ?_⟩
    · show enc e x ++ flatC e xs = _
      rw [h1, List.append_assoc]
      rfl
    · rw [List.length_append, hel, h2, Nat.succ_mul]
      omega
    · show enc e x ++ flatC e (xs.set j y) = _
      rw [h3 y, List.append_assoc]
theorem flat_at {e n : Nat} (hel : ∀ x, (enc e x).length = n) {xs : List (El e)} {j : Nat} (hj : j < xs.length) {nx : Nat} {vs : List Value} (h : RepL E nx w Im (flatC e xs) vs) : RepL E nx w Im (enc e (xs.getD j (z e))) ((vs.drop (j * n)).take n) ∧ j * n + n ≤ vs.length ∧ ∀ y c, RepL E nx w Im (enc e y) c → RepL E nx w Im (flatC e (xs.set j y)) (vs.take (j * n) ++ (c ++ vs.drop (j * n + n))) := by
  obtain ⟨pre, post, h1, h2, h3⟩ := flat_split hel xs j hj
  rw [h1] at h
  have hlen := RepL.length h
  have hd := RepL.drop (j * n) h
  rw [← h2, List.drop_left] at hd
  have ht := RepL.take n hd
  rw [List.take_append_of_le_length (by rw [hel]; exact Nat.le_refl _), List.take_of_length_le (by rw [hel]; exact Nat.le_refl _)] at ht
  rw [List.length_append, List.length_append, hel] at hlen
  refine ⟨by rw [← h2]; exact ht, by omega, fun y c hc => ?_⟩
  rw [h3 y]
  have hp := RepL.take (j * n) h
  rw [← h2, List.take_left] at hp
  have hq := RepL.drop n hd
  rw [List.drop_append_of_le_length (by rw [hel]; exact Nat.le_refl _), List.drop_of_length_le (by rw [hel]; exact Nat.le_refl _), List.nil_append, List.drop_drop] at hq
  rw [← h2]
  exact RepL.append hp (RepL.append hc hq)
theorem y_load {t : TypeId} {x : Operand} (ho : o.op = .load t x) (h : opK o s K = some r) (hR : Rel C E Im s a w) : Yd P a E Im s w o K r := by
  simp only [opK, ho] at h
  obtain ⟨v, hv, h2⟩ := onV_some h
  have hr := hR.eval hv
  have fin : ∀ (ad : Addr) (vs : List Value) (l : List AV), a.eval x = .pointer (some ad) → (∀ (q : Nat) u, vs[q]? = some u → w.cell? (ad.add q) = some u) → RepL E s.nx w Im l vs → (∀ u ∈ vs, u.oneCell' = true) → ofCells t (l.take (szOf t)) (fun v => K (s.put o.dst v)) = some r → Yd P a E Im s w o K r := by
    intro ad vs l ex hc hl h1 h3
    obtain ⟨v, u, hk, hrun, hrep⟩ := run_loadA (P := P) (s := s) (ofCells_ne (n := 0) h3) (vs := vs.take (szOf t)) (RepL.take _ hl) (fun u hu => h1 u (List.mem_of_mem_take hu)) h3
    refine yd hk (u := u) (fun w' hcl => ?_) hrep
    have hrun' := hrun w' (fun q u hq => by
      rw [List.getElem?_take] at hq
      split at hq
      · exact cell_cls hcl (hc q u hq)
      · cases hq)
    simp only [execOp, ho, ex, Sem.run_bind, hrun', Result.andThen_ok]
    rfl
  split at h2
  · obtain ⟨ad, vs, ex, _, hc, hl, h1⟩ := hr
    exact fin ad vs _ ex hc hl h1 h2
  · rename_i i off
    split at h2
    · rename_i tb cs hlk
      obtain ⟨hi, g, hE, ex⟩ := hr
      have hob := (hR.h.ob i _ (look_some hlk (by simp))).2
      obtain ⟨g', vs, hE', hg, hl, h1⟩ := hob
      rw [hE] at hE'
      injection hE' with hE'
      injection hE' with hE'
      injection hE' with hE'
      subst hE'
      refine fin ⟨g, off, none⟩ (vs.drop off) _ ex (fun q u hq => ?_) (RepL.drop off hl) (fun u hu => h1 u (List.mem_of_mem_drop hu)) h2
      rw [add_at, blk_cell hg]
      rw [List.getElem?_drop] at hq
      simpa using hq
    · cases h2
  · rename_i i t' j off
    split at h2
    · rename_i t'' xs hlk
      obtain ⟨rfl, h3⟩ := castR_some h2
      obtain ⟨hi, g, n, c, hE, ⟨hj, hsz, hz⟩, ex⟩ := hr
      have hob := (hR.h.ob i _ (look_some hlk (by simp))).2
      have hN : Kd.N (kd t'') t'' w 0 (fun k => some k = (E i).ownBlock ∨ Im k) (E i) xs := hob
      have hgb : (E i).ownBlock = some g := by rw [hE]; simp [Value.ownBlock]
      rw [hgb, hE] at hN
      obtain ⟨c', hcl, hK, hcc, _⟩ := Kd.N_elem hN (z t'') (j : Int) (by omega) (by exact_mod_cast hj)
      rw [Int.toNat_natCast] at hK hcc
      have hK2 : Kd.FK (kd t'') w Im (xs.getD j (z t'')) c' := Kd.FK_mono hK (fun k hk => by
        rcases hk.1 with e | e
        · injection e with e; exact absurd e hk.2
        · exact e)
      refine fin ⟨g, j * (kd t'').sz + off, none⟩ (c'.drop off) _ ex (fun q u hq => ?_) (RepL.drop off (Laws.enc (P := P) t'' _ c' w Im E s.nx hz hK2)) (fun u hu => (kd t'').K_one (Kd.FK_now hK) u (List.mem_of_mem_drop hu)) h3
      rw [add_at]
      rw [List.getElem?_drop] at hq
      have := hcc _ _ hq
      rwa [← Nat.add_assoc] at this
    · cases h2
  · rename_i i t1 e j off
    split at h2
    · rename_i t2 e2 xs hlk
      split at h2
      · rename_i hb
        obtain ⟨rfl, h3⟩ := castR_some h2
        obtain ⟨hi, g, n, hE, ⟨htd, hj⟩, ex⟩ := hr
        have hob := (hR.h.ob i _ (look_some hlk (by simp))).2
        obtain ⟨⟨g', vs, hE', hg, hl, h1⟩, htd2⟩ := hob
        rw [Nat.eq_of_beq_eq_true hb, htd] at htd2
        injection htd2 with hn _
        rw [hE] at hE'
        injection hE' with hE'
        injection hE' with hE'
        injection hE' with hE'
        subst hE'
        obtain ⟨_, hz, hsz, hel, _, _⟩ := Laws.arr (P := P) t1 n e2 htd
        obtain ⟨h4, h5, h6⟩ := flat_at hel (xs := xs) (j := j) (by omega) (hl E s.nx)
        refine fin ⟨g, j * szOf e2 + off, none⟩ (((vs.drop (j * szOf e2)).take (szOf e2)).drop off) _ ex (fun q u hq => ?_) (RepL.drop off h4) (fun u hu => h1 u (List.mem_of_mem_drop (List.mem_of_mem_take (List.mem_of_mem_drop hu)))) h3
        rw [add_at, blk_cell hg]
        rw [List.getElem?_drop, List.getElem?_take] at hq
        split at hq
        · rw [List.getElem?_drop] at hq
          rw [Nat.add_assoc]
          simpa using hq
        · cases hq
      · cases h2
    · cases h2
  · cases h2
theorem ok_load {t : TypeId} {x : Operand} (ho : o.op = .load t x) (h : opK o s K = some r) (hR : Rel C E Im s a w) (hn : Goes C r K next) : o.wp P a w next Q := (y_load ho h hR).ok hR hn
theorem onR_some {v : AV} {u : Value} {Kr : (t : Nat) → List (El t) → Option ρ} (h : onR s v Kr = some r) (hR : Rel C E Im s a w) (hv : Rep E s.nx w Im v u) : ∃ t xs, Kr t xs = some r ∧ ∃ A c, u = .slice A xs.length c := by
  unfold onR at h
  split at h
  · obtain ⟨A, c, e, _⟩ := hv
    exact ⟨_, _, h, A, c, e⟩
  · rename_i i
    split at h
    · rename_i t1 xs hl
      have hob := (hR.h.ob i _ (look_some hl (by simp))).2
      obtain ⟨A, c, e⟩ := Kd.N_slice (show Kd.N (kd t1) t1 w 0 (fun k => some k = (E i).ownBlock ∨ Im k) (E i) xs from hob)
      exact ⟨_, _, h, A, c, by rw [hv.2.1]; exact e⟩
    · rename_i t1 xs hl
      have hob := (hR.h.ob i _ (look_some hl (by simp))).2
      obtain ⟨A, c, e, _⟩ := (show Rep E s.nx w Im (.ro t1 xs) (E i) from hob)
      exact ⟨_, _, h, A, c, by rw [hv.2.1]; exact e⟩
    · cases h
  · exact hv.elim
  · cases h
theorem run_builtin {b : Builtin} {c : Call} (ho : o.op = .call c) (hc : c.callee = .builtin b) (w : World) : (execOp a.eval o).run P w = (builtin b c.argTypes o.type (c.args.map fun | .const _ => true | _ => false) (c.args.map a.eval)).run P w := by
  simp only [execOp, ho, resolve, hc, Sem.run_bind, Sem.run_pure, Result.andThen_ok, invoke]
  rfl
theorem y_len {c : Call} (ho : o.op = .call c) (hc : c.callee = .builtin .len) (h : opK o s K = some r) (hR : Rel C E Im s a w) : YdA P a E Im s w o K r := by
  simp only [opK, ho, hc, bltK] at h
  split at h
  · rename_i x t hx ht
    obtain ⟨v, hv, h2⟩ := onV_some h
    have hr := hR.eval hv
    have hargs : c.args = #[x] := by rw [← Array.toList_inj]; exact hx
    have htys : c.argTypes = #[t] := by rw [← Array.toList_inj]; exact ht
    have hb := fun w => run_builtin (P := P) (a := a) ho hc w
    rw [hargs, htys] at hb
    unfold lenK at h2
    split at h2
    · rename_i htd
      have hu := Laws.str (P := P) t htd
      split at h2
      · rename_i b
        have ex : a.eval x = .string b := hr
        refine yda h2 (u := .int .i64 b.size) (fun w' => ?_) rfl
        rw [hb]
        simp [builtin, Builtin.len_, underlying, hu, ex, goInt]
      · cases h2
    · rename_i e htd
      have hu := (Laws.slice (P := P) t e htd).1
      split at h2
      · have ex : a.eval x = .slice none 0 0 := hr
        refine yda h2 (u := .int .i64 0) (fun w' => ?_) rfl
        rw [hb]
        simp [builtin, Builtin.len_, underlying, hu, ex, goInt]
      obtain ⟨t1, xs, h3, A, n, ex⟩ := onR_some h2 hR hr
      refine yda h3 (u := .int .i64 xs.length) (fun w' => ?_) rfl
      rw [hb]
      simp [builtin, Builtin.len_, underlying, hu, ex, goInt]
    · cases h2
  · cases h
theorem y_cap {c : Call} (ho : o.op = .call c) (hc : c.callee = .builtin .cap) (h : opK o s K = some r) (hR : Rel C E Im s a w) : YdA P a E Im s w o K r := by
  simp only [opK, ho, hc, bltK] at h
  split at h
  · rename_i x t hx ht
    obtain ⟨e, htd, h⟩ := elemOf_some h
    have hu := (Laws.slice (P := P) t e htd).1
    split at h
    · rename_i hv
      have ex : a.eval x = .slice none 0 0 := hR.eval hv
      have hargs : c.args = #[x] := by rw [← Array.toList_inj]; exact hx
      have htys : c.argTypes = #[t] := by rw [← Array.toList_inj]; exact ht
      refine yda h (u := .int .i64 0) (fun w' => ?_) rfl
      rw [run_builtin (P := P) (a := a) ho hc w', hargs, htys]
      simp [builtin, Builtin.cap_, underlying, hu, ex, goInt]
    · cases h
  · cases h
theorem ok_len {c : Call} (ho : o.op = .call c) (hc : c.callee = .builtin .len) (h : opK o s K = some r) (hR : Rel C E Im s a w) (hn : Goes C r K next) : o.wp P a w next Q := (y_len ho hc h hR).ok hR hn
theorem y_max {c : Call} (ho : o.op = .call c) (hc : c.callee = .builtin .max ∨ c.callee = .builtin .min) (h : opK o s K = some r) (hR : Rel C E Im s a w) : YdA P a E Im s w o K r := by
  rcases hc with hc | hc
  all_goals
    simp only [opK, ho, hc, bltK] at h
    split at h
    · rename_i x y hx
      obtain ⟨k, n, hv, h2⟩ := onI_some h
      obtain ⟨k', m, hu, h3⟩ := onI_some h2
      have ex : a.eval x = .int k n := hR.eval hv
      have ey : a.eval y = .int k' m := hR.eval hu
      have hargs : c.args = #[x, y] := by rw [← Array.toList_inj]; exact hx
      refine yda h3 (u := .int k _) (fun w' => ?_) rfl
      rw [run_builtin (P := P) (a := a) ho hc w', hargs]
      simp [builtin, ex, ey, max_two, min_two, max2_int, min2_int]
    · cases h
end
end Go.Proofs.YtnlnjcgoodgmbaaM
