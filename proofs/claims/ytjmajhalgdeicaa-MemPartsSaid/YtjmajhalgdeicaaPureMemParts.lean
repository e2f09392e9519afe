/- What is stored is loaded, whole and byte by byte, the lowest first; bytes beside it stay; what is refused changes nothing: for every script. -/
import Derived.Test.YtjmajhalgdeicaaPAllx8
import Derived.Test.YtjmajhalgdeicaaQRef
namespace Go.Proofs.Ytjmajhalgdeicaa.QP
open Go.RowKit Go.Proofs.Ytjmajhalgdeicaa.PAll Go.Proofs.YtjmajhalgdeicaaW.PrintWords Go.Proofs.YtjmajhalgdeicaaW.PrintLast Go.Proofs.YtjmajhalgdeicaaW.PrintMore Go.Proofs.YtjmajhalgdeicaaU Go.Proofs.Ytjmajhalgdeicaa.Q
set_option linter.unusedVariables false
set_option linter.unusedSectionVars false

theorem splice_getD (l : List Int) (i : Nat) (b : List Int) (q : Nat) (h : i + b.length ≤ l.length) : (splice l i b).getD q 0 = if q < i then l.getD q 0 else if q < i + b.length then b.getD (q - i) 0 else l.getD q 0 := by
  unfold splice
  have hl : (l.take i).length = i := by rw [List.length_take]; omega
  simp only [List.getD_eq_getElem?_getD, List.append_assoc]
  by_cases h1 : q < i
  · rw [if_pos h1, List.getElem?_append_left (by omega), List.getElem?_take, if_pos h1]
  · rw [if_neg h1, List.getElem?_append_right (by omega), hl]
    by_cases h2 : q < i + b.length
    · rw [if_pos h2, List.getElem?_append_left (by omega)]
    · rw [if_neg h2, List.getElem?_append_right (by omega), List.getElem?_drop]
      congr 2
      omega
theorem le_getD (v : Int) (n j : Nat) (h : j < n) : (le v n).getD j 0 = v / 2 ^ (8 * j) % 256 := by
  simp only [Go.Proofs.YtjmajhalgdeicaaU.le, List.getD_eq_getElem?_getD, List.getElem?_map, List.getElem?_range h]
  rfl
theorem win_getD (l : List Int) (p j : Nat) (h : j < 10) : ((l.take (p + 10)).drop p).getD j 0 = l.getD (p + j) 0 := by
  simp only [List.getD_eq_getElem?_getD, List.getElem?_drop, List.getElem?_take]
  rw [if_pos (by omega)]
theorem wraps64 (n : Int) (h0 : 0 ≤ n) (h1 : n < 2 ^ 64) : IntKind.u64.wrap n = n := by rw [wu64]; exact Int.emod_eq_of_lt h0 h1
theorem mask_eq (n : Int) (hn : n = 1 ∨ n = 2 ∨ n = 4) (V : Int) (h0 : 0 ≤ V) (h1 : V ≤ 18446744073709551615) : Go.bits .and .u64 V (IntKind.u64.wrap ((shl .u64 1 (8 * n)) - 1)) = V % 2 ^ (8 * n.toNat) := by
  rcases hn with rfl | rfl | rfl
  · rw [show IntKind.u64.wrap ((shl .u64 1 (8 * 1)) - 1) = 2 ^ 8 - 1 from by decide]
    exact bits_mask .u64 64 (by decide) wraps64 8 (by decide) V h0 (by omega)
  · rw [show IntKind.u64.wrap ((shl .u64 1 (8 * 2)) - 1) = 2 ^ 16 - 1 from by decide]
    exact bits_mask .u64 64 (by decide) wraps64 16 (by decide) V h0 (by omega)
  · rw [show IntKind.u64.wrap ((shl .u64 1 (8 * 4)) - 1) = 2 ^ 32 - 1 from by decide]
    exact bits_mask .u64 64 (by decide) wraps64 32 (by decide) V h0 (by omega)

structure Inv (l : List Int) : Prop where
  byt : Byt l
  len : l.length = 65536
section
variable (a b c : Int) (L : List S48)
def Go (i : Nat) : Prop := ∀ l, Inv l → Ev (fun k => gangwaylaw9_MemParts.l0 k (i : Int) a b c L l 1) true
variable {a b c L}
theorem fin (i : Int) (l : List Int) (h : Inv l) (hz : 0 < L.length ∨ num (sub l 65535 0 1) = 0) : Ev (fun k => gangwaylaw9_MemParts.j2 k i false a b c L l 1) true := by
  have hl := h.len
  have f1 : Fm 65535 0 1 := ⟨by omega, by omega, by omega⟩
  refine Ev.step (fun k => gangwaylaw9_MemParts.j2.eq_2 _ _ _ _ _ _ _ _ _) ?_
  refine Ev.ifn Bool.false_ne_true (Ev.bd (Ev.big 9 fun k hk => load_ok 1 h.byt f1 (by rw [hl]; omega) k (by omega)) (Ev.val (v := 0) rfl (Ev.ifp rfl ?_)))
  have wk : Ev (fun k => (gangwaylaw9_wakes.f k).bind fun t => some t) true := Ev.bd (Ev.big 20 fun k hk => wakes_ok k hk) (Ev.cst rfl)
  by_cases h0 : num (sub l 65535 0 1) = 0
  · exact Ev.ifp h0 wk
  · exact Ev.ifn h0 (Ev.ifp (by omega) wk)
variable {i : Nat} (hi : i < 1000000000) {l l' : List Int} (h : Inv l) (h' : Inv l') (g : Go a b c L (i + 1))
variable {n : Int} (hn : n = 1 ∨ n = 2 ∨ n = 4 ∨ n = 8) {p : Nat} (hp : p < 65526) {V : Int} (hV : 0 ≤ V ∧ V ≤ 18446744073709551615) (f0 f1 f2 f3 : Int) (B : List Int)
include hi h h' g hn hp hV
theorem l1_step (hl' : l' = splice l (p + 1) (le V n.toNat)) : ∀ (d j : Nat), j + d = 10 → Ev (fun k => gangwaylaw9_MemParts.l1 k (i : Int) n ((l.take (p + 10)).drop p) ((l'.take (p + 10)).drop p) (j : Int) a b c L l' 1 f0 f1 f2 f3 V B) true := by
  have hlen := h.len
  have hlen' := h'.len
  have hw : ((l.take (p + 10)).drop p).length = 10 := by rw [List.length_drop, List.length_take]; omega
  have hw' : ((l'.take (p + 10)).drop p).length = 10 := by rw [List.length_drop, List.length_take]; omega
  intro d
  induction d with
  | zero =>
    intro j hj
    have e1 := store_fault l' 1 (a := 65536 - n) (b := 1) (n := n) V ⟨hn, by omega, by omega⟩ (by rw [hlen']; omega)
    have e2 := store_fault l' 1 (a := 4294967295) (b := 4294967295) (n := n) V ⟨hn, by omega, by omega⟩ (by rw [hlen']; omega)
    have e3 := write_fault l' 1 (a := 65535) (b := [1, 2]) (by rw [hlen']; simp)
    refine Ev.step (fun k => gangwaylaw9_MemParts.l1.eq_2 _ _ _ _ _ _ _ _ _ _ _ _ _ _ _ _ _ _) ?_
    rw [w64 (x := 65536 - n) (by omega) (by omega), show wrap64 ((i : Int) + 1) = ((i + 1 : Nat) : Int) from by rw [w64 (by omega) (by omega)]; omega]
    refine Ev.ifn (by omega) (Ev.val e1 (Ev.val (v := 21) rfl (Ev.ifp rfl (Ev.val e2 (Ev.val (v := 21) rfl (Ev.ifp rfl (Ev.val e3 (Ev.val (v := 21) rfl (Ev.ifp rfl ?_)))))))))
    exact g l' h'
  | succ d ih =>
    intro j hj
    have ih' := ih (j + 1) (by omega)
    have hj1 : wrap64 ((j : Int) + 1) = ((j + 1 : Nat) : Int) := by rw [w64 (by omega) (by omega)]; omega
    have hsp := splice_getD l (p + 1) (le V n.toNat) (p + j) (by rw [le_length]; omega)
    rw [le_length, ← hl'] at hsp
    refine Ev.step (fun k => gangwaylaw9_MemParts.l1.eq_2 _ _ _ _ _ _ _ _ _ _ _ _ _ _ _ _ _ _) ?_
    refine Ev.ifp (by omega) (Ev.ifp (by omega) (Ev.ifp (by rw [hw]; omega) ?_))
    have hno : ∀ x : Int, x = ((l'.take (p + 10)).drop p).getD j 0 → Ev (fun k => gangwaylaw9_MemParts.j5 k (i : Int) n ((l.take (p + 10)).drop p) ((l'.take (p + 10)).drop p) (j : Int) x false a b c L l' 1 f0 f1 f2 f3 V B) true := by
      intro x hx
      refine Ev.step (fun k => gangwaylaw9_MemParts.j5.eq_2 _ _ _ _ _ _ _ _ _ _ _ _ _ _ _ _ _ _ _ _) ?_
      rw [hj1]
      refine Ev.ifn Bool.false_ne_true (Ev.ifp (by omega) (Ev.ifp (by rw [hw']; omega) (Ev.ifp ?_ ih')))
      rw [rd_nat, hx]
    by_cases hj0 : (j : Int) ≥ 1
    · refine Ev.ifp hj0 ?_
      by_cases hjn : (j : Int) ≤ n
      · rw [decide_eq_true hjn]
        refine Ev.step (fun k => gangwaylaw9_MemParts.j5.eq_2 _ _ _ _ _ _ _ _ _ _ _ _ _ _ _ _ _ _ _ _) ?_
        rw [hj1, w64 (x := (j : Int) - 1) (by omega) (by omega), w64 (x := 8 * ((j : Int) - 1)) (by omega) (by omega)]
        refine Ev.ifp rfl (Ev.ifp (by omega) (Ev.ifp (by omega) (Ev.ifp (by rw [hw']; omega) (Ev.ifp ?_ ih'))))
        rw [rd_nat, win_getD _ _ _ (by omega), hsp, if_neg (by omega), if_pos (by omega), le_getD _ _ _ (by omega), show 8 * ((j : Int) - 1) = ((8 * (p + j - (p + 1)) : Nat) : Int) by omega, shr64 .u64 (.inr rfl) V _ (by omega)]
      · rw [decide_eq_false hjn]
        refine hno _ ?_
        rw [rd_nat, win_getD _ _ _ (by omega), win_getD _ _ _ (by omega), hsp, if_neg (by omega), if_neg (by omega)]
    · refine Ev.ifn hj0 (hno _ ?_)
      rw [rd_nat, win_getD _ _ _ (by omega), win_getD _ _ _ (by omega), hsp, if_pos (by omega)]
end
theorem tab_eq (t : Int) (h : 0 ≤ t ∧ t < 4) : rd ([1, 2, 4, 8] : List Int) t = 1 ∨ rd ([1, 2, 4, 8] : List Int) t = 2 ∨ rd ([1, 2, 4, 8] : List Int) t = 4 ∨ rd ([1, 2, 4, 8] : List Int) t = 8 := by
  have : t = 0 ∨ t = 1 ∨ t = 2 ∨ t = 3 := by omega
  rcases this with rfl | rfl | rfl | rfl <;> decide
set_option maxHeartbeats 2000000 in
theorem all_ (a b c : Int) (L : List S48) (hL : L.length < 10000000000000) (hk : ∀ y ∈ L, okT48 y) : ∀ (d i : Nat), i + d = 30 → ∀ l, Inv l → (0 < L.length ∨ num (sub l 65535 0 1) = 0) → Ev (fun k => gangwaylaw9_MemParts.l0 k (i : Int) a b c L l 1) true := by
  intro d
  induction d with
  | zero =>
    intro i hi l h hz
    refine Ev.step (fun k => gangwaylaw9_MemParts.l0.eq_2 _ _ _ _ _ _ _ _) ?_
    by_cases hlt : (i : Int) < (L.length : Int)
    · refine Ev.ifp hlt ?_
      rw [decide_eq_false (by omega)]
      exact fin _ l h hz
    · exact Ev.ifn hlt (fin _ l h hz)
  | succ d ih =>
    intro i hi l h hz
    refine Ev.step (fun k => gangwaylaw9_MemParts.l0.eq_2 _ _ _ _ _ _ _ _) ?_
    by_cases hlt : (i : Int) < (L.length : Int)
    · have g : Go a b c L (i + 1) := fun l h => ih (i + 1) (by omega) l h (.inl (by omega))
      refine Ev.ifp hlt ?_
      rw [decide_eq_true (show (i : Int) < 30 by omega)]
      refine Ev.step (fun k => gangwaylaw9_MemParts.j2.eq_2 _ _ _ _ _ _ _ _ _) ?_
      have hm : rd_T48 L (i : Int) ∈ L := by
        unfold rd_T48
        rw [List.getD_eq_getElem?_getD, List.getElem?_eq_getElem (by omega)]
        exact List.getElem_mem _
      obtain ⟨_, _, _, _, hV, _, _⟩ := hk _ hm
      have hV := bdu64 hV
      generalize rd_T48 L (i : Int) = y at *
      refine Ev.ifp rfl ?_
      refine Ev.ifp (by omega) ?_
      refine Ev.ifp hlt ?_
      refine Ev.val (v := [1, 2, 4, 8]) rfl ?_
      refine Ev.val (within_eq y.f3 4 (by omega) (by omega)) ?_
      have ht : 0 ≤ y.f3 % 18446744073709551616 % 4 ∧ y.f3 % 18446744073709551616 % 4 < 4 := by omega
      generalize y.f3 % 18446744073709551616 % 4 = t at *
      refine Ev.ifp ht.1 ?_
      refine Ev.ifp (by simp; omega) ?_
      refine Ev.val (within_eq y.f1 65526 (by omega) (by omega)) ?_
      have hq : 0 ≤ y.f1 % 18446744073709551616 % 65526 ∧ y.f1 % 18446744073709551616 % 65526 < 65526 := ⟨Int.emod_nonneg _ (by decide), Int.emod_lt_of_pos _ (by decide)⟩
      generalize y.f1 % 18446744073709551616 % 65526 = q at hq ⊢
      obtain ⟨p, rfl⟩ := Int.eq_ofNat_of_zero_le hq.1
      have hp2 : p < 65526 := by omega
      have hn := tab_eq t ht
      obtain ⟨n, hnn⟩ : ∃ n, rd ([1, 2, 4, 8] : List Int) t = n := ⟨_, rfl⟩
      rw [hnn] at hn ⊢
      clear hnn hq
      have hlen := h.len
      have w1 : wrap64 (1 + (p : Int)) = (p : Int) + 1 := by rw [w64 (by omega) (by omega)]; omega
      have w2 : wrap64 ((p : Int) + 1 - 1) = (p : Int) := by rw [w64 (by omega) (by omega)]; omega
      rw [w1, w2]
      have fs : Fm (p : Int) 1 n := ⟨hn, by omega, by omega⟩
      have fl : Fm 0 ((p : Int) + 1) n := ⟨hn, by omega, by omega⟩
      have r1 := read_ok (l := l) (a := (p : Int)) (n := 10) 1 (by omega) (by omega)
      have st := store_ok l 1 y.f4 fs (by rw [hlen]; omega)
      rw [show ((p : Int) + 10).toNat = p + 10 by omega, show ((p : Int)).toNat = p by omega] at r1
      rw [show ((p : Int) + 1).toNat = p + 1 by omega] at st
      have hsl := splice_length (b := l) (i := p + 1) (p := le y.f4 n.toNat) (by rw [le_length]; omega)
      have h' : Inv (splice l (p + 1) (le y.f4 n.toNat)) := ⟨h.byt.splice (Byt.le _ _) _, by rw [hsl]; exact hlen⟩
      have hval : num (sub (splice l (p + 1) (le y.f4 n.toNat)) 0 ((p : Int) + 1) n) = y.f4 % 2 ^ (8 * n.toNat) := by
        have e := sub_splice (l := l) y.f4 fs fl (by omega) (by rw [hlen]; omega)
        rw [show ((p : Int) + 1).toNat = p + 1 by omega] at e
        rw [e, num_le]
      generalize hl' : splice l (p + 1) (le y.f4 n.toNat) = l' at *
      have hlen' := h'.len
      have r2 := read_ok (l := l') (a := (p : Int)) (n := 10) 1 (by omega) (by omega)
      rw [show ((p : Int) + 10).toNat = p + 10 by omega, show ((p : Int)).toNat = p by omega] at r2
      have ld : Ev (fun k => mem_Memory_Load.f k l' 1 0 ((p : Int) + 1) n) (y.f4 % 2 ^ (8 * n.toNat), 0, l', 1) := by
        rw [← hval]
        exact Ev.big 9 fun k hk => load_ok 1 h'.byt fl (by rw [hlen']; omega) k (by omega)
      have hw : ((l.take (p + 10)).drop p).length = 10 := by rw [List.length_drop, List.length_take]; omega
      have hw' : ((l'.take (p + 10)).drop p).length = 10 := by rw [List.length_drop, List.length_take]; omega
      refine Ev.val r1 ?_
      refine Ev.val st ?_
      refine Ev.bd ld ?_
      refine Ev.val r2 ?_
      refine Ev.val (v := 0) rfl ?_
      refine Ev.ifp rfl ?_
      refine Ev.val (v := 0) rfl ?_
      refine Ev.ifp rfl ?_
      refine Ev.val (v := 0) rfl ?_
      refine Ev.ifp rfl ?_
      refine Ev.val (v := 0) rfl ?_
      refine Ev.ifp rfl ?_
      refine Ev.ifp (by show ((((l.take (p + 10)).drop p).length : Nat) : Int) = 10; rw [hw]; rfl) ?_
      refine Ev.ifp (by show ((((l'.take (p + 10)).drop p).length : Nat) : Int) = 10; rw [hw']; rfl) ?_
      have go1 : Ev (fun k => gangwaylaw9_MemParts.j3 k (i : Int) n ((l.take (p + 10)).drop p) ((l'.take (p + 10)).drop p) false a b c L l' 1 y.f0 y.f1 y.f2 y.f3 y.f4 y.f5) true := by
        refine Ev.step (fun k => gangwaylaw9_MemParts.j3.eq_2 _ _ _ _ _ _ _ _ _ _ _ _ _ _ _ _ _ _) ?_
        refine Ev.ifn Bool.false_ne_true ?_
        exact l1_step (by omega) h h' g hn hp2 hV y.f0 y.f1 y.f2 y.f3 y.f5 hl'.symm 10 0 (by omega)
      by_cases h8 : n < 8
      · have hn3 : n = 1 ∨ n = 2 ∨ n = 4 := by omega
        refine Ev.ifp h8 ?_
        rw [w64 (x := 8 * n) (by omega) (by omega)]
        refine Ev.ifp (by omega) (Ev.ifp (mask_eq n hn3 y.f4 hV.1 hV.2).symm (Ev.ifn (by omega) ?_))
        exact go1
      · have hn8 : n = 8 := by omega
        refine Ev.ifn h8 (Ev.ifp hn8 ?_)
        subst hn8
        have hv : ((y.f4 % 2 ^ (8 * (8 : Int).toNat)) != y.f4) = false := by
          have : y.f4 % 2 ^ (8 * (8 : Int).toNat) = y.f4 := by
            rw [show (8 * (8 : Int).toNat) = 64 from rfl, show ((2 : Int) ^ 64) = 18446744073709551616 from by decide]
            exact Int.emod_eq_of_lt hV.1 (by omega)
          rw [this]
          simp
        show Ev (fun k => gangwaylaw9_MemParts.j3 k (i : Int) 8 ((l.take (p + 10)).drop p) ((l'.take (p + 10)).drop p) ((y.f4 % 2 ^ (8 * (8 : Int).toNat)) != y.f4) a b c L l' 1 y.f0 y.f1 y.f2 y.f3 y.f4 y.f5) true
        rw [hv]
        exact go1
    · exact Ev.ifn hlt (fin _ l h hz)
theorem main_ (a b c : Int) (L : List S48) (hL : L.length < 10000000000000) (hk : ∀ y ∈ L, okT48 y) (N : Nat) (hN : ((1 : Int) * 65536).toNat = N) (hN2 : N = 65536) : Ev (fun k => gangwaylaw9_MemParts.f k a b c L) true := by
  have hl : (List.replicate N (0 : Int)).length = 65536 := by rw [List.length_replicate]; exact hN2
  have hB := Byt.rep N
  have hz : num (sub (List.replicate N (0 : Int)) 65535 0 1) = 0 := by
    unfold sub mem_Memory_Load.sub
    rw [List.take_replicate, List.drop_replicate]
    have : ∀ q : Nat, num (List.replicate q 0) = 0 := by
      intro q
      induction q with
      | zero => rfl
      | succ q ih => rw [List.replicate_succ, num, ih]; rfl
    exact this _
  have hn : Ev (fun k => mem_New.f k 1 (-1) 1) (true, List.replicate N 0, 1, 0) := by
    refine Ev.big 1 fun k hk => ?_
    have e := new_ok (mi := 1) (ma := -1) (li := 1) (by omega) (by omega) (by omega) (by omega) k (by omega)
    rw [hN, if_pos rfl] at e
    exact e
  generalize List.replicate N (0 : Int) = l at *
  have g1 := grow_no (l := l) (s := 1) (n := 1) (by omega) (by omega) (by omega)
  have g2 := grow_ok (l := l) (s := 1) (n := 0) (by omega) (by omega) (by omega) (by omega)
  rw [show ((0 : Int) * 65536).toNat = 0 from by decide, List.replicate_zero, List.append_nil, hl, show (((65536 : Nat) : Int) / 65536) = 1 from by decide] at g2
  refine Ev.congr (fun k => by rw [gangwaylaw9_MemParts.f]) ?_
  refine Ev.bd hn ?_
  refine Ev.ifp rfl ?_
  refine Ev.val (v := 0) rfl ?_
  refine Ev.ifp rfl ?_
  refine Ev.val g1 ?_
  refine Ev.ifp rfl ?_
  refine Ev.val g2 ?_
  refine Ev.ifp rfl ?_
  exact all_ a b c L hL hk 30 0 (by omega) l ⟨hB, hl⟩ (.inr hz)
end Go.Proofs.Ytjmajhalgdeicaa.QP
namespace Go.Proofs.Ytjmajhalgdeicaa.Pure
open Go.RowKit Go.Proofs.Ytjmajhalgdeicaa.PAll Go.Proofs.YtjmajhalgdeicaaW.PrintWords Go.Proofs.Ytjmajhalgdeicaa.QP
theorem MemParts : gangwaylaw9_MemParts.Pure := by
  intro x0 h
  exact Ev.rounds (main_ _ _ _ x0.f2 (by have := h.2.2.1; omega) h.2.2.2 _ rfl (by decide))
end Go.Proofs.Ytjmajhalgdeicaa.Pure
