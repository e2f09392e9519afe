/- A memory grows up to what may be, page by page, and no further; what is new is noughts, what was there stays: for every script. -/
import Derived.Test.YtjmajhalgdeicaaPAllx3
import Derived.Test.YtjmajhalgdeicaaQMem
namespace Go.Proofs.Ytjmajhalgdeicaa.QG
open Go.RowKit Go.Proofs.Ytjmajhalgdeicaa.PAll Go.Proofs.YtjmajhalgdeicaaW.PrintWords Go.Proofs.YtjmajhalgdeicaaW.PrintLast Go.Proofs.YtjmajhalgdeicaaW.PrintMore Go.Proofs.YtjmajhalgdeicaaU Go.Proofs.Ytjmajhalgdeicaa.Q
set_option linter.unusedVariables false

/-- The memory behind i rounds: i pages, and at byte 5 of each the page's number, one more. -/
def mem (Z : List Int) : Nat → List Int
  | 0 => []
  | i + 1 => splice (mem Z i ++ Z) (i * 65536 + 5) (le ((i : Int) + 1) 4)
/-- A page of noughts. -/
structure Pg (Z : List Int) : Prop where
  len : Z.length = 65536
  byt : Byt Z
  zero : ∀ i j, i + j ≤ 65536 → (Z.take (i + j)).drop i = List.replicate j 0
  made : List.replicate ((1 : Int) * 65536).toNat (0 : Int) = Z
theorem pg_of (N : Nat) (h : N = 65536) (Z : List Int) (hZ : Z = List.replicate N 0) (hm : List.replicate ((1 : Int) * 65536).toNat (0 : Int) = Z) : Pg Z := by
  subst hZ
  refine ⟨by rw [List.length_replicate]; exact h, Byt.rep N, fun i j hij => ?_, hm⟩
  rw [List.take_replicate, List.drop_replicate]
  congr 1
  omega
variable {Z : List Int} (hZ : Pg Z)
include hZ
theorem mem_len : ∀ i, (mem Z i).length = i * 65536
  | 0 => by simp [mem]
  | i + 1 => by
    have h := mem_len i
    have hz := hZ.len
    rw [mem, splice_length]
    · rw [List.length_append, hz, h]; omega
    · rw [le_length, List.length_append, hz, h]; omega
theorem mem_byt : ∀ i, Byt (mem Z i)
  | 0 => fun x hx => by simp [mem] at hx
  | i + 1 => by
    rw [mem]
    exact ((mem_byt i).append hZ.byt).splice (Byt.le _ _) _
omit hZ in
theorem mid_splice (l : List Int) (i : Nat) (b : List Int) (j n : Nat) (h : j + n ≤ i) (hl : i ≤ l.length) : ((splice l i b).take (j + n)).drop j = (l.take (j + n)).drop j := by
  unfold splice
  rw [List.append_assoc, List.take_append_of_le_length (by rw [List.length_take]; omega), List.take_take, Nat.min_eq_left h]
/-- What page j holds stays. -/
theorem mem_mid (j : Nat) : ∀ i, j < i → ((mem Z i).take (j * 65536 + 5 + 4)).drop (j * 65536 + 5) = le ((j : Int) + 1) 4
  | 0, h => by omega
  | i + 1, h => by
    have hl := mem_len hZ i
    have hz := hZ.len
    rw [mem]
    rcases Nat.lt_or_ge j i with hj | hj
    · rw [mid_splice _ _ _ _ _ (by omega) (by rw [List.length_append, hz, hl]; omega)]
      rw [List.take_append_of_le_length (by rw [hl]; omega)]
      exact mem_mid j i hj
    · obtain rfl : j = i := by omega
      unfold splice
      have h4 := le_length ((j : Int) + 1) 4
      have hlen : ((mem Z j ++ Z).take (j * 65536 + 5)).length = j * 65536 + 5 := by rw [List.length_take, List.length_append, hz, hl]; omega
      rw [List.take_append_of_le_length (by rw [List.length_append, hlen, h4]; omega), List.take_of_length_le (by rw [List.length_append, hlen, h4]; omega), List.drop_append, List.drop_eq_nil_of_le (by omega), hlen, Nat.sub_self, List.drop_zero, List.nil_append]
omit hZ in
theorem zeros_num : ∀ n : Nat, num (List.replicate n 0) = 0
  | 0 => rfl
  | n + 1 => by rw [List.replicate_succ, num, zeros_num n]; rfl
theorem new_zero (l : List Int) (i j : Nat) (h : i + j ≤ 65536) : ((l ++ Z).take (l.length + i + j)).drop (l.length + i) = List.replicate j 0 := by
  rw [List.take_append, List.drop_append, List.take_of_length_le (by omega), List.drop_eq_nil_of_le (by omega), List.nil_append, show l.length + i + j - l.length = i + j from by omega, show l.length + i - l.length = i from by omega]
  exact hZ.zero i j h
omit hZ in
theorem le_mod (v : Int) (h0 : 0 ≤ v) (h1 : v < 16) : num (le v 4) = v := by
  rw [num_le]
  exact Int.emod_eq_of_lt h0 (by have : (2 : Int) ^ (8 * 4) = 4294967296 := by decide
                                 omega)

theorem round1 (i : Nat) (hi : i < 3) (a b c : Int) (L : List S48) (k : Nat) (hk : 20 ≤ k) (M : List Int) (hM : M = mem Z i) : gangwaylaw9_MemGrows.l0 (k + 4) (i : Int) a b c L M 3 = gangwaylaw9_MemGrows.l0 k ((i + 1 : Nat) : Int) a b c L (mem Z (i + 1)) 3 := by
  have hl : M.length = i * 65536 := by rw [hM]; exact mem_len hZ i
  have hBM : Byt M := by rw [hM]; exact mem_byt hZ i
  have hL1 : (M ++ Z).length = (i + 1) * 65536 := by rw [List.length_append, hZ.len, hl]; omega
  have hB1 : Byt (M ++ Z) := hBM.append hZ.byt
  have f1 : Fm ((i : Int) * 65536) 65528 8 := ⟨by omega, by omega, by omega⟩
  have f2 : Fm ((i : Int) * 65536) 5 4 := ⟨by omega, by omega, by omega⟩
  have hz : num (sub (M ++ Z) ((i : Int) * 65536) 65528 8) = 0 := by
    have h := new_zero hZ M 65528 8 (by omega)
    have e1 : ((i : Int) * 65536 + 65528 + 8).toNat = M.length + 65528 + 8 := by omega
    have e2 : ((i : Int) * 65536 + 65528).toNat = M.length + 65528 := by omega
    unfold sub mem_Memory_Load.sub
    rw [e1, e2, h, zeros_num]
  have hg := grow_ok (l := M) (s := 3) (n := 1) (by omega) (by omega) (by omega) (by omega)
  rw [hZ.made] at hg
  have hs := store_ok (M ++ Z) 3 ((i : Int) + 1) f2 (by rw [hL1]; omega)
  have hsp : splice (M ++ Z) ((i : Int) * 65536 + 5).toNat (le ((i : Int) + 1) (4 : Int).toNat) = mem Z (i + 1) := by
    rw [mem, ← hM, show ((i : Int) * 65536 + 5).toNat = i * 65536 + 5 from by omega]
    rfl
  rw [hsp] at hs
  have hld := load_ok 3 hB1 f1 (by rw [hL1]; omega) (k + 1) (by omega)
  rw [hz] at hld
  have hsz := size_eq (l := M ++ Z) 3 (by omega)
  rw [show ((M ++ Z).length : Int) / 65536 = (i : Int) + 1 from by rw [hL1]; omega] at hsz
  have hw1 : wrap64 ((i : Int) + 1) = (i : Int) + 1 := w64 (by omega) (by omega)
  have hw2 : wrap64 ((i : Int) * 65536) = (i : Int) * 65536 := w64 (by omega) (by omega)
  have hw3 : IntKind.u64.wrap ((i : Int) + 1) = (i : Int) + 1 := by rw [wu64, Int.emod_eq_of_lt (by omega) (by omega)]
  have hq : (M.length : Int) / 65536 = (i : Int) := by rw [hl]; omega
  rw [hq] at hg
  clear hM
  generalize hN : mem Z (i + 1) = N at *
  generalize M ++ Z = M1 at *
  simp only [gangwaylaw9_MemGrows.l0]
  rw [if_pos (by omega)]
  simp only [gangwaylaw9_MemGrows.j3]
  refine bs hg (ineg (by omega) ?_)
  show gangwaylaw9_MemGrows.j5 (k + 2) (i : Int) (i : Int) a b c L M1 3 = _
  simp only [gangwaylaw9_MemGrows.j5]
  rw [hw1, hw2, hw3]
  refine bs hld (ip trivial (bs hsz (ip rfl (bs (v := 0) rfl (ip rfl (ip rfl (bs hs (bs (v := 0) rfl ?_))))))))
  show gangwaylaw9_MemGrows.j6 (k + 1) (i : Int) ((0 : Int) != 0) a b c L N 3 = _
  have hb : ((0 : Int) != 0) = false := by decide
  rw [hb]
  simp only [gangwaylaw9_MemGrows.j6, Bool.false_eq_true, if_false]
  rw [hw1]
  rfl
omit hZ in
theorem round2 (M : List Int) (hl : M.length = 3 * 65536) (hB : Byt M) (i : Nat) (hi : i < 3) (h : (M.take (i * 65536 + 5 + 4)).drop (i * 65536 + 5) = le ((i : Int) + 1) 4) (a b c : Int) (L : List S48) (k : Nat) (hk : 20 ≤ k) : gangwaylaw9_MemGrows.l1 (k + 3) (i : Int) a b c L M 3 = gangwaylaw9_MemGrows.l1 k ((i + 1 : Nat) : Int) a b c L M 3 := by
  have f1 : Fm ((i : Int) * 65536 + 5) 0 4 := ⟨by omega, by omega, by omega⟩
  simp only [gangwaylaw9_MemGrows.l1]
  rw [if_pos (by omega)]
  simp only [gangwaylaw9_MemGrows.j9]
  rw [w64 (x := (i : Int) * 65536) (by omega) (by omega), w64 (by omega) (by omega), load_ok 3 hB f1 (by omega) (k + 1) (by omega)]
  simp only [Option.bind_some, gangwaylaw9_num.f, if_true]
  have hz : num (sub M ((i : Int) * 65536 + 5) 0 4) = (i : Int) + 1 := by
    have e1 : ((i : Int) * 65536 + 5 + 0 + 4).toNat = i * 65536 + 5 + 4 := by omega
    have e2 : ((i : Int) * 65536 + 5 + 0).toNat = i * 65536 + 5 := by omega
    simp only [sub, mem_Memory_Load.sub]
    rw [e1, e2, h, le_mod _ (by omega) (by omega)]
  rw [hz, w64 (by omega) (by omega), wu64, Int.emod_eq_of_lt (by omega) (by omega)]
  have hb : (((i : Int) + 1) != ((i : Int) + 1)) = false := by simp
  rw [hb]
  simp only [gangwaylaw9_MemGrows.j10, Bool.false_eq_true, if_false]
  rw [show wrap64 ((i : Int) + 1) = ((i + 1 : Nat) : Int) from by rw [w64 (by omega) (by omega)]; omega]

omit hZ in
theorem end1 (M : List Int) (hl : M.length = 3 * 65536) (a b c : Int) (L : List S48) (k : Nat) (hk : 20 ≤ k) : gangwaylaw9_MemGrows.l0 (k + 4) ((3 : Nat) : Int) a b c L M 3 = gangwaylaw9_MemGrows.l1 k ((0 : Nat) : Int) a b c L M 3 := by
  simp only [gangwaylaw9_MemGrows.l0]
  rw [if_pos (by omega)]
  simp only [gangwaylaw9_MemGrows.j3]
  refine bs (grow_no (l := M) (s := 3) (by omega) (by omega) (by right; rw [hl]; omega)) ?_
  refine ip (by omega) (ip rfl (bs (size_eq (l := M) 3 (by omega)) ?_))
  have hb : ((M.length : Int) / 65536 != 3) = false := by rw [hl]; decide
  show gangwaylaw9_MemGrows.j4 (k + 2) ((M.length : Int) / 65536 != 3) a b c L M 3 = _
  rw [hb]
  simp only [gangwaylaw9_MemGrows.j4, Bool.false_eq_true, if_false, gangwaylaw9_MemGrows.j7]
  rfl
omit hZ in
theorem end2 (M : List Int) (hl : M.length = 3 * 65536) (a b c : Int) (L : List S48) (k : Nat) (hk : 20 ≤ k) : gangwaylaw9_MemGrows.l1 (k + 2) ((3 : Nat) : Int) a b c L M 3 = some true := by
  simp only [gangwaylaw9_MemGrows.l1]
  rw [if_neg (by omega)]
  simp only [gangwaylaw9_MemGrows.j11]
  refine bs (new_form (by omega) k (by omega)) (ineg (by decide) ?_)
  refine bs (new_nospc (by omega) (by omega) (by omega) (by omega) k (by omega)) (ineg (by decide) ?_)
  refine bs (grow_no (l := M) (s := 3) (by omega) (by omega) (by omega)) (ip rfl ?_)
  refine bs (grow_no (l := M) (s := 3) (by omega) (by omega) (by right; rw [hl]; omega)) (ip rfl ?_)
  refine bs (grow_ok (l := M) (s := 3) (by omega) (by omega) (by omega) (by rw [hl]; omega)) (ip (by show (M.length : Int) / 65536 = 3; rw [hl]; omega) ?_)
  refine bs (v := 100) rfl (ip rfl (bs (v := 51) rfl (ip rfl (ip (by omega) (bs (wakes_ok k hk) rfl)))))
theorem main_ (K : Nat) (hK : 20 + 2 + 9 + 4 + 12 + 2 = K) (a b c : Int) (L : List S48) : gangwaylaw9_MemGrows.f K a b c L = some true := by
  have hm : (if (3 : Int) = -1 then (4 : Int) else mn 4 3) = 3 := by decide
  have h0 : List.replicate ((0 : Int) * 65536).toNat (0 : Int) = mem Z 0 := by rw [show ((0 : Int) * 65536).toNat = 0 from by decide]; rfl
  have hn := new_ok (mi := 0) (ma := 3) (li := 4) (by omega) (by omega) (by omega) (by omega) K (by omega)
  rw [hm, h0] at hn
  have hsz := size_eq (l := mem Z 0) 3 (by rw [mem_len hZ]; omega)
  rw [show ((mem Z 0).length : Int) / 65536 = 0 from by rw [mem_len hZ]; decide] at hsz
  obtain ⟨K, rfl⟩ : ∃ m, K = m + 2 := ⟨K - 2, by omega⟩
  have hK' : K = 20 + 2 + 3 + 3 + 3 + 4 + 4 + 4 + 4 := by omega
  have e0 := round1 hZ 0 (by omega) a b c L (20 + 2 + 3 + 3 + 3 + 4 + 4 + 4) (by omega) (mem Z 0) rfl
  have e1 := round1 hZ 1 (by omega) a b c L (20 + 2 + 3 + 3 + 3 + 4 + 4) (by omega) (mem Z (0 + 1)) rfl
  have e2 := round1 hZ 2 (by omega) a b c L (20 + 2 + 3 + 3 + 3 + 4) (by omega) (mem Z (1 + 1)) rfl
  have hl3 := mem_len hZ (2 + 1)
  have hb3 := mem_byt hZ (2 + 1)
  have e3 := end1 (mem Z (2 + 1)) hl3 a b c L (20 + 2 + 3 + 3 + 3) (by omega)
  have e4 := round2 (mem Z (2 + 1)) hl3 hb3 0 (by omega) (mem_mid hZ 0 (2 + 1) (by omega)) a b c L (20 + 2 + 3 + 3) (by omega)
  have e5 := round2 (mem Z (2 + 1)) hl3 hb3 1 (by omega) (mem_mid hZ 1 (2 + 1) (by omega)) a b c L (20 + 2 + 3) (by omega)
  have e6 := round2 (mem Z (2 + 1)) hl3 hb3 2 (by omega) (mem_mid hZ 2 (2 + 1) (by omega)) a b c L (20 + 2) (by omega)
  have e7 := end2 (mem Z (2 + 1)) hl3 a b c L 20 (by omega)
  generalize mem Z (2 + 1) = M3 at *
  generalize mem Z (1 + 1) = M2 at *
  generalize mem Z (0 + 1) = M1 at *
  generalize mem Z 0 = M0 at *
  have e := e0.trans (e1.trans (e2.trans (e3.trans (e4.trans (e5.trans (e6.trans e7))))))
  rw [← hK'] at e
  clear e0 e1 e2 e3 e4 e5 e6 e7 hK' hK
  unfold gangwaylaw9_MemGrows.f
  refine bs hn (ip rfl (bs (v := 0) rfl (ip rfl (bs hsz ?_))))
  show gangwaylaw9_MemGrows.j0 (K + 2) ((0 : Int) != 0) a b c L M0 3 = _
  have hb : ((0 : Int) != 0) = false := by decide
  rw [hb]
  simp only [gangwaylaw9_MemGrows.j0, gangwaylaw9_MemGrows.j1, Bool.false_eq_true, if_false]
  exact e
end Go.Proofs.Ytjmajhalgdeicaa.QG
namespace Go.Proofs.Ytjmajhalgdeicaa.Pure
open Go.RowKit Go.Proofs.Ytjmajhalgdeicaa.PAll Go.Proofs.Ytjmajhalgdeicaa.QG
theorem MemGrows : gangwaylaw9_MemGrows.Pure := by
  intro x0 _
  exact ⟨20 + 2 + 9 + 4 + 12 + 2, main_ (pg_of _ (by decide) _ rfl rfl) _ rfl _ _ _ _⟩
end Go.Proofs.Ytjmajhalgdeicaa.Pure
