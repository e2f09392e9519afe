/- Just the bytes that are there are read and written, each width up to the last one; what lies half beyond is refused: for every script. -/
import Derived.Test.YtjmajhalgdeicaaPAllx4
import Derived.Test.YtjmajhalgdeicaaQMem
namespace Go.Proofs.Ytjmajhalgdeicaa.QB
open Go.RowKit Go.Proofs.Ytjmajhalgdeicaa.PAll Go.Proofs.YtjmajhalgdeicaaW.PrintWords Go.Proofs.YtjmajhalgdeicaaW.PrintLast Go.Proofs.YtjmajhalgdeicaaW.PrintMore Go.Proofs.YtjmajhalgdeicaaU Go.Proofs.Ytjmajhalgdeicaa.Q
set_option linter.unusedVariables false

theorem code_ne (x : Int) : (((if x ≤ 0 then (0 : Int) else 21) == 0) != (decide (x ≤ 0))) = false := by
  by_cases h : x ≤ 0 <;> simp [h]

theorem step (w x : Int) (hw : w = 1 ∨ w = 2 ∨ w = 4 ∨ w = 8) (hx : -2 ≤ x ∧ x ≤ 2) (l : List Int) (hl : l.length = 65536) (hB : Byt l) (k : Nat) (hk : 20 ≤ k) :
    ∃ l1 : List Int, l1.length = 65536 ∧ Byt l1 ∧ mem_Memory_Store.f l 1 (65536 - w + x) 0 w 0 = some (if x ≤ 0 then 0 else 21, l1, 1) ∧
      (∃ v, mem_Memory_Load.f k l1 1 0 (65536 - w + x) w = some (v, if x ≤ 0 then 0 else 21, l1, 1)) ∧
      (∃ b, mem_Memory_Read.f l1 1 (65536 - w + x) w = some (b, if x ≤ 0 then 0 else 21, l1, 1)) ∧
      ∃ l2 : List Int, l2.length = 65536 ∧ Byt l2 ∧ mem_Memory_Write.f l1 1 (65536 - w + x) (List.replicate w.toNat 0) = some (if x ≤ 0 then 0 else 21, l2, 1) := by
  have f1 : Fm (65536 - w + x) 0 w := ⟨hw, by omega, by omega⟩
  have f2 : Fm 0 (65536 - w + x) w := ⟨hw, by omega, by omega⟩
  by_cases h : x ≤ 0
  · simp only [if_pos h]
    have hin : 65536 - w + x + 0 + w ≤ (l.length : Int) := by omega
    have hl1 := store_len (l := l) 0 f1 hin
    have hB1 : Byt (splice l (65536 - w + x + 0).toNat (le 0 w.toNat)) := hB.splice (Byt.le _ _) _
    generalize hg : splice l (65536 - w + x + 0).toNat (le 0 w.toNat) = l1 at *
    refine ⟨l1, by omega, hB1, ?_, ⟨_, load_ok 1 hB1 f2 (by omega) k (by omega)⟩, ⟨_, read_ok 1 (by omega) (by omega)⟩, _, ?_, hB1.splice (Byt.rep w.toNat) (65536 - w + x).toNat, write_ok l1 1 ?_⟩
    · rw [store_ok l 1 0 f1 hin, hg]
    · rw [splice_length (by rw [List.length_replicate]; omega)]
      omega
    · rw [List.length_replicate]
      omega
  · simp only [if_neg h]
    refine ⟨l, hl, hB, store_fault l 1 0 f1 (by omega), ⟨_, load_fault l 1 f2 (by omega) k (by omega)⟩, ⟨_, read_fault 1 (by omega) (by omega)⟩, l, hl, hB, write_fault l 1 ?_⟩
    rw [List.length_replicate]
    omega

theorem l1_all (x6 w a b c : Int) (L : List S48) (hw : w = 1 ∨ w = 2 ∨ w = 4 ∨ w = 8) (k : Nat) (hk : 20 ≤ k) :
    ∀ (d : Nat), d ≤ 5 → ∀ (l : List Int), l.length = 65536 → Byt l → ∃ l' : List Int, l'.length = 65536 ∧ Byt l' ∧ gangwaylaw9_MemBounds.l1 (k + 1 + d) x6 w (3 - (d : Int)) a b c L l 1 = gangwaylaw9_MemBounds.l0 k (wrap64 (x6 + 1)) a b c L l' 1 := by
  intro d
  induction d with
  | zero =>
    intro _ l hl hB
    refine ⟨l, hl, hB, ?_⟩
    simp only [gangwaylaw9_MemBounds.l1]
    rw [if_neg (by omega)]
  | succ d ih =>
    intro hd l hl hB
    obtain ⟨l1, hl1, hB1, e1, ⟨v, e2⟩, ⟨bs, e3⟩, l2, hl2, hB2, e4⟩ := step w (3 - ((d + 1 : Nat) : Int)) hw (by omega) l hl hB (k + 1 + d) (by omega)
    obtain ⟨l', hl', hB', e5⟩ := ih (by omega) l2 hl2 hB2
    refine ⟨l', hl', hB', ?_⟩
    rw [show k + 1 + (d + 1) = (k + 1 + d) + 1 by omega]
    simp only [gangwaylaw9_MemBounds.l1]
    rw [if_pos (by omega), w64 (x := 65536 - w) (by omega) (by omega), w64 (x := 65536 - w + _) (by omega) (by omega), e1]
    simp only [Option.bind_some]
    rw [e2]
    simp only [Option.bind_some]
    rw [e3]
    simp only [Option.bind_some]
    rw [if_pos (by omega), if_pos (by omega), e4]
    simp only [Option.bind_some, gangwaylaw9_num.f]
    rw [code_ne, if_neg (by decide), if_neg (by decide), if_neg (by decide), if_neg (by decide), w64 (by omega) (by omega), show (3 - ((d + 1 : Nat) : Int) + 1) = 3 - (d : Int) by omega]
    exact e5

theorem end_ (a b c : Int) (L : List S48) (k : Nat) (hk : 20 ≤ k) (l : List Int) (hl : l.length = 65536) (hB : Byt l) : gangwaylaw9_MemBounds.l0 (k + 1) 4 a b c L l 1 = some true := by
  simp only [gangwaylaw9_MemBounds.l0]
  rw [if_neg (by omega), read_ok 1 (by omega) (by omega)]
  simp only [Option.bind_some]
  rw [read_fault 1 (by omega) (by omega)]
  simp only [Option.bind_some]
  rw [load_form l 1 (by unfold Fm mem_Memory_Load.form; omega) k (by omega)]
  simp only [Option.bind_some, gangwaylaw9_num.f, if_true]
  rw [if_pos (by simp), if_pos (by omega), wakes_ok k hk]
  simp only [Option.bind_some]

theorem shl1 (i : Int) (h : i = 0 ∨ i = 1 ∨ i = 2 ∨ i = 3) : shl .i64 1 i = 1 ∨ shl .i64 1 i = 2 ∨ shl .i64 1 i = 4 ∨ shl .i64 1 i = 8 := by
  rcases h with rfl | rfl | rfl | rfl <;> decide

theorem l0_all (a b c : Int) (L : List S48) : ∀ (d : Nat), d ≤ 4 → ∀ (l : List Int), l.length = 65536 → Byt l → ∀ k, 20 ≤ k → gangwaylaw9_MemBounds.l0 (k + 1 + 8 * d) (4 - (d : Int)) a b c L l 1 = some true := by
  intro d
  induction d with
  | zero =>
    intro _ l hl hB k hk
    have e := end_ a b c L k hk l hl hB
    rw [show k + 1 + 8 * 0 = k + 1 from by omega, show (4 - ((0 : Nat) : Int)) = 4 from by omega]
    exact e
  | succ d ih =>
    intro hd l hl hB k hk
    obtain ⟨l', hl', hB', e⟩ := l1_all (4 - ((d + 1 : Nat) : Int)) (shl .i64 1 (4 - ((d + 1 : Nat) : Int))) a b c L (shl1 _ (by omega)) (k + 2 + 8 * d) (by omega) 5 (by omega) l hl hB
    rw [show k + 1 + 8 * (d + 1) = (k + 2 + 8 * d + 1 + 5) + 1 by omega]
    simp only [gangwaylaw9_MemBounds.l0]
    rw [if_pos (by omega), if_pos (by omega)]
    rw [show (3 - ((5 : Nat) : Int)) = -2 by omega] at e
    rw [e, w64 (by omega) (by omega), show (4 - ((d + 1 : Nat) : Int) + 1) = 4 - (d : Int) by omega, show k + 2 + 8 * d = (k + 1) + 1 + 8 * d by omega]
    exact ih (by omega) l' hl' hB' (k + 1) (by omega)
end Go.Proofs.Ytjmajhalgdeicaa.QB
namespace Go.Proofs.Ytjmajhalgdeicaa.Pure
open Go.RowKit Go.Proofs.Ytjmajhalgdeicaa.PAll Go.Proofs.YtjmajhalgdeicaaW.PrintWords Go.Proofs.YtjmajhalgdeicaaW.PrintLast Go.Proofs.YtjmajhalgdeicaaW.PrintMore Go.Proofs.YtjmajhalgdeicaaU Go.Proofs.Ytjmajhalgdeicaa.Q Go.Proofs.Ytjmajhalgdeicaa.QB
theorem main_ (K : Nat) (hK : 20 + 1 + 8 * 4 = K) (a b c : Int) (L : List S48) (N : Nat) (hN : ((1 : Int) * 65536).toNat = N) (hN2 : N = 65536) : gangwaylaw9_MemBounds.f K a b c L = some true := by
  have hL : (List.replicate N (0 : Int)).length = 65536 := by rw [List.length_replicate]; exact hN2
  have hB := Byt.rep N
  unfold gangwaylaw9_MemBounds.f
  rw [new_ok (by omega) (by omega) (by omega) (by omega) _ (by omega), hN]
  generalize List.replicate N (0 : Int) = l0 at *
  simp only [Option.bind_some, if_true, gangwaylaw9_num.f]
  have hm : (if (1 : Int) = -1 then (1 : Int) else mn 1 1) = 1 := by decide
  rw [hm]
  have e := l0_all a b c L 4 (by omega) l0 hL hB 20 (by omega)
  rw [show (4 - ((4 : Nat) : Int)) = 0 from by omega, hK] at e
  exact e
theorem MemBounds : gangwaylaw9_MemBounds.Pure := by
  intro x0 _
  exact ⟨20 + 1 + 8 * 4, main_ _ rfl _ _ _ _ _ rfl (by decide)⟩
end Go.Proofs.Ytjmajhalgdeicaa.Pure
