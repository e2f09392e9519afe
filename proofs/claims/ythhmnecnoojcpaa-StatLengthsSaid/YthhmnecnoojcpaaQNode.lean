/- What stat and its reference tell of a node. -/
import Derived.Test.YthhmnecnoojcpaaPAllx13
import Derived.Test.YthhmnecnoojcpaaQKind
namespace Go.Proofs.Ythhmnecnoojcpaa.QNode
open Go.RowKit Go.Proofs.Ythhmnecnoojcpaa.PAll Go.Proofs.YthhmnecnoojcpaaW.PrintWords Go.Proofs.YthhmnecnoojcpaaW.PrintLast Go.Proofs.YthhmnecnoojcpaaW.PrintMore Go.Proofs.YthhmnecnoojcpaaU Go.Proofs.Ythhmnecnoojcpaa.Q Go.Proofs.Ythhmnecnoojcpaa.QKind
set_option linter.unusedVariables false

def nsize (a : Int) (l1 : List Int) (l2 : List S93) (s : ByteArray) : Int := if a = 1 then (l1.length : Int) else if a = 3 then (s.size : Int) else (l2.length : Int)
def MayN (a n : Int) : Prop := (a ≥ 1 ∧ a ≤ 3) ∧ n ≥ 0 ∧ n < 64
instance (a n : Int) : Decidable (MayN a n) := by unfold MayN; infer_instance
def noB (t links size time node : Int) : List Int :=
  splice (splice (splice (splice (splice (splice (splice (List.replicate 64 0) 8 (le node 8)) 16 (le t 1)) 24 (le links 8)) 32 (le size 8)) 40 (le time 8)) 48 (le time 8)) 56 (le time 8)

theorem sp64 (b : List Int) (hb : b.length = 64) (i : Nat) (v : Int) (n : Nat) (h : i + n ≤ 64) : (splice b i (le v n)).length = 64 := by
  rw [splice_length (by rw [le_length]; omega), hb]
theorem set64 (b : List Int) (hb : b.length = 64) (i : Nat) (v : Int) (n : Nat) (hn : n ≤ 8) (h : i + n ≤ 64) (k : Nat) (hk : 9 ≤ k) : stat_field_set.f k b (i : Int) (n : Int) v = some (splice b i (le v n)) :=
  set_ev b i v n hn (by omega) (by omega) k hk
theorem put64 (b : List Int) (hb : b.length = 64) (i : Nat) (v : Int) (n : Nat) (hn : n ≤ 8) (h : i + n ≤ 64) (k : Nat) (hk : 9 ≤ k) : gangwayref20_put.f k b (i : Int) (le v n) = some (splice b i (le v n)) :=
  put_ev b i (le v n) (by rw [le_length]; omega) (by omega) k (by rw [le_length]; omega)
theorem little64 (v : Int) (k : Nat) (hk : 9 ≤ k) : gangwayref20_Little.f k (IntKind.u64.wrap v) 8 = some (le v 8) := by
  have h : gangwayref20_Little.f k _ 8 = _ := little_ev (v % 18446744073709551616) 8 (by omega) k hk
  rw [le_wrap _ _ (by omega)] at h
  rw [wu64]
  exact h
theorem noB_length (t links size time node : Int) : (noB t links size time node).length = 64 := by
  unfold noB
  exact sp64 _ (sp64 _ (sp64 _ (sp64 _ (sp64 _ (sp64 _ (sp64 _ (by simp) 8 node 8 (by omega)) 16 t 1 (by omega)) 24 links 8 (by omega)) 32 size 8 (by omega)) 40 time 8 (by omega)) 48 time 8 (by omega)) 56 time 8 (by omega)

theorem size_ev (a : Int) (l1 : List Int) (l2 : List S93) (s : ByteArray) (x y : Int) : stat_size.f a l1 l2 s x y = some (nsize a l1 l2 s) := by
  unfold stat_size.f nsize
  by_cases h : a = 1 <;> by_cases h2 : a = 3 <;> simp [h, h2]

theorem filestat_ok (a : Int) (l1 : List Int) (l2 : List S93) (s : ByteArray) (links time node : Int) (k : Nat) (hk : 10 ≤ k) :
    stat_Filestat.j0 k node false a l1 l2 s links time = some (noB (nodeT a) links (nsize a l1 l2 s) time node, 0) := by
  obtain ⟨k, rfl⟩ : ∃ m, k = m + 1 := ⟨k - 1, by omega⟩
  have h0 : stat_fresh.f 64 = some (List.replicate 64 0) := fresh_eq 64 (by omega)
  have b0 : (List.replicate 64 (0 : Int)).length = 64 := by simp
  unfold noB
  generalize List.replicate 64 (0 : Int) = z at h0 b0 ⊢
  have h1 : stat_field_set.f k z 8 8 node = _ := set64 z b0 8 node 8 (by omega) (by omega) k (by omega)
  have b1 := sp64 z b0 8 node 8 (by omega)
  have h2 : stat_field_set.f k _ 16 1 (nodeT a) = _ := set64 _ b1 16 (nodeT a) 1 (by omega) (by omega) k (by omega)
  have b2 := sp64 _ b1 16 (nodeT a) 1 (by omega)
  have h3 : stat_field_set.f k _ 24 8 links = _ := set64 _ b2 24 links 8 (by omega) (by omega) k (by omega)
  have b3 := sp64 _ b2 24 links 8 (by omega)
  have h4 : stat_field_set.f k _ 32 8 (nsize a l1 l2 s) = _ := set64 _ b3 32 (nsize a l1 l2 s) 8 (by omega) (by omega) k (by omega)
  have b4 := sp64 _ b3 32 (nsize a l1 l2 s) 8 (by omega)
  have h5 : stat_field_set.f k _ 40 8 time = _ := set64 _ b4 40 time 8 (by omega) (by omega) k (by omega)
  have b5 := sp64 _ b4 40 time 8 (by omega)
  have h6 : stat_field_set.f k _ 48 8 time = _ := set64 _ b5 48 time 8 (by omega) (by omega) k (by omega)
  have b6 := sp64 _ b5 48 time 8 (by omega)
  have h7 : stat_field_set.f k _ 56 8 time = _ := set64 _ b6 56 time 8 (by omega) (by omega) k (by omega)
  have r0 : rd ([40, 48, 56] : List Int) 0 = 40 := rfl
  have r1 : rd ([40, 48, 56] : List Int) 1 = 48 := rfl
  have r2 : rd ([40, 48, 56] : List Int) 2 = 56 := rfl
  simp only [stat_Filestat.j0]
  rw [if_neg (by simp), h0, Option.bind_some, h1, Option.bind_some, nodeType_ev, Option.bind_some, h2, Option.bind_some, h3, Option.bind_some, size_ev, Option.bind_some, h4, Option.bind_some, Option.bind_some,
    if_pos (by simp), r0, h5, Option.bind_some, if_pos (by simp), r1, h6, Option.bind_some, if_pos (by simp), r2, h7, Option.bind_some, if_neg (by simp)]

theorem filestat_ev (a : Int) (l1 : List Int) (l2 : List S93) (s : ByteArray) (links time node : Int) (k : Nat) (hk : 10 ≤ k) :
    stat_Filestat.f k a l1 l2 s links time node = some (if decide (MayN a node) then (noB (nodeT a) links (nsize a l1 l2 s) time node, 0) else ([], 100)) := by
  unfold stat_Filestat.f
  rw [kind_ev, Option.bind_some]
  have no : stat_Filestat.j0 k node true a l1 l2 s links time = some ([], 100) := by
    obtain ⟨k, rfl⟩ : ∃ m, k = m + 1 := ⟨k - 1, by omega⟩
    rfl
  unfold MayN
  by_cases h : a ≥ 1 ∧ a ≤ 3
  · rw [if_pos (by simpa using h)]
    by_cases h2 : node < 0
    · rw [if_pos h2, no, if_neg (by simp; omega)]
    · rw [if_neg h2]
      by_cases h3 : node ≥ 64
      · rw [show decide (node ≥ 64) = true by simpa using h3, no, if_neg (by simp; omega)]
      · rw [show decide (node ≥ 64) = false by simpa using h3, filestat_ok _ _ _ _ _ _ _ k hk, if_pos (by simp; omega)]
  · rw [if_neg (by simpa using h), no, if_neg (by simp; omega)]

theorem ref_l0 (b : List Int) (hb : b.length = 64) (a : Int) (l1 : List Int) (l2 : List S93) (s : ByteArray) (links time : Int) (k : Nat) (hk : 13 ≤ k) :
    gangwayref20_Filestat.l0 k b 40 a l1 l2 s links time = some (splice (splice (splice b 40 (le time 8)) 48 (le time 8)) 56 (le time 8)) := by
  obtain ⟨k, rfl⟩ : ∃ m, k = m + 4 := ⟨k - 4, by omega⟩
  have h5 : gangwayref20_put.f (k + 3) _ 40 _ = _ := put64 b hb 40 time 8 (by omega) (by omega) (k + 3) (by omega)
  have b5 := sp64 _ hb 40 time 8 (by omega)
  have h6 : gangwayref20_put.f (k + 2) _ 48 _ = _ := put64 _ b5 48 time 8 (by omega) (by omega) (k + 2) (by omega)
  have b6 := sp64 _ b5 48 time 8 (by omega)
  have h7 : gangwayref20_put.f (k + 1) _ 56 _ = _ := put64 _ b6 56 time 8 (by omega) (by omega) (k + 1) (by omega)
  have w0 : wrap64 (40 + 8) = 48 := by have h := w64 (x := 40 + 8) (by omega) (by omega); rw [h]; decide
  have w1 : wrap64 (48 + 8) = 56 := by have h := w64 (x := 48 + 8) (by omega) (by omega); rw [h]; decide
  have w2 : wrap64 (56 + 8) = 64 := by have h := w64 (x := 56 + 8) (by omega) (by omega); rw [h]; decide
  simp only [gangwayref20_Filestat.l0]
  rw [if_pos (by omega), little64 _ _ (by omega), Option.bind_some, h5, Option.bind_some, w0, if_pos (by omega), little64 _ _ (by omega), Option.bind_some, h6, Option.bind_some, w1, if_pos (by omega), little64 _ _ (by omega), Option.bind_some, h7, Option.bind_some, w2, if_neg (by omega)]

theorem ref_j0 (b : List Int) (hb : b.length = 64) (size a : Int) (l1 : List Int) (l2 : List S93) (s : ByteArray) (links time : Int) (k : Nat) (hk : 14 ≤ k) :
    gangwayref20_Filestat.j0 k b size a l1 l2 s links time = some (splice (splice (splice (splice b 32 (le size 8)) 40 (le time 8)) 48 (le time 8)) 56 (le time 8)) := by
  obtain ⟨k, rfl⟩ : ∃ m, k = m + 1 := ⟨k - 1, by omega⟩
  have h5 : gangwayref20_put.f k _ 32 _ = _ := put64 b hb 32 size 8 (by omega) (by omega) k (by omega)
  have b5 := sp64 _ hb 32 size 8 (by omega)
  simp only [gangwayref20_Filestat.j0]
  rw [little64 _ _ (by omega), Option.bind_some, h5, Option.bind_some]
  exact ref_l0 _ b5 a l1 l2 s links time k (by omega)

def refSize (a : Int) (l1 : List Int) (l2 : List S93) (s : ByteArray) : Int := if a = 2 then (l2.length : Int) else if a = 3 then (s.size : Int) else (l1.length : Int)
theorem ref_ev (a : Int) (l1 : List Int) (l2 : List S93) (s : ByteArray) (links time node : Int) (k : Nat) (hk : 14 ≤ k) :
    gangwayref20_Filestat.f k a l1 l2 s links time node = some (noB (refT a) links (refSize a l1 l2 s) time node) := by
  have b0 : (List.replicate 64 (0 : Int)).length = 64 := by simp
  unfold gangwayref20_Filestat.f noB
  generalize List.replicate 64 (0 : Int) = z at b0 ⊢
  have h1 : gangwayref20_put.f k z 8 _ = _ := put64 z b0 8 node 8 (by omega) (by omega) k (by omega)
  have b1 := sp64 z b0 8 node 8 (by omega)
  have b2 := sp64 _ b1 16 (refT a) 1 (by omega)
  have h3 : gangwayref20_put.f k _ 24 _ = _ := put64 _ b2 24 links 8 (by omega) (by omega) k (by omega)
  have b3 := sp64 _ b2 24 links 8 (by omega)
  have e : (splice z 8 (le node 8)).set (16 : Int).toNat (refT a) = splice (splice z 8 (le node 8)) 16 (le (refT a) 1) := by
    rw [refT_le]
    exact splice_one (refT a) (by omega)
  rw [Option.bind_some, little64 _ _ (by omega), Option.bind_some, h1, Option.bind_some, filetype_ev, Option.bind_some, if_pos (by omega), little64 _ _ (by omega), Option.bind_some, e, h3, Option.bind_some]
  unfold refSize
  split
  · exact ref_j0 _ b3 _ _ _ _ _ _ _ k hk
  · split
    · exact ref_j0 _ b3 _ _ _ _ _ _ _ k hk
    · exact ref_j0 _ b3 _ _ _ _ _ _ _ k hk

theorem same (a n : Int) (l1 : List Int) (l2 : List S93) (s : ByteArray) (h : MayN a n) : nodeT a = refT a ∧ nsize a l1 l2 s = refSize a l1 l2 s := by
  obtain ⟨⟨h1, h2⟩, _⟩ := h
  have : a = 1 ∨ a = 2 ∨ a = 3 := by omega
  rcases this with rfl | rfl | rfl <;> exact ⟨rfl, rfl⟩

end Go.Proofs.Ythhmnecnoojcpaa.QNode
