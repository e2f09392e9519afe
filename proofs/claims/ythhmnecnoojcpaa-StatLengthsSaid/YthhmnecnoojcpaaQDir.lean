/- What stat and its reference tell of an entry of a directory. -/
import Derived.Test.YthhmnecnoojcpaaPAllx5
import Derived.Test.YthhmnecnoojcpaaQKind
namespace Go.Proofs.Ythhmnecnoojcpaa.QDir
open Go.RowKit Go.Proofs.Ythhmnecnoojcpaa.PAll Go.Proofs.YthhmnecnoojcpaaW.PrintWords Go.Proofs.YthhmnecnoojcpaaW.PrintLast Go.Proofs.YthhmnecnoojcpaaW.PrintMore Go.Proofs.YthhmnecnoojcpaaU Go.Proofs.Ythhmnecnoojcpaa.Q Go.Proofs.Ythhmnecnoojcpaa.QKind
set_option linter.unusedVariables false

def MayD (next at_ a : Int) : Prop := next ≥ 0 ∧ at_ ≥ 0 ∧ a ≥ 1 ∧ a ≤ 3
instance (next at_ a : Int) : Decidable (MayD next at_ a) := by unfold MayD; infer_instance
def headB (t next at_ : Int) (s : ByteArray) : List Int := splice (splice (splice (splice (List.replicate 24 0) 0 (le next 8)) 8 (le at_ 8)) 16 (le (s.size : Int) 4)) 20 (le t 1)
def dirB (t next at_ : Int) (s : ByteArray) : List Int := headB t next at_ s ++ bytesOf s

theorem bytesOf_length (s : ByteArray) : (bytesOf s).length = s.size := by simp [bytesOf]
theorem headB_length (t next at_ : Int) (s : ByteArray) : (headB t next at_ s).length = 24 := by
  unfold headB
  simp [splice, le_length]
theorem dirB_length (t next at_ : Int) (s : ByteArray) : (dirB t next at_ s).length = 24 + s.size := by
  unfold dirB
  rw [List.length_append, headB_length, bytesOf_length]

theorem sp24 (b : List Int) (hb : b.length = 24) (i : Nat) (v : Int) (n : Nat) (h : i + n ≤ 24) : (splice b i (le v n)).length = 24 := by
  rw [splice_length (by rw [le_length]; omega), hb]
theorem set24 (b : List Int) (hb : b.length = 24) (i : Nat) (v : Int) (n : Nat) (hn : n ≤ 8) (h : i + n ≤ 24) (k : Nat) (hk : 9 ≤ k) : stat_field_set.f k b (i : Int) (n : Int) v = some (splice b i (le v n)) :=
  set_ev b i v n hn (by omega) (by omega) k hk
theorem put24 (b : List Int) (hb : b.length = 24) (i : Nat) (v : Int) (n : Nat) (hn : n ≤ 8) (h : i + n ≤ 24) (k : Nat) (hk : 9 ≤ k) : gangwayref20_put.f k b (i : Int) (le v n) = some (splice b i (le v n)) :=
  put_ev b i (le v n) (by rw [le_length]; omega) (by omega) k (by rw [le_length]; omega)
theorem littleN (v : Int) (n : Nat) (hn : n ≤ 8) (k : Nat) (hk : 9 ≤ k) : gangwayref20_Little.f k (IntKind.u64.wrap v) (n : Int) = some (le v n) := by
  have h := little_ev (v % 18446744073709551616) n hn k hk
  rw [le_wrap _ _ hn] at h
  rw [wu64]
  exact h

theorem dirent_ev (next at_ a : Int) (s : ByteArray) (hs : s.size ≤ 140737488351232) (k : Nat) (hk : 10 ≤ k) :
    stat_Dirent.f k next at_ s a = some (if decide (MayD next at_ a) then (dirB (nodeT a) next at_ s, 0) else ([], 100)) := by
  obtain ⟨k, rfl⟩ : ∃ m, k = m + 1 := ⟨k - 1, by omega⟩
  have no : stat_Dirent.j0 (k + 1) next at_ s a true = some ([], 100) := by
    simp only [stat_Dirent.j0, if_true]
  have yes : stat_Dirent.j0 (k + 1) next at_ s a false = some (dirB (nodeT a) next at_ s, 0) := by
    have h0 : stat_fresh.f 24 = some (List.replicate 24 0) := fresh_eq 24 (by omega)
    have b0 : (List.replicate 24 (0 : Int)).length = 24 := by simp
    have hl := headB_length (nodeT a) next at_ s
    unfold dirB
    unfold headB at hl ⊢
    generalize List.replicate 24 (0 : Int) = z at h0 b0 hl ⊢
    have h1 : stat_field_set.f k z 0 8 next = _ := set24 z b0 0 next 8 (by omega) (by omega) k (by omega)
    have b1 := sp24 z b0 0 next 8 (by omega)
    have h2 : stat_field_set.f k _ 8 8 at_ = _ := set24 _ b1 8 at_ 8 (by omega) (by omega) k (by omega)
    have b2 := sp24 _ b1 8 at_ 8 (by omega)
    have h3 : stat_field_set.f k _ 16 4 (s.size : Int) = _ := set24 _ b2 16 (s.size : Int) 4 (by omega) (by omega) k (by omega)
    have b3 := sp24 _ b2 16 (s.size : Int) 4 (by omega)
    have h4 : stat_field_set.f k _ 20 1 (nodeT a) = _ := set24 _ b3 20 (nodeT a) 1 (by omega) (by omega) k (by omega)
    simp only [stat_Dirent.j0]
    rw [if_neg (by simp), h0, Option.bind_some, h1, Option.bind_some, h2, Option.bind_some, h3, Option.bind_some, nodeType_ev, Option.bind_some, h4, Option.bind_some, if_pos (by rw [hl]; omega)]
  unfold stat_Dirent.f MayD
  by_cases h : next < 0
  · rw [if_pos h, no, if_neg (by simp; omega)]
  rw [if_neg h]
  by_cases h2 : at_ < 0
  · rw [if_pos h2, no, if_neg (by simp; omega)]
  rw [if_neg h2, kind_ev, Option.bind_some]
  by_cases h3 : a ≥ 1 ∧ a ≤ 3
  · rw [decide_eq_true h3, Bool.not_true, yes, if_pos (by simp; omega)]
  · rw [decide_eq_false h3, Bool.not_false, no, if_neg (by simp; omega)]

theorem refDirent_ev (next at_ a : Int) (s : ByteArray) (hs : s.size ≤ 140737488351232) (k : Nat) (hk : 10 ≤ k) : gangwayref20_Dirent.f k next at_ s a = some (dirB (refT a) next at_ s) := by
  have b0 : (List.replicate 24 (0 : Int)).length = 24 := by simp
  have hl := headB_length (refT a) next at_ s
  unfold gangwayref20_Dirent.f dirB
  unfold headB at hl ⊢
  generalize List.replicate 24 (0 : Int) = z at b0 hl ⊢
  have l1 : gangwayref20_Little.f k (IntKind.u64.wrap next) 8 = _ := littleN next 8 (by omega) k (by omega)
  have l2 : gangwayref20_Little.f k (IntKind.u64.wrap at_) 8 = _ := littleN at_ 8 (by omega) k (by omega)
  have l3 : gangwayref20_Little.f k (IntKind.u64.wrap (s.size : Int)) 4 = _ := littleN (s.size : Int) 4 (by omega) k (by omega)
  have h1 : gangwayref20_put.f k z 0 _ = _ := put24 z b0 0 next 8 (by omega) (by omega) k (by omega)
  have b1 := sp24 z b0 0 next 8 (by omega)
  have h2 : gangwayref20_put.f k _ 8 _ = _ := put24 _ b1 8 at_ 8 (by omega) (by omega) k (by omega)
  have b2 := sp24 _ b1 8 at_ 8 (by omega)
  have h3 : gangwayref20_put.f k _ 16 _ = _ := put24 _ b2 16 (s.size : Int) 4 (by omega) (by omega) k (by omega)
  have b3 := sp24 _ b2 16 (s.size : Int) 4 (by omega)
  have e : (splice (splice (splice z 0 (le next 8)) 8 (le at_ 8)) 16 (le (s.size : Int) 4)).set (20 : Int).toNat (refT a) = splice (splice (splice (splice z 0 (le next 8)) 8 (le at_ 8)) 16 (le (s.size : Int) 4)) 20 (le (refT a) 1) := by
    rw [refT_le]
    exact splice_one (refT a) (by omega)
  rw [Option.bind_some, l1, Option.bind_some, h1, Option.bind_some, l2, Option.bind_some, h2, Option.bind_some, l3, Option.bind_some, h3, Option.bind_some, filetype_ev, Option.bind_some, if_pos (by omega), Option.bind_some, e, if_pos (by omega), Option.bind_some,
    if_pos (by rw [hl, bytesOf_length]; omega)]

theorem sameT (a : Int) (h : a ≥ 1 ∧ a ≤ 3) : nodeT a = refT a := by
  have : a = 1 ∨ a = 2 ∨ a = 3 := by omega
  rcases this with rfl | rfl | rfl <;> rfl

theorem dirIs (next at_ a : Int) (s : ByteArray) (hs : s.size ≤ 140737488351232) (ok : Bool) (hok : ok = decide (MayD next at_ a)) (k : Nat) (hk : 25 + s.size ≤ k) :
    gangwaylaw20_is.f k (if decide (MayD next at_ a) then (dirB (nodeT a) next at_ s, 0) else (([] : List Int), (100 : Int))).1 (if decide (MayD next at_ a) then (dirB (nodeT a) next at_ s, 0) else (([] : List Int), (100 : Int))).2 ok (dirB (refT a) next at_ s) = some true := by
  subst hok
  by_cases h : MayD next at_ a
  · simp only [h, decide_true, if_true, sameT a h.2.2]
    exact is_ev _ _ _ _ (by rw [dirB_length]; omega) k (by rw [dirB_length]; omega) ⟨rfl, rfl⟩
  · simp only [h, decide_false, Bool.false_eq_true, if_false]
    exact is_ev _ _ _ _ (by simp) k (by simp; omega) ⟨rfl, rfl⟩

end Go.Proofs.Ythhmnecnoojcpaa.QDir
