/- What stat and its reference tell of a descriptor. -/
import Derived.Test.YthhmnecnoojcpaaPAllx10
import Derived.Test.YthhmnecnoojcpaaPAllx11
import Derived.Test.YthhmnecnoojcpaaQSet
namespace Go.Proofs.Ythhmnecnoojcpaa.QFd
open Go.RowKit Go.Proofs.Ythhmnecnoojcpaa.PAll Go.Proofs.YthhmnecnoojcpaaW.PrintWords Go.Proofs.YthhmnecnoojcpaaW.PrintLast Go.Proofs.YthhmnecnoojcpaaW.PrintMore Go.Proofs.YthhmnecnoojcpaaU Go.Proofs.Ythhmnecnoojcpaa.Q
set_option linter.unusedVariables false

def MayFd (a0 a1 a2 a3 a4 a5 : Int) (s : ByteArray) : Prop :=
  (a0 ≥ 1 ∧ a0 ≤ 5) ∧ a1 ≥ 0 ∧ a1 < 64 ∧ a2 ≥ 0 ∧ a2 ≤ 4611686018427387904 ∧ a3 ≥ 0 ∧ a3 ≤ 31 ∧ (a4 ≥ 0 ∧ a4 ≤ 1073741823) ∧ (a5 ≥ 0 ∧ a5 ≤ 1073741823) ∧ (s.toList = ([] : List UInt8) ∨ a0 = 4)
instance (a0 a1 a2 a3 a4 a5 : Int) (s : ByteArray) : Decidable (MayFd a0 a1 a2 a3 a4 a5 s) := by unfold MayFd; infer_instance

theorem rmay (a : Int) : rights_May.f a = some (decide (a ≥ 0 ∧ a ≤ 1073741823)) := by
  unfold rights_May.f rights_set_may.f
  have : (if a ≥ 0 then (some (decide (a ≤ 1073741823))) else some false) = some (decide (a ≥ 0 ∧ a ≤ 1073741823)) := ite_dec fun _ => rfl
  rw [this]
  rfl
theorem rmay17 (a : Int) : gangwayref17_May.f a = some (decide (a ≥ 0 ∧ a ≤ 1073741823)) := by
  unfold gangwayref17_May.f
  exact ite_dec fun _ => rfl
theorem fdsMay (a0 a1 a2 a3 a4 a5 : Int) (s : ByteArray) : fds_May.f a0 a1 a2 a3 a4 a5 s = some (decide (MayFd a0 a1 a2 a3 a4 a5 s)) := by
  unfold fds_May.f
  rw [rmay, rmay]
  unfold MayFd
  refine ite_dec2 fun _ _ => ite_dec fun _ => ite_dec fun _ => ite_dec fun _ => ite_dec fun _ => ite_dec fun _ => ite_dec fun _ => bind_dec fun _ => bind_dec fun _ => ?_
  by_cases h : s.toList = ([] : List UInt8) <;> by_cases h2 : a0 = 4 <;> simp [h, h2]
theorem ref17 (a0 a1 a2 a3 a4 a5 : Int) (s : ByteArray) : gangwayref17_MayFd.f a0 a1 a2 a3 a4 a5 s = some (decide (MayFd a0 a1 a2 a3 a4 a5 s)) := by
  unfold gangwayref17_MayFd.f gangwayref17_Kind.f
  rw [rmay17, rmay17]
  have hk : (if a0 ≥ 1 then (some (decide (a0 ≤ 5))) else some false) = some (decide (a0 ≥ 1 ∧ a0 ≤ 5)) := ite_dec fun _ => rfl
  rw [hk]
  unfold MayFd
  refine bind_dec fun _ => ite_dec fun _ => ite_dec fun _ => ite_dec fun _ => ite_dec fun _ => ite_dec fun _ => ite_dec fun _ => bind_dec fun _ => bind_dec fun _ => ?_
  by_cases h : s.toList = ([] : List UInt8) <;> by_cases h2 : a0 = 4 <;> simp [h, h2]

def fdT (a : Int) : Int := if a = 4 then 3 else if a = 5 then 4 else 2
theorem fdType_eq (a : Int) : stat_fdType.f a = some (fdT a) := by
  unfold stat_fdType.f fdT
  by_cases h : a = 4 <;> by_cases h2 : a = 5 <;> simp [h, h2]

def fdB (t fl r i : Int) : List Int := splice (splice (splice (splice (List.replicate 24 0) 0 (le t 1)) 2 (le fl 2)) 8 (le r 8)) 16 (le i 8)
theorem fdB_length (t fl r i : Int) : (fdB t fl r i).length = 24 := by
  unfold fdB
  simp [splice, le_length]

theorem fdstat_ev (a0 a1 a2 a3 a4 a5 : Int) (s : ByteArray) (k : Nat) (hk : 9 ≤ k) : stat_Fdstat.f k a0 a1 a2 a3 a4 a5 s = some (if decide (MayFd a0 a1 a2 a3 a4 a5 s) then (fdB (fdT a0) a3 a4 a5, 0) else ([], 100)) := by
  unfold stat_Fdstat.f
  rw [fdsMay, fdType_eq, Option.bind_some]
  by_cases h : MayFd a0 a1 a2 a3 a4 a5 s
  · have h0 : stat_fresh.f 24 = some (List.replicate 24 0) := fresh_eq 24 (by omega)
    have h1 : stat_field_set.f k (List.replicate 24 0) 0 1 (fdT a0) = _ := set_ev (List.replicate 24 0) 0 (fdT a0) 1 (by omega) (by simp) (by simp) k hk
    have h2 : stat_field_set.f k _ 2 2 a3 = _ := set_ev (splice (List.replicate 24 0) 0 (le (fdT a0) 1)) 2 a3 2 (by omega) (by simp [splice, le_length]) (by simp [splice, le_length]) k hk
    have h3 : stat_field_set.f k _ 8 8 a4 = _ := set_ev (splice (splice (List.replicate 24 0) 0 (le (fdT a0) 1)) 2 (le a3 2)) 8 a4 8 (by omega) (by simp [splice, le_length]) (by simp [splice, le_length]) k hk
    have h4 : stat_field_set.f k _ 16 8 a5 = _ := set_ev (splice (splice (splice (List.replicate 24 0) 0 (le (fdT a0) 1)) 2 (le a3 2)) 8 (le a4 8)) 16 a5 8 (by omega) (by simp [splice, le_length]) (by simp [splice, le_length]) k hk
    rw [if_pos (by simpa using h), if_pos (by simpa using h), h0, Option.bind_some, Option.bind_some, h1, Option.bind_some, h2, Option.bind_some, h3, Option.bind_some, h4, Option.bind_some]
    rfl
  · rw [if_neg (by simpa using h), if_neg (by simpa using h)]

theorem refFdstat_j1 (b : List Int) (hb : b.length = 24) (a0 a1 a2 a3 a4 a5 : Int) (s : ByteArray) (k : Nat) (hk : 10 ≤ k) : gangwayref20_Fdstat.j1 k b a0 a1 a2 a3 a4 a5 s = some (splice (splice (splice b 2 (le a3 2)) 8 (le a4 8)) 16 (le a5 8)) := by
  obtain ⟨k, rfl⟩ : ∃ m, k = m + 1 := ⟨k - 1, by omega⟩
  have h1 : gangwayref20_Little.f k _ 2 = _ := little_ev (a3 % 18446744073709551616) 2 (by omega) k (by omega)
  have h2 : gangwayref20_Little.f k _ 8 = _ := little_ev (a4 % 18446744073709551616) 8 (by omega) k (by omega)
  have h3 : gangwayref20_Little.f k _ 8 = _ := little_ev (a5 % 18446744073709551616) 8 (by omega) k (by omega)
  rw [le_wrap _ _ (by omega)] at h1 h2 h3
  have p1 : gangwayref20_put.f k b 2 (le a3 2) = _ := put_ev b 2 (le a3 2) (by simp [le_length, hb]) (by omega) k (by rw [le_length]; omega)
  have p2 : gangwayref20_put.f k _ 8 (le a4 8) = _ := put_ev (splice b 2 (le a3 2)) 8 (le a4 8) (by simp [splice, le_length, hb]) (by simp [splice, le_length, hb]) k (by rw [le_length]; omega)
  have p3 : gangwayref20_put.f k _ 16 (le a5 8) = _ := put_ev (splice (splice b 2 (le a3 2)) 8 (le a4 8)) 16 (le a5 8) (by simp [splice, le_length, hb]) (by simp [splice, le_length, hb]) k (by rw [le_length]; omega)
  simp only [gangwayref20_Fdstat.j1, wu64]
  rw [h1, Option.bind_some, p1, Option.bind_some, h2, Option.bind_some, p2, Option.bind_some, h3, Option.bind_some, p3, Option.bind_some]

theorem set0_set0 (b : List Int) (x y : Int) : (b.set (0 : Int).toNat x).set (0 : Int).toNat y = b.set 0 y := by simp
theorem set0_splice (n : Nat) (h : 0 < n) (x : Int) (hx : 0 ≤ x) (h2 : x < 256) : (List.replicate n (0 : Int)).set 0 x = splice (List.replicate n 0) 0 (le x 1) := by
  rw [splice_one x (by simpa using h), le_one, Int.emod_eq_of_lt hx h2]

theorem refFdstat_ev (a0 a1 a2 a3 a4 a5 : Int) (s : ByteArray) (k : Nat) (hk : 11 ≤ k) : gangwayref20_Fdstat.f k a0 a1 a2 a3 a4 a5 s = some (fdB (fdT a0) a3 a4 a5) := by
  obtain ⟨k, rfl⟩ : ∃ m, k = m + 1 := ⟨k - 1, by omega⟩
  have fin : ∀ x : Int, 0 ≤ x → x < 256 → x = fdT a0 → gangwayref20_Fdstat.j1 k ((List.replicate 24 0).set 0 x) a0 a1 a2 a3 a4 a5 s = some (fdB (fdT a0) a3 a4 a5) := by
    intro x h0 h1 e
    rw [refFdstat_j1 _ (by simp) _ _ _ _ _ _ _ k (by omega), set0_splice 24 (by omega) x h0 h1, e]
    rfl
  unfold gangwayref20_Fdstat.f
  rw [Option.bind_some, if_pos (by simp), Option.bind_some]
  simp only [gangwayref20_Fdstat.j0]
  by_cases h4 : a0 = 4
  · subst h4
    rw [if_pos rfl, if_neg (by omega), set0_set0]
    exact fin 3 (by omega) (by omega) rfl
  · rw [if_neg h4]
    by_cases h5 : a0 = 5
    · subst h5
      rw [if_pos rfl, if_pos (by simp), set0_set0]
      exact fin 4 (by omega) (by omega) rfl
    · rw [if_neg h5]
      exact fin 2 (by omega) (by omega) (by unfold fdT; rw [if_neg h4, if_neg h5])
end Go.Proofs.Ythhmnecnoojcpaa.QFd
