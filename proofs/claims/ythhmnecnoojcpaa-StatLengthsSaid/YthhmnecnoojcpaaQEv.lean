/- What stat and its reference tell of an event, of a directory's name, and of a stream. -/
import Derived.Test.YthhmnecnoojcpaaPAllx2
import Derived.Test.YthhmnecnoojcpaaPAllx3
import Derived.Test.YthhmnecnoojcpaaPAllx15
import Derived.Test.YthhmnecnoojcpaaQSet
namespace Go.Proofs.Ythhmnecnoojcpaa.QEv
open Go.RowKit Go.Proofs.Ythhmnecnoojcpaa.PAll Go.Proofs.YthhmnecnoojcpaaW.PrintWords Go.Proofs.YthhmnecnoojcpaaW.PrintLast Go.Proofs.YthhmnecnoojcpaaW.PrintMore Go.Proofs.YthhmnecnoojcpaaU Go.Proofs.Ythhmnecnoojcpaa.Q
set_option linter.unusedVariables false

/-- An event's bytes. -/
def evB (u e kd by_ : Int) : List Int := splice (splice (splice (splice (List.replicate 32 0) 0 (le u 8)) 8 (le e 2)) 10 (le kd 1)) 16 (le by_ 8)
theorem evB_length (u e kd by_ : Int) : (evB u e kd by_).length = 32 := by
  unfold evB
  simp [splice, le_length]
def evMay (e kd by_ : Int) : Bool := decide (0 ≤ e) && decide (e ≤ 76) && decide (0 ≤ kd) && decide (kd ≤ 2) && decide (0 ≤ by_)

theorem sets (u e kd by_ : Int) (k : Nat) (hk : 9 ≤ k) : ((stat_fresh.f 32).bind fun t108 => ((stat_field_set.f k t108 0 8 u).bind fun t112 => ((stat_field_set.f k t112 8 2 e).bind fun t113 => ((stat_field_set.f k t113 10 1 kd).bind fun t114 => ((stat_field_set.f k t114 16 8 by_).bind fun t115 => (some (t115, (0 : Int)))))))) = some (evB u e kd by_, 0) := by
  have h0 : stat_fresh.f 32 = some (List.replicate 32 0) := fresh_eq 32 (by omega)
  have h1 : stat_field_set.f k (List.replicate 32 0) 0 8 u = _ := set_ev (List.replicate 32 0) 0 u 8 (by omega) (by simp) (by simp) k hk
  have h2 : stat_field_set.f k _ 8 2 e = _ := set_ev (splice (List.replicate 32 0) 0 (le u 8)) 8 e 2 (by omega) (by simp [splice, le_length]) (by simp [splice, le_length]) k hk
  have h3 : stat_field_set.f k _ 10 1 kd = _ := set_ev (splice (splice (List.replicate 32 0) 0 (le u 8)) 8 (le e 2)) 10 kd 1 (by omega) (by simp [splice, le_length]) (by simp [splice, le_length]) k hk
  have h4 : stat_field_set.f k _ 16 8 by_ = _ := set_ev (splice (splice (splice (List.replicate 32 0) 0 (le u 8)) 8 (le e 2)) 10 (le kd 1)) 16 by_ 8 (by omega) (by simp [splice, le_length]) (by simp [splice, le_length]) k hk
  rw [h0, Option.bind_some, h1, Option.bind_some, h2, Option.bind_some, h3, Option.bind_some, h4, Option.bind_some]
  rfl

theorem event_ev (u e kd by_ : Int) (k : Nat) (hk : 10 ≤ k) : stat_Event.f k u e kd by_ = some (if evMay e kd by_ then (evB u e kd by_, 0) else ([], 100)) := by
  obtain ⟨k, rfl⟩ : ∃ m, k = m + 1 := ⟨k - 1, by omega⟩
  unfold stat_Event.f evMay
  simp only [stat_Event.j0, if_true]
  by_cases h1 : e < 0
  · rw [if_pos h1]; simp [show ¬ 0 ≤ e by omega]
  rw [if_neg h1]
  by_cases h2 : e > 76
  · rw [if_pos h2]; simp [show ¬ e ≤ 76 by omega]
  rw [if_neg h2]
  by_cases h3 : kd < 0
  · rw [if_pos h3]; simp [show ¬ 0 ≤ kd by omega]
  rw [if_neg h3]
  by_cases h4 : kd > 2
  · rw [if_pos h4]; simp [show ¬ kd ≤ 2 by omega]
  rw [if_neg h4]
  by_cases h5 : by_ < 0
  · rw [if_pos (by simpa using h5)]; simp [show ¬ 0 ≤ by_ by omega]
  rw [if_neg (by simpa using h5), sets u e kd by_ k (by omega)]
  simp [show 0 ≤ e by omega, show e ≤ 76 by omega, show 0 ≤ kd by omega, show kd ≤ 2 by omega, show 0 ≤ by_ by omega]

theorem mayEvent_eq (u e kd by_ : Int) : gangwayref20_MayEvent.f u e kd by_ = some (evMay e kd by_) := by
  unfold gangwayref20_MayEvent.f evMay
  by_cases h1 : 0 ≤ e <;> by_cases h2 : e ≤ 76 <;> by_cases h3 : 0 ≤ kd <;> by_cases h4 : kd ≤ 2 <;> simp [h1, h2, h3, h4]

theorem refEvent_ev (u e kd by_ : Int) (k : Nat) (hk : 9 ≤ k) : gangwayref20_Event.f k u e kd by_ = some (evB u e kd by_) := by
  have h1 : gangwayref20_Little.f k _ 8 = _ := little_ev (u % 18446744073709551616) 8 (by omega) k hk
  have h2 : gangwayref20_Little.f k _ 2 = _ := little_ev (e % 18446744073709551616) 2 (by omega) k hk
  have h3 : gangwayref20_Little.f k _ 8 = _ := little_ev (by_ % 18446744073709551616) 8 (by omega) k hk
  rw [le_wrap _ _ (by omega)] at h1 h2 h3
  have p1 : gangwayref20_put.f k (List.replicate 32 0) 0 (le u 8) = _ := put_ev (List.replicate 32 0) 0 (le u 8) (by simp [le_length]) (by simp) k (by rw [le_length]; omega)
  have p2 : gangwayref20_put.f k _ 8 (le e 2) = _ := put_ev (splice (List.replicate 32 0) 0 (le u 8)) 8 (le e 2) (by simp [splice, le_length]) (by simp [splice, le_length]) k (by rw [le_length]; omega)
  have e10 : (splice (splice (List.replicate 32 0) 0 (le u 8)) 8 (le e 2)).set (10 : Int).toNat (kd % 256) = splice (splice (splice (List.replicate 32 0) 0 (le u 8)) 8 (le e 2)) 10 (le kd 1) := by
    have := splice_one (b := splice (splice (List.replicate 32 0) 0 (le u 8)) 8 (le e 2)) (i := 10) (kd % 256) (by simp [splice, le_length])
    rw [show le kd 1 = [kd % 256] by simp [le, List.range_succ]]
    exact this
  have p3 : gangwayref20_put.f k _ 16 (le by_ 8) = _ := put_ev (splice (splice (splice (List.replicate 32 0) 0 (le u 8)) 8 (le e 2)) 10 (le kd 1)) 16 (le by_ 8) (by simp [splice, le_length]) (by simp [splice, le_length]) k (by rw [le_length]; omega)
  unfold gangwayref20_Event.f
  simp only [wu64]
  rw [Option.bind_some, h1, Option.bind_some, p1, Option.bind_some, h2, Option.bind_some, p2, Option.bind_some, if_pos (by simp), h3, Option.bind_some, e10, p3, Option.bind_some]
  rfl


def preB (s : ByteArray) : List Int := splice (List.replicate 8 0) 4 (le (s.size : Int) 4)
theorem preB_length (s : ByteArray) : (preB s).length = 8 := by
  unfold preB
  simp [splice, le_length]
theorem prestat_ev (s : ByteArray) (k : Nat) (hk : 9 ≤ k) : stat_Prestat.f k s = some (preB s) := by
  have h0 : stat_fresh.f 8 = some (List.replicate 8 0) := fresh_eq 8 (by omega)
  have h1 : stat_field_set.f k (List.replicate 8 0) 4 4 (s.size : Int) = _ := set_ev (List.replicate 8 0) 4 (s.size : Int) 4 (by omega) (by simp) (by simp) k hk
  unfold stat_Prestat.f
  rw [h0, Option.bind_some, h1, Option.bind_some]
  rfl
theorem refPrestat_ev (s : ByteArray) (k : Nat) (hk : 9 ≤ k) : gangwayref20_Prestat.f k s = some (preB s) := by
  have l1 : gangwayref20_Little.f k _ 4 = _ := little_ev ((s.size : Int) % 18446744073709551616) 4 (by omega) k hk
  rw [le_wrap _ _ (by omega)] at l1
  have h1 : gangwayref20_put.f k (List.replicate 8 0) 4 (le (s.size : Int) 4) = _ := put_ev (List.replicate 8 0) 4 (le (s.size : Int) 4) (by simp [le_length]) (by simp) k (by rw [le_length]; omega)
  unfold gangwayref20_Prestat.f
  rw [wu64, l1, Option.bind_some, h1, Option.bind_some]
  rfl

def strB : List Int := splice (splice (List.replicate 64 0) 16 (le 2 1)) 24 (le 1 8)
theorem strB_length : strB.length = 64 := by
  unfold strB
  simp [splice, le_length]
theorem stream_ev (k : Nat) (hk : 9 ≤ k) : stat_Stream.f k = some strB := by
  have h0 : stat_fresh.f 64 = some (List.replicate 64 0) := fresh_eq 64 (by omega)
  have h1 : stat_field_set.f k (List.replicate 64 0) 16 1 2 = _ := set_ev (List.replicate 64 0) 16 2 1 (by omega) (by simp) (by simp) k hk
  have h2 : stat_field_set.f k _ 24 8 1 = _ := set_ev (splice (List.replicate 64 0) 16 (le 2 1)) 24 1 8 (by omega) (by simp [splice, le_length]) (by simp [splice, le_length]) k hk
  unfold stat_Stream.f
  rw [h0, Option.bind_some, h1, Option.bind_some, h2, Option.bind_some]
  rfl
theorem refStream_ev : gangwayref20_Stream.f = some strB := by
  decide +kernel

end Go.Proofs.Ythhmnecnoojcpaa.QEv
