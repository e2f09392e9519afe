/- Printed by a copy of the printer that was turned for this claim: functions as plain Lean functions, with proofs that their calls come to these; or words that such proofs use. -/
import Derived.Test.YthhmnecnoojcpaaPAllx0
import Derived.Test.YthhmnecnoojcpaaPAllx2
import Derived.Test.YthhmnecnoojcpaaPAllx3
import Derived.Test.YthhmnecnoojcpaaPAllx5
namespace Go.Proofs.Ythhmnecnoojcpaa.PAll
open Go.RowKit Go.Proofs.YthhmnecnoojcpaaW.PrintWords Go.Proofs.YthhmnecnoojcpaaW.PrintLast Go.Proofs.YthhmnecnoojcpaaW.PrintMore
attribute [local go_sem] max2_int min2_int max_two min_two max_three min_three max_four min_four   -- for this text's walks alone
set_option linter.unusedVariables false
set_option linter.unusedSimpArgs false

/-! ### gangwaylaw20_StatEntries: function 4 -/
mutual
def gangwaylaw20_StatEntries.j5 : Nat → Option (Bool)
  | 0 => none
  | k + 1 => (gangwaylaw20_wakes.f k).bind fun t234 => (some t234)
def gangwaylaw20_StatEntries.l0 : Nat → List (S35) → Int → Option (Bool)
  | 0, _, _ => none
  | k + 1, x0, x3 => if x3 < (x0.length : Int) then (gangwaylaw20_StatEntries.j1 k x0 x3 (decide (x3 < 20))) else (gangwaylaw20_StatEntries.j1 k x0 x3 false)
def gangwaylaw20_StatEntries.j1 : Nat → List (S35) → Int → Bool → Option (Bool)
  | 0, _, _, _ => none
  | k + 1, x0, x3, x14 => if x14 = true then (gangwaylaw20_StatEntries.j2 k x0 x3) else (gangwaylaw20_StatEntries.j5 k)
def gangwaylaw20_StatEntries.j2 : Nat → List (S35) → Int → Option (Bool)
  | 0, _, _ => none
  | k + 1, x0, x3 => if 0 ≤ x3 then (if x3 < (x0.length : Int) then ((gangwaylaw20_heavy.f ((rd_T35 x0 x3).f0.f0) ((rd_T35 x0 x3).f0.f1) ((rd_T35 x0 x3).f0.f2) ((rd_T35 x0 x3).f0.f3) ((rd_T35 x0 x3).f0.f4) ((rd_T35 x0 x3).f0.f5) ((rd_T35 x0 x3).f0.f6) ((rd_T35 x0 x3).f1.f0) ((rd_T35 x0 x3).f1.f1) ((rd_T35 x0 x3).f1.f2) ((rd_T35 x0 x3).f1.f3) ((rd_T35 x0 x3).f1.f4) ((rd_T35 x0 x3).f1.f5) ((rd_T35 x0 x3).f2) ((rd_T35 x0 x3).f3) ((rd_T35 x0 x3).f4) ((rd_T35 x0 x3).f5) ((rd_T35 x0 x3).f6) ((rd_T35 x0 x3).f7.f0) ((rd_T35 x0 x3).f7.f1) ((rd_T35 x0 x3).f7.f2) ((rd_T35 x0 x3).f7.f3) ((rd_T35 x0 x3).f8)).bind fun t213 => (if t213 = true then (some true) else (gangwaylaw20_StatEntries.j3 k x0 x3 ((rd_T35 x0 x3).f0.f0) ((rd_T35 x0 x3).f0.f1) ((rd_T35 x0 x3).f0.f2) ((rd_T35 x0 x3).f0.f3) ((rd_T35 x0 x3).f0.f4) ((rd_T35 x0 x3).f0.f5) ((rd_T35 x0 x3).f0.f6) ((rd_T35 x0 x3).f1.f0) ((rd_T35 x0 x3).f1.f1) ((rd_T35 x0 x3).f1.f2) ((rd_T35 x0 x3).f1.f3) ((rd_T35 x0 x3).f1.f4) ((rd_T35 x0 x3).f1.f5) ((rd_T35 x0 x3).f2) ((rd_T35 x0 x3).f3) ((rd_T35 x0 x3).f4) ((rd_T35 x0 x3).f5) ((rd_T35 x0 x3).f6) ((rd_T35 x0 x3).f7.f0) ((rd_T35 x0 x3).f7.f1) ((rd_T35 x0 x3).f7.f2) ((rd_T35 x0 x3).f7.f3) ((rd_T35 x0 x3).f8)))) else (none)) else (none)
def gangwaylaw20_StatEntries.j3 : Nat → List (S35) → Int → Int → Int → Int → Int → Int → Int → ByteArray → Int → List Int → List (S93) → ByteArray → Int → Int → Int → ByteArray → Int → Int → Int → Int → Int → Int → Int → List Int → Option (Bool)
  | 0, _, _, _, _, _, _, _, _, _, _, _, _, _, _, _, _, _, _, _, _, _, _, _, _, _ => none
  | k + 1, x0, x3, x213000, x213001, x213002, x213003, x213004, x213005, x213006, x213007, x213008, x213009, x213010, x213011, x213012, x213013, x213014, x213015, x213016, x213017, x213018, x213019, x213020, x213021, x213022 => (stat_Dirent.f k x213015 x213016 x213014 x213017).bind fun bt214 => (if x213015 ≥ 0 then (if x213016 ≥ 0 then (if x213017 ≥ 1 then ((gangwayref20_Dirent.f k x213015 x213016 x213014 x213017).bind fun t218 => ((gangwaylaw20_is.f k bt214.1 bt214.2 (decide (x213017 ≤ 3)) t218).bind fun t221 => (gangwaylaw20_StatEntries.j4 k x0 x3 (!t221)))) else ((gangwayref20_Dirent.f k x213015 x213016 x213014 x213017).bind fun t222 => ((gangwaylaw20_is.f k bt214.1 bt214.2 false t222).bind fun t225 => (gangwaylaw20_StatEntries.j4 k x0 x3 (!t225))))) else ((gangwayref20_Dirent.f k x213015 x213016 x213014 x213017).bind fun t226 => ((gangwaylaw20_is.f k bt214.1 bt214.2 false t226).bind fun t229 => (gangwaylaw20_StatEntries.j4 k x0 x3 (!t229))))) else ((gangwayref20_Dirent.f k x213015 x213016 x213014 x213017).bind fun t230 => ((gangwaylaw20_is.f k bt214.1 bt214.2 false t230).bind fun t233 => (gangwaylaw20_StatEntries.j4 k x0 x3 (!t233)))))
def gangwaylaw20_StatEntries.j4 : Nat → List (S35) → Int → Bool → Option (Bool)
  | 0, _, _, _ => none
  | k + 1, x0, x3, x65 => if x65 = true then (some false) else (gangwaylaw20_StatEntries.l0 k x0 (wrap64 (x3 + 1)))
end
def gangwaylaw20_StatEntries.f (k : Nat) (l0 : List (S35)) : Option (Bool) := gangwaylaw20_StatEntries.l0 k l0 0
theorem gangwaylaw20_StatEntries.mono_l : ∀ k, (LeO (gangwaylaw20_StatEntries.j5 k ) (gangwaylaw20_StatEntries.j5 (k + 1) )) ∧ (∀ y0 y1, LeO (gangwaylaw20_StatEntries.l0 k y0 y1) (gangwaylaw20_StatEntries.l0 (k + 1) y0 y1)) ∧ (∀ y0 y1 y2, LeO (gangwaylaw20_StatEntries.j1 k y0 y1 y2) (gangwaylaw20_StatEntries.j1 (k + 1) y0 y1 y2)) ∧ (∀ y0 y1, LeO (gangwaylaw20_StatEntries.j2 k y0 y1) (gangwaylaw20_StatEntries.j2 (k + 1) y0 y1)) ∧ (∀ y0 y1 y2 y3 y4 y5 y6 y7 y8 y9 y10 y11 y12 y13 y14 y15 y16 y17 y18 y19 y20 y21 y22 y23 y24, LeO (gangwaylaw20_StatEntries.j3 k y0 y1 y2 y3 y4 y5 y6 y7 y8 y9 y10 y11 y12 y13 y14 y15 y16 y17 y18 y19 y20 y21 y22 y23 y24) (gangwaylaw20_StatEntries.j3 (k + 1) y0 y1 y2 y3 y4 y5 y6 y7 y8 y9 y10 y11 y12 y13 y14 y15 y16 y17 y18 y19 y20 y21 y22 y23 y24)) ∧ (∀ y0 y1 y2, LeO (gangwaylaw20_StatEntries.j4 k y0 y1 y2) (gangwaylaw20_StatEntries.j4 (k + 1) y0 y1 y2))
  | 0 => ⟨fun r h => by simp [gangwaylaw20_StatEntries.j5] at h, fun _ _ r h => by simp [gangwaylaw20_StatEntries.l0] at h, fun _ _ _ r h => by simp [gangwaylaw20_StatEntries.j1] at h, fun _ _ r h => by simp [gangwaylaw20_StatEntries.j2] at h, fun _ _ _ _ _ _ _ _ _ _ _ _ _ _ _ _ _ _ _ _ _ _ _ _ _ r h => by simp [gangwaylaw20_StatEntries.j3] at h, fun _ _ _ r h => by simp [gangwaylaw20_StatEntries.j4] at h⟩
  | k + 1 => by
    obtain ⟨ih0, ih1, ih2, ih3, ih4, ih5⟩ := gangwaylaw20_StatEntries.mono_l k
    refine ⟨?_, ?_, ?_, ?_, ?_, ?_⟩
    · skip
      unfold gangwaylaw20_StatEntries.j5
      repeat' first
      | (with_reducible exact ih0)
      | (with_reducible exact ih1 _ _)
      | (with_reducible exact ih2 _ _ _)
      | (with_reducible exact ih3 _ _)
      | (with_reducible exact ih4 _ _ _ _ _ _ _ _ _ _ _ _ _ _ _ _ _ _ _ _ _ _ _ _ _)
      | (with_reducible exact ih5 _ _ _)
      | (with_reducible exact gangwaylaw20_is.mono _ _ _ _ _)
      | (with_reducible exact gangwaylaw20_wakes.mono _)
      | (with_reducible exact gangwayref20_Dirent.mono _ _ _ _ _)
      | (with_reducible exact stat_Dirent.mono _ _ _ _ _)
      | (with_reducible exact LeO.refl _)
      | (with_reducible exact LeO.none _)
      | (with_reducible refine LeO.ite ?_ ?_)
      | (with_reducible refine LeO.bind ?_ (fun _ => ?_))
      | exact ih0
      | exact ih1 _ _
      | exact ih2 _ _ _
      | exact ih3 _ _
      | exact ih4 _ _ _ _ _ _ _ _ _ _ _ _ _ _ _ _ _ _ _ _ _ _ _ _ _
      | exact ih5 _ _ _
      | exact gangwaylaw20_is.mono _ _ _ _ _
      | exact gangwaylaw20_wakes.mono _
      | exact gangwayref20_Dirent.mono _ _ _ _ _
      | exact stat_Dirent.mono _ _ _ _ _
      | exact LeO.none _
      | refine LeO.ite ?_ ?_
      | refine LeO.bind ?_ (fun _ => ?_)
    · intro y0 y1
      unfold gangwaylaw20_StatEntries.l0
      repeat' first
      | (with_reducible exact ih0)
      | (with_reducible exact ih1 _ _)
      | (with_reducible exact ih2 _ _ _)
      | (with_reducible exact ih3 _ _)
      | (with_reducible exact ih4 _ _ _ _ _ _ _ _ _ _ _ _ _ _ _ _ _ _ _ _ _ _ _ _ _)
      | (with_reducible exact ih5 _ _ _)
      | (with_reducible exact gangwaylaw20_is.mono _ _ _ _ _)
      | (with_reducible exact gangwaylaw20_wakes.mono _)
      | (with_reducible exact gangwayref20_Dirent.mono _ _ _ _ _)
      | (with_reducible exact stat_Dirent.mono _ _ _ _ _)
      | (with_reducible exact LeO.refl _)
      | (with_reducible exact LeO.none _)
      | (with_reducible refine LeO.ite ?_ ?_)
      | (with_reducible refine LeO.bind ?_ (fun _ => ?_))
      | exact ih0
      | exact ih1 _ _
      | exact ih2 _ _ _
      | exact ih3 _ _
      | exact ih4 _ _ _ _ _ _ _ _ _ _ _ _ _ _ _ _ _ _ _ _ _ _ _ _ _
      | exact ih5 _ _ _
      | exact gangwaylaw20_is.mono _ _ _ _ _
      | exact gangwaylaw20_wakes.mono _
      | exact gangwayref20_Dirent.mono _ _ _ _ _
      | exact stat_Dirent.mono _ _ _ _ _
      | exact LeO.none _
      | refine LeO.ite ?_ ?_
      | refine LeO.bind ?_ (fun _ => ?_)
    · intro y0 y1 y2
      unfold gangwaylaw20_StatEntries.j1
      repeat' first
      | (with_reducible exact ih0)
      | (with_reducible exact ih1 _ _)
      | (with_reducible exact ih2 _ _ _)
      | (with_reducible exact ih3 _ _)
      | (with_reducible exact ih4 _ _ _ _ _ _ _ _ _ _ _ _ _ _ _ _ _ _ _ _ _ _ _ _ _)
      | (with_reducible exact ih5 _ _ _)
      | (with_reducible exact gangwaylaw20_is.mono _ _ _ _ _)
      | (with_reducible exact gangwaylaw20_wakes.mono _)
      | (with_reducible exact gangwayref20_Dirent.mono _ _ _ _ _)
      | (with_reducible exact stat_Dirent.mono _ _ _ _ _)
      | (with_reducible exact LeO.refl _)
      | (with_reducible exact LeO.none _)
      | (with_reducible refine LeO.ite ?_ ?_)
      | (with_reducible refine LeO.bind ?_ (fun _ => ?_))
      | exact ih0
      | exact ih1 _ _
      | exact ih2 _ _ _
      | exact ih3 _ _
      | exact ih4 _ _ _ _ _ _ _ _ _ _ _ _ _ _ _ _ _ _ _ _ _ _ _ _ _
      | exact ih5 _ _ _
      | exact gangwaylaw20_is.mono _ _ _ _ _
      | exact gangwaylaw20_wakes.mono _
      | exact gangwayref20_Dirent.mono _ _ _ _ _
      | exact stat_Dirent.mono _ _ _ _ _
      | exact LeO.none _
      | refine LeO.ite ?_ ?_
      | refine LeO.bind ?_ (fun _ => ?_)
    · intro y0 y1
      unfold gangwaylaw20_StatEntries.j2
      repeat' first
      | (with_reducible exact ih0)
      | (with_reducible exact ih1 _ _)
      | (with_reducible exact ih2 _ _ _)
      | (with_reducible exact ih3 _ _)
      | (with_reducible exact ih4 _ _ _ _ _ _ _ _ _ _ _ _ _ _ _ _ _ _ _ _ _ _ _ _ _)
      | (with_reducible exact ih5 _ _ _)
      | (with_reducible exact gangwaylaw20_is.mono _ _ _ _ _)
      | (with_reducible exact gangwaylaw20_wakes.mono _)
      | (with_reducible exact gangwayref20_Dirent.mono _ _ _ _ _)
      | (with_reducible exact stat_Dirent.mono _ _ _ _ _)
      | (with_reducible exact LeO.refl _)
      | (with_reducible exact LeO.none _)
      | (with_reducible refine LeO.ite ?_ ?_)
      | (with_reducible refine LeO.bind ?_ (fun _ => ?_))
      | exact ih0
      | exact ih1 _ _
      | exact ih2 _ _ _
      | exact ih3 _ _
      | exact ih4 _ _ _ _ _ _ _ _ _ _ _ _ _ _ _ _ _ _ _ _ _ _ _ _ _
      | exact ih5 _ _ _
      | exact gangwaylaw20_is.mono _ _ _ _ _
      | exact gangwaylaw20_wakes.mono _
      | exact gangwayref20_Dirent.mono _ _ _ _ _
      | exact stat_Dirent.mono _ _ _ _ _
      | exact LeO.none _
      | refine LeO.ite ?_ ?_
      | refine LeO.bind ?_ (fun _ => ?_)
    · intro y0 y1 y2 y3 y4 y5 y6 y7 y8 y9 y10 y11 y12 y13 y14 y15 y16 y17 y18 y19 y20 y21 y22 y23 y24
      unfold gangwaylaw20_StatEntries.j3
      repeat' first
      | (with_reducible exact ih0)
      | (with_reducible exact ih1 _ _)
      | (with_reducible exact ih2 _ _ _)
      | (with_reducible exact ih3 _ _)
      | (with_reducible exact ih4 _ _ _ _ _ _ _ _ _ _ _ _ _ _ _ _ _ _ _ _ _ _ _ _ _)
      | (with_reducible exact ih5 _ _ _)
      | (with_reducible exact gangwaylaw20_is.mono _ _ _ _ _)
      | (with_reducible exact gangwaylaw20_wakes.mono _)
      | (with_reducible exact gangwayref20_Dirent.mono _ _ _ _ _)
      | (with_reducible exact stat_Dirent.mono _ _ _ _ _)
      | (with_reducible exact LeO.refl _)
      | (with_reducible exact LeO.none _)
      | (with_reducible refine LeO.ite ?_ ?_)
      | (with_reducible refine LeO.bind ?_ (fun _ => ?_))
      | exact ih0
      | exact ih1 _ _
      | exact ih2 _ _ _
      | exact ih3 _ _
      | exact ih4 _ _ _ _ _ _ _ _ _ _ _ _ _ _ _ _ _ _ _ _ _ _ _ _ _
      | exact ih5 _ _ _
      | exact gangwaylaw20_is.mono _ _ _ _ _
      | exact gangwaylaw20_wakes.mono _
      | exact gangwayref20_Dirent.mono _ _ _ _ _
      | exact stat_Dirent.mono _ _ _ _ _
      | exact LeO.none _
      | refine LeO.ite ?_ ?_
      | refine LeO.bind ?_ (fun _ => ?_)
    · intro y0 y1 y2
      unfold gangwaylaw20_StatEntries.j4
      repeat' first
      | (with_reducible exact ih0)
      | (with_reducible exact ih1 _ _)
      | (with_reducible exact ih2 _ _ _)
      | (with_reducible exact ih3 _ _)
      | (with_reducible exact ih4 _ _ _ _ _ _ _ _ _ _ _ _ _ _ _ _ _ _ _ _ _ _ _ _ _)
      | (with_reducible exact ih5 _ _ _)
      | (with_reducible exact gangwaylaw20_is.mono _ _ _ _ _)
      | (with_reducible exact gangwaylaw20_wakes.mono _)
      | (with_reducible exact gangwayref20_Dirent.mono _ _ _ _ _)
      | (with_reducible exact stat_Dirent.mono _ _ _ _ _)
      | (with_reducible exact LeO.refl _)
      | (with_reducible exact LeO.none _)
      | (with_reducible refine LeO.ite ?_ ?_)
      | (with_reducible refine LeO.bind ?_ (fun _ => ?_))
      | exact ih0
      | exact ih1 _ _
      | exact ih2 _ _ _
      | exact ih3 _ _
      | exact ih4 _ _ _ _ _ _ _ _ _ _ _ _ _ _ _ _ _ _ _ _ _ _ _ _ _
      | exact ih5 _ _ _
      | exact gangwaylaw20_is.mono _ _ _ _ _
      | exact gangwaylaw20_wakes.mono _
      | exact gangwayref20_Dirent.mono _ _ _ _ _
      | exact stat_Dirent.mono _ _ _ _ _
      | exact LeO.none _
      | refine LeO.ite ?_ ?_
      | refine LeO.bind ?_ (fun _ => ?_)
theorem gangwaylaw20_StatEntries.mono : ∀ a0 k, LeO (gangwaylaw20_StatEntries.f k a0) (gangwaylaw20_StatEntries.f (k + 1) a0) := by
  intro a0 k
  obtain ⟨ih0, ih1, ih2, ih3, ih4, ih5⟩ := gangwaylaw20_StatEntries.mono_l k
  unfold gangwaylaw20_StatEntries.f
  repeat' first
      | (with_reducible exact ih0)
      | (with_reducible exact ih1 _ _)
      | (with_reducible exact ih2 _ _ _)
      | (with_reducible exact ih3 _ _)
      | (with_reducible exact ih4 _ _ _ _ _ _ _ _ _ _ _ _ _ _ _ _ _ _ _ _ _ _ _ _ _)
      | (with_reducible exact ih5 _ _ _)
      | (with_reducible exact gangwaylaw20_is.mono _ _ _ _ _)
      | (with_reducible exact gangwaylaw20_wakes.mono _)
      | (with_reducible exact gangwayref20_Dirent.mono _ _ _ _ _)
      | (with_reducible exact stat_Dirent.mono _ _ _ _ _)
      | (with_reducible exact LeO.refl _)
      | (with_reducible exact LeO.none _)
      | (with_reducible refine LeO.ite ?_ ?_)
      | (with_reducible refine LeO.bind ?_ (fun _ => ?_))
      | exact ih0
      | exact ih1 _ _
      | exact ih2 _ _ _
      | exact ih3 _ _
      | exact ih4 _ _ _ _ _ _ _ _ _ _ _ _ _ _ _ _ _ _ _ _ _ _ _ _ _
      | exact ih5 _ _ _
      | exact gangwaylaw20_is.mono _ _ _ _ _
      | exact gangwaylaw20_wakes.mono _
      | exact gangwayref20_Dirent.mono _ _ _ _ _
      | exact stat_Dirent.mono _ _ _ _ _
      | exact LeO.none _
      | refine LeO.ite ?_ ?_
      | refine LeO.bind ?_ (fun _ => ?_)
def gangwaylaw20_StatEntries.T8 : Bool × List (List Nat × List Nat) := (true, [([], []), ([], []), ([], []), ([2], [2]), ([3], [3]), ([4], [4]), ([5], [5]), ([6, 5], [5, 6]), ([7, 5], [5, 7]), ([5, 8], [5, 8]), ([9, 5], [9]), ([10], [10]), ([11, 10], [10, 11]), ([12, 10], [10, 12]), ([10, 13], [10, 13]), ([14, 10], [14]), ([15], [15]), ([16, 15], [15, 16]), ([17, 15], [15, 17]), ([15, 18], [15, 18]), ([], []), ([20], [20]), ([], []), ([22], [22]), ([], []), ([24], [24]), ([], []), ([26], [26]), ([21, 23, 25, 27, 15], [21, 23, 25, 27]), ([0, 1, 19, 28, 28], [0, 1, 19, 28]), ([29], [29])])
def gangwaylaw20_StatEntries.B8 : List Nat := [0, 0, 0, 4, 12, 28, 60, 124, 252, 508, 1020, 2044, 4092, 8188, 16380, 32764, 65532, 131068, 262140, 524284, 0, 1048576, 0, 4194304, 0, 16777216, 0, 67108864, 267452412, 536870911, 1073741823]
theorem gangwaylaw20_StatEntries.tab8 : rtab .any (opsOf Try.f4 8) = gangwaylaw20_StatEntries.T8 := by kernel_rfl
theorem gangwaylaw20_StatEntries.bits8 : waitsOk gangwaylaw20_StatEntries.T8.2 gangwaylaw20_StatEntries.B8 = true := by kernel_rfl
set_option maxHeartbeats 8000000 in
set_option maxRecDepth 100000 in
theorem gangwaylaw20_StatEntries.calls (k : Nat) (A0 : Option Addr) (c0 : Nat) (l0 : List (S35)) (r : Bool) (w : World) (hr0 : Kd.C k35 w A0 l0.length l0) (hc0 : l0.length ≤ c0) (h : gangwaylaw20_StatEntries.f k l0 = some r) :
    Calls Try.prog 4 #[.slice A0 l0.length c0] w fun e w' => e = .returned (.bool r) ∧ Below w.heap.size w w' := by
  have hu35 := Try.underlying35
  have HR0 := Aside0.mk hr0
  have HC0 := Aside0.mk hc0
  clear hr0 hc0
  have HB := Aside0.mk (Below.refl w.heap.size w)
  have H : (gangwaylaw20_StatEntries.l0 k l0 0) = some r := h
  clear h
  have HC2 := Aside0.mk H
  clear H
  go_enter Try.func4, Try.ntmps4
  go_upto_block 0 with (fail)
  go_cut [] (fun wc => ∃ (kq : Nat), Aside0 (gangwaylaw20_StatEntries.j5 kq  = some r) ∧ Aside0 (kq ≤ k) ∧ Aside0 (Below w.heap.size w wc))
  case first =>
    have H := HC2.out
    clear HC2
    have H' := Aside0.mk H
    clear H
    go_wp2
    go_loopg [3] k (fun kq v3 w' => ∃ (x3_1 : Int), v3 = .int .i64 x3_1 ∧ Aside0 (gangwaylaw20_StatEntries.l0 kq l0 x3_1 = some r) ∧ Aside0 (kq ≤ k) ∧ Aside0 (Below w.heap.size w w'))
    case atStart => exact ⟨(0), (by first | rfl | (simp; done) | (simp [*]; done)), H', ⟨Nat.le_refl _⟩, ⟨by repeat (first | (with_reducible first | exact HB.out | apply below_alloc | apply pw_below_drewN | apply below_drew1) | exact HB.out)⟩⟩
    case round =>
      clear H'
      try clear p2
      obtain ⟨x3_1, rfl, HA, HK1, HB⟩ := hrel
      cases gk with
      | zero => exact absurd HA.out (by simp [gangwaylaw20_StatEntries.l0])
      | succ k1 =>
        have H := HA.out
        clear HA
        simp only [gangwaylaw20_StatEntries.l0] at H
        have HC3 := Aside0.mk H
        clear H
        go_upto_region 2 with (fail)
        go_cut [14] (fun v14 wc => ∃ (kq : Nat) (x14_2 : Bool), v14 = .bool x14_2 ∧ Aside0 (gangwaylaw20_StatEntries.j1 kq l0 x3_1 x14_2 = some r) ∧ Aside0 (kq ≤ k1) ∧ Aside0 (Below w.heap.size w wc))
        case first =>
          have H := HC3.out
          clear HC3
          by_cases c4 : x3_1 < (l0.length : Int)
          · rw [if_pos c4] at H
            have c4b0 : decide (x3_1 < (l0.length : Int)) = true := decide_eq_true c4
            clear c4
            (first | rw [c4b0] | (simp only [i64_w, i32_w]; rw [c4b0]) | skip)
            have H' := Aside0.mk H
            clear H
            go_wp2
            go_meet
            case rel => exact ⟨_, (decide (x3_1 < 20)), (by first | rfl | (simp; done) | (simp [*]; done)), H', ⟨by have := HK1.out; first | omega | exact Nat.le_refl _⟩, ⟨by repeat (first | (with_reducible first | exact HB.out | apply below_alloc | apply pw_below_drewN | apply below_drew1) | exact HB.out)⟩⟩
          · rw [if_neg c4] at H
            have c4b0 : decide (x3_1 < (l0.length : Int)) = false := decide_eq_false c4
            clear c4
            (first | rw [c4b0] | (simp only [i64_w, i32_w]; rw [c4b0]) | skip)
            have H' := Aside0.mk H
            clear H
            go_wp2
            go_meet
            case rel => exact ⟨_, (false), (by first | rfl | (simp; done) | (simp [*]; done)), H', ⟨by have := HK1.out; first | omega | exact Nat.le_refl _⟩, ⟨by repeat (first | (with_reducible first | exact HB.out | apply below_alloc | apply pw_below_drewN | apply below_drew1) | exact HB.out)⟩⟩
        case rest =>
          as_aux_lemma =>
            clear HC3
            try clear p2
            try clear c4
            try clear c4b0
            try clear p2
            obtain ⟨kq, x14_2, rfl, HA, HJ2, HB⟩ := hcut
            cases kq with
            | zero => exact absurd HA.out (by simp [gangwaylaw20_StatEntries.j1])
            | succ kj2 =>
              have H := HA.out
              clear HA
              simp only [gangwaylaw20_StatEntries.j1] at H
              have HC5 := Aside0.mk H
              clear H
              go_upto_if 14 with (fail)
              go_cut [] (fun wc => ∃ (kq : Nat), Aside0 (gangwaylaw20_StatEntries.j2 kq l0 x3_1 = some r) ∧ Aside0 (kq ≤ kj2) ∧ Aside0 (Below w.heap.size w wc))
              case first =>
                have H := HC5.out
                clear HC5
                by_cases c6 : x14_2 = true
                · subst c6
                  have H1 : (gangwaylaw20_StatEntries.j2 kj2 l0 x3_1) = some r := by rw [if_pos rfl] at H; exact H
                  clear H
                  have H := H1
                  clear H1
                  have H' := Aside0.mk H
                  clear H
                  go_wp2
                  go_meet
                  case rel => exact ⟨_, H', ⟨by have := HK1.out; have := HJ2.out; first | omega | exact Nat.le_refl _⟩, ⟨by repeat (first | (with_reducible first | exact HB.out | apply below_alloc | apply pw_below_drewN | apply below_drew1) | exact HB.out)⟩⟩
                · replace c6 := Bool.eq_false_iff.mpr c6
                  subst c6
                  have H1 : (gangwaylaw20_StatEntries.j5 kj2) = some r := by rw [if_neg (show ¬ (false = true) by decide)] at H; exact H
                  clear H
                  have H := H1
                  clear H1
                  have H' := Aside0.mk H
                  clear H
                  go_wp2
                  go_meet
                  case rel => exact ⟨_, H', ⟨by have := HK1.out; have := HJ2.out; first | omega | exact Nat.le_refl _⟩, ⟨by repeat (first | (with_reducible first | exact HB.out | apply below_alloc | apply pw_below_drewN | apply below_drew1) | exact HB.out)⟩⟩
              case rest =>
                as_aux_lemma =>
                  clear HC5
                  try clear p2
                  try clear c4
                  try clear c4b0
                  try clear c6
                  try clear p2
                  obtain ⟨kq, HA, HJ4, HB⟩ := hcut
                  cases kq with
                  | zero => exact absurd HA.out (by simp [gangwaylaw20_StatEntries.j2])
                  | succ kj4 =>
                    have H := HA.out
                    clear HA
                    simp only [gangwaylaw20_StatEntries.j2] at H
                    by_cases c7 : 0 ≤ x3_1
                    · as_aux_lemma =>
                        rw [if_pos c7] at H
                        have c7b0 : decide (0 ≤ x3_1) = true := decide_eq_true c7
                        clear c7
                        by_cases c8 : x3_1 < (l0.length : Int)
                        · as_aux_lemma =>
                            rw [if_pos c8] at H
                            have c8b0 : decide (x3_1 < (l0.length : Int)) = true := decide_eq_true c8
                            clear c8
                            replace H := Option.bind_eq_some_iff.mp H
                            obtain ⟨t213, A90, H⟩ := H
                            replace H : (if t213 = true then (some true) else (gangwaylaw20_StatEntries.j3 kj4 l0 x3_1 ((rd_T35 l0 x3_1).f0.f0) ((rd_T35 l0 x3_1).f0.f1) ((rd_T35 l0 x3_1).f0.f2) ((rd_T35 l0 x3_1).f0.f3) ((rd_T35 l0 x3_1).f0.f4) ((rd_T35 l0 x3_1).f0.f5) ((rd_T35 l0 x3_1).f0.f6) ((rd_T35 l0 x3_1).f1.f0) ((rd_T35 l0 x3_1).f1.f1) ((rd_T35 l0 x3_1).f1.f2) ((rd_T35 l0 x3_1).f1.f3) ((rd_T35 l0 x3_1).f1.f4) ((rd_T35 l0 x3_1).f1.f5) ((rd_T35 l0 x3_1).f2) ((rd_T35 l0 x3_1).f3) ((rd_T35 l0 x3_1).f4) ((rd_T35 l0 x3_1).f5) ((rd_T35 l0 x3_1).f6) ((rd_T35 l0 x3_1).f7.f0) ((rd_T35 l0 x3_1).f7.f1) ((rd_T35 l0 x3_1).f7.f2) ((rd_T35 l0 x3_1).f7.f3) ((rd_T35 l0 x3_1).f8))) = some r := H
                            have A9 := Aside0.mk A90
                            clear A90
                            have HC10 := Aside0.mk H
                            clear H
                            have p211 : 0 ≤ (x3_1 : Int) := of_decide_eq_true (by first | (with_reducible assumption) | assumption)
                            have q211 : x3_1 < (l0.length : Int) := of_decide_eq_true (by first | (with_reducible assumption) | assumption)
                            obtain ⟨ad211, A211_8, c211_8, A211_9, c211_9, A211_22, c211_22, e211, hx211_0, hx211_1, hx211_2, hx211_3, hx211_4, hx211_5, hx211_6, hx211_7, hx211_8, hx211_9, hx211_10, hx211_11, hx211_12, hx211_13, hx211_14, hx211_15, hx211_16, hx211_17, hx211_18, hx211_19, hx211_20, hx211_21, hx211_22, hl211_8, hi211_8, hl211_9, hi211_9, hl211_22, hi211_22⟩ := at_T35 HR0.out x3_1 p211 q211
                            cases e211
                            replace hx211_0 := (HB.out.cell (World.block_lt_of_cell? w _ hx211_0)).trans hx211_0
                            replace hx211_1 := (HB.out.cell (World.block_lt_of_cell? w _ hx211_1)).trans hx211_1
                            replace hx211_2 := (HB.out.cell (World.block_lt_of_cell? w _ hx211_2)).trans hx211_2
                            replace hx211_3 := (HB.out.cell (World.block_lt_of_cell? w _ hx211_3)).trans hx211_3
                            replace hx211_4 := (HB.out.cell (World.block_lt_of_cell? w _ hx211_4)).trans hx211_4
                            replace hx211_5 := (HB.out.cell (World.block_lt_of_cell? w _ hx211_5)).trans hx211_5
                            replace hx211_6 := (HB.out.cell (World.block_lt_of_cell? w _ hx211_6)).trans hx211_6
                            replace hx211_7 := (HB.out.cell (World.block_lt_of_cell? w _ hx211_7)).trans hx211_7
                            replace hx211_8 := (HB.out.cell (World.block_lt_of_cell? w _ hx211_8)).trans hx211_8
                            replace hx211_9 := (HB.out.cell (World.block_lt_of_cell? w _ hx211_9)).trans hx211_9
                            replace hx211_10 := (HB.out.cell (World.block_lt_of_cell? w _ hx211_10)).trans hx211_10
                            replace hx211_11 := (HB.out.cell (World.block_lt_of_cell? w _ hx211_11)).trans hx211_11
                            replace hx211_12 := (HB.out.cell (World.block_lt_of_cell? w _ hx211_12)).trans hx211_12
                            replace hx211_13 := (HB.out.cell (World.block_lt_of_cell? w _ hx211_13)).trans hx211_13
                            replace hx211_14 := (HB.out.cell (World.block_lt_of_cell? w _ hx211_14)).trans hx211_14
                            replace hx211_15 := (HB.out.cell (World.block_lt_of_cell? w _ hx211_15)).trans hx211_15
                            replace hx211_16 := (HB.out.cell (World.block_lt_of_cell? w _ hx211_16)).trans hx211_16
                            replace hx211_17 := (HB.out.cell (World.block_lt_of_cell? w _ hx211_17)).trans hx211_17
                            replace hx211_18 := (HB.out.cell (World.block_lt_of_cell? w _ hx211_18)).trans hx211_18
                            replace hx211_19 := (HB.out.cell (World.block_lt_of_cell? w _ hx211_19)).trans hx211_19
                            replace hx211_20 := (HB.out.cell (World.block_lt_of_cell? w _ hx211_20)).trans hx211_20
                            replace hx211_21 := (HB.out.cell (World.block_lt_of_cell? w _ hx211_21)).trans hx211_21
                            replace hx211_22 := (HB.out.cell (World.block_lt_of_cell? w _ hx211_22)).trans hx211_22
                            have HR211_8 := Aside0.mk hi211_8
                            have HC211_8 := Aside0.mk hl211_8
                            clear hi211_8 hl211_8
                            have HR211_9 := Aside0.mk hi211_9
                            have HC211_9 := Aside0.mk hl211_9
                            clear hi211_9 hl211_9
                            have HR211_22 := Aside0.mk hi211_22
                            have HC211_22 := Aside0.mk hl211_22
                            clear hi211_22 hl211_22
                            replace p211 := eq_true p211
                            replace q211 := eq_true q211
                            go_upto_if 22 with (first | ((with_reducible refine gate_dst (N := 20) rfl ?_); refine Go.Proofs.YthhmnecnoojcpaaO.load_cells ?hg (N := 20) ?hd 35 (x := ?xo20_) ?ho (ad := ?ad20_) ?hx [.int .i64 ((rd_T35 l0 x3_1).f0.f0), .int .i64 ((rd_T35 l0 x3_1).f0.f1), .int .i64 ((rd_T35 l0 x3_1).f0.f2), .int .i64 ((rd_T35 l0 x3_1).f0.f3), .int .i64 ((rd_T35 l0 x3_1).f0.f4), .int .i64 ((rd_T35 l0 x3_1).f0.f5), .string ((rd_T35 l0 x3_1).f0.f6), .int .i64 ((rd_T35 l0 x3_1).f1.f0), .slice A211_8 ((rd_T35 l0 x3_1).f1.f1).length c211_8, .slice A211_9 ((rd_T35 l0 x3_1).f1.f2).length c211_9, .string ((rd_T35 l0 x3_1).f1.f3), .int .i64 ((rd_T35 l0 x3_1).f1.f4), .int .i64 ((rd_T35 l0 x3_1).f1.f5), .int .i64 ((rd_T35 l0 x3_1).f2), .string ((rd_T35 l0 x3_1).f3), .int .i64 ((rd_T35 l0 x3_1).f4), .int .i64 ((rd_T35 l0 x3_1).f5), .int .i64 ((rd_T35 l0 x3_1).f6), .int .i64 ((rd_T35 l0 x3_1).f7.f0), .int .i64 ((rd_T35 l0 x3_1).f7.f1), .int .i64 ((rd_T35 l0 x3_1).f7.f2), .int .i64 ((rd_T35 l0 x3_1).f7.f3), .slice A211_22 ((rd_T35 l0 x3_1).f8).length c211_22] Try.underlying35 (by kernel_rfl) ?hc ?_; (case hd => rfl); (case hg => rfl); (case ho => rfl); (case hx => rfl); (case hc => exact ⟨hx211_0, hx211_1, hx211_2, hx211_3, hx211_4, hx211_5, hx211_6, hx211_7, hx211_8, hx211_9, hx211_10, hx211_11, hx211_12, hx211_13, hx211_14, hx211_15, hx211_16, hx211_17, hx211_18, hx211_19, hx211_20, hx211_21, hx211_22, trivial⟩)) | ((with_reducible refine gate_dst (N := 4) rfl ?_); refine box_event ?hg (N := 4) ?hd (cs := #[.int .i64 0, .int .i64 0, .int .i64 0, .int .i64 0, .int .i64 0, .int .i64 0, .string (⟨#[]⟩ : ByteArray), .int .i64 0, .slice none 0 0, .slice none 0 0, .string (⟨#[]⟩ : ByteArray), .int .i64 0, .int .i64 0, .int .i64 0, .string (⟨#[]⟩ : ByteArray), .int .i64 0, .int .i64 0, .int .i64 0, .int .i64 0, .int .i64 0, .int .i64 0, .int .i64 0, .slice none 0 0]) (t := 35) ?hr ?_; (case hd => rfl); (case hg => rfl); (case hr => first | (go_simp; done) | (go_simp; rfl)); intro gb212 hg w11 hbox hb; have n0_ := Aside0.mk (below_step (by repeat (first | (with_reducible first | exact HB.out | apply below_alloc | apply pw_below_drewN | apply below_drew1) | exact HB.out)) hb); have n1_ := Aside0.mk (hbox); have n2_ := Aside0.mk ((by rw [hg]; exact (below_size (by repeat (first | (with_reducible first | exact HB.out | apply below_alloc | apply pw_below_drewN | apply below_drew1) | exact HB.out))) : w.heap.size ≤ gb212)); have n3_ := Aside0.mk ((by rw [hg]; exact (below_size (by repeat (first | (with_reducible first | exact HB.out | apply below_alloc | apply pw_below_drewN | apply below_drew1) | exact HB.out))) : w.heap.size ≤ gb212)); clear HB; have HB := n0_; have BK212 := n1_; have GW212 := n2_; have GE212 := n3_; clear n0_ n1_ n2_ n3_; clear hb hbox hg) | ((with_reducible refine gate_store (t := 35) (p := 4) rfl ?_); refine Go.Proofs.YthhmnecnoojcpaaO.store_whole ?hg ?hn (ty := 35) (x := ?xs_w12) (y := ?ys_w12) ?ho (g := gb212) ?hx [.int .i64 ((rd_T35 l0 x3_1).f0.f0), .int .i64 ((rd_T35 l0 x3_1).f0.f1), .int .i64 ((rd_T35 l0 x3_1).f0.f2), .int .i64 ((rd_T35 l0 x3_1).f0.f3), .int .i64 ((rd_T35 l0 x3_1).f0.f4), .int .i64 ((rd_T35 l0 x3_1).f0.f5), .string ((rd_T35 l0 x3_1).f0.f6), .int .i64 ((rd_T35 l0 x3_1).f1.f0), .slice A211_8 ((rd_T35 l0 x3_1).f1.f1).length c211_8, .slice A211_9 ((rd_T35 l0 x3_1).f1.f2).length c211_9, .string ((rd_T35 l0 x3_1).f1.f3), .int .i64 ((rd_T35 l0 x3_1).f1.f4), .int .i64 ((rd_T35 l0 x3_1).f1.f5), .int .i64 ((rd_T35 l0 x3_1).f2), .string ((rd_T35 l0 x3_1).f3), .int .i64 ((rd_T35 l0 x3_1).f4), .int .i64 ((rd_T35 l0 x3_1).f5), .int .i64 ((rd_T35 l0 x3_1).f6), .int .i64 ((rd_T35 l0 x3_1).f7.f0), .int .i64 ((rd_T35 l0 x3_1).f7.f1), .int .i64 ((rd_T35 l0 x3_1).f7.f2), .int .i64 ((rd_T35 l0 x3_1).f7.f3), .slice A211_22 ((rd_T35 l0 x3_1).f8).length c211_22] ?hy BK212.out (by kernel_rfl) rfl rfl ?_; (case ho => rfl); (case hg => rfl); (case hn => rfl); (case hx => rfl); (case hy => rfl); intro w12 hb_ hO_ hB_; have n0_ := Aside0.mk (hb_); have n1_ := Aside0.mk (hB_ _ _ HB.out GE212.out); clear BK212; clear HB; have BK212 := n0_; have HB := n1_; clear n0_ n1_; clear hb_ hO_ hB_) | ((with_reducible refine gate_dst (N := 21) rfl ?_); refine Go.Proofs.YthhmnecnoojcpaaO.load_whole ?hg (N := 21) ?hd 35 (x := ?xo21_) ?ho (g := gb212) ?hx (cs := #[.int .i64 ((rd_T35 l0 x3_1).f0.f0), .int .i64 ((rd_T35 l0 x3_1).f0.f1), .int .i64 ((rd_T35 l0 x3_1).f0.f2), .int .i64 ((rd_T35 l0 x3_1).f0.f3), .int .i64 ((rd_T35 l0 x3_1).f0.f4), .int .i64 ((rd_T35 l0 x3_1).f0.f5), .string ((rd_T35 l0 x3_1).f0.f6), .int .i64 ((rd_T35 l0 x3_1).f1.f0), .slice A211_8 ((rd_T35 l0 x3_1).f1.f1).length c211_8, .slice A211_9 ((rd_T35 l0 x3_1).f1.f2).length c211_9, .string ((rd_T35 l0 x3_1).f1.f3), .int .i64 ((rd_T35 l0 x3_1).f1.f4), .int .i64 ((rd_T35 l0 x3_1).f1.f5), .int .i64 ((rd_T35 l0 x3_1).f2), .string ((rd_T35 l0 x3_1).f3), .int .i64 ((rd_T35 l0 x3_1).f4), .int .i64 ((rd_T35 l0 x3_1).f5), .int .i64 ((rd_T35 l0 x3_1).f6), .int .i64 ((rd_T35 l0 x3_1).f7.f0), .int .i64 ((rd_T35 l0 x3_1).f7.f1), .int .i64 ((rd_T35 l0 x3_1).f7.f2), .int .i64 ((rd_T35 l0 x3_1).f7.f3), .slice A211_22 ((rd_T35 l0 x3_1).f8).length c211_22]) BK212.out Try.underlying35 (by kernel_rfl) ?_; (case hd => rfl); (case hg => rfl); (case ho => rfl); (case hx => rfl)) | ((with_reducible refine gate_callee (f := 15) rfl ?_); refine goesL_ (some 22) rfl rfl Try.func15 (by kernel_rfl) rfl #[.agg #[.int .i64 ((rd_T35 l0 x3_1).f0.f0), .int .i64 ((rd_T35 l0 x3_1).f0.f1), .int .i64 ((rd_T35 l0 x3_1).f0.f2), .int .i64 ((rd_T35 l0 x3_1).f0.f3), .int .i64 ((rd_T35 l0 x3_1).f0.f4), .int .i64 ((rd_T35 l0 x3_1).f0.f5), .string ((rd_T35 l0 x3_1).f0.f6), .int .i64 ((rd_T35 l0 x3_1).f1.f0), .slice A211_8 ((rd_T35 l0 x3_1).f1.f1).length c211_8, .slice A211_9 ((rd_T35 l0 x3_1).f1.f2).length c211_9, .string ((rd_T35 l0 x3_1).f1.f3), .int .i64 ((rd_T35 l0 x3_1).f1.f4), .int .i64 ((rd_T35 l0 x3_1).f1.f5), .int .i64 ((rd_T35 l0 x3_1).f2), .string ((rd_T35 l0 x3_1).f3), .int .i64 ((rd_T35 l0 x3_1).f4), .int .i64 ((rd_T35 l0 x3_1).f5), .int .i64 ((rd_T35 l0 x3_1).f6), .int .i64 ((rd_T35 l0 x3_1).f7.f0), .int .i64 ((rd_T35 l0 x3_1).f7.f1), .int .i64 ((rd_T35 l0 x3_1).f7.f2), .int .i64 ((rd_T35 l0 x3_1).f7.f3), .slice A211_22 ((rd_T35 l0 x3_1).f8).length c211_22]] rfl (by (try simp only [List.map_toArray, List.map_cons, List.map_nil]); first | done | rfl | (simp only [List.length_drop, List.length_take]; rfl)) ?_; (with_reducible refine (gangwaylaw20_heavy.calls ((rd_T35 l0 x3_1).f0.f0) ((rd_T35 l0 x3_1).f0.f1) ((rd_T35 l0 x3_1).f0.f2) ((rd_T35 l0 x3_1).f0.f3) ((rd_T35 l0 x3_1).f0.f4) ((rd_T35 l0 x3_1).f0.f5) ((rd_T35 l0 x3_1).f0.f6) ((rd_T35 l0 x3_1).f1.f0) _ _ ((rd_T35 l0 x3_1).f1.f1) _ _ ((rd_T35 l0 x3_1).f1.f2) ((rd_T35 l0 x3_1).f1.f3) ((rd_T35 l0 x3_1).f1.f4) ((rd_T35 l0 x3_1).f1.f5) ((rd_T35 l0 x3_1).f2) ((rd_T35 l0 x3_1).f3) ((rd_T35 l0 x3_1).f4) ((rd_T35 l0 x3_1).f5) ((rd_T35 l0 x3_1).f6) ((rd_T35 l0 x3_1).f7.f0) ((rd_T35 l0 x3_1).f7.f1) ((rd_T35 l0 x3_1).f7.f2) ((rd_T35 l0 x3_1).f7.f3) _ _ ((rd_T35 l0 x3_1).f8) t213 _ ?side1 ?side2 ?side3 ?side4 ?side5 ?side6 A9.out).mono ?_); (case side1 => repeat (first | exact (Kd.C_below HR211_8.out HB.out) | (with_reducible refine Kd.C_alloc ?_ _) | (with_reducible refine Kd.C_drewN ?_ _) | (with_reducible refine Kd.C_drew ?_))); (case side2 => exact HC211_8.out); (case side3 => repeat (first | exact (Kd.C_below HR211_9.out HB.out) | (with_reducible refine Kd.C_alloc ?_ _) | (with_reducible refine Kd.C_drewN ?_ _) | (with_reducible refine Kd.C_drew ?_))); (case side4 => exact HC211_9.out); (case side5 => repeat (first | exact (Kd.C_below HR211_22.out HB.out) | (with_reducible refine Kd.C_alloc ?_ _) | (with_reducible refine Kd.C_drewN ?_ _) | (with_reducible refine Kd.C_drew ?_))); (case side6 => exact HC211_22.out); rintro e w13 ⟨rfl, hb⟩; refine ⟨_, rfl, ?_⟩; have n0_ := Aside0.mk (blk_below (g := gb212) (o := .cells #[.int .i64 ((rd_T35 l0 x3_1).f0.f0), .int .i64 ((rd_T35 l0 x3_1).f0.f1), .int .i64 ((rd_T35 l0 x3_1).f0.f2), .int .i64 ((rd_T35 l0 x3_1).f0.f3), .int .i64 ((rd_T35 l0 x3_1).f0.f4), .int .i64 ((rd_T35 l0 x3_1).f0.f5), .string ((rd_T35 l0 x3_1).f0.f6), .int .i64 ((rd_T35 l0 x3_1).f1.f0), .slice A211_8 ((rd_T35 l0 x3_1).f1.f1).length c211_8, .slice A211_9 ((rd_T35 l0 x3_1).f1.f2).length c211_9, .string ((rd_T35 l0 x3_1).f1.f3), .int .i64 ((rd_T35 l0 x3_1).f1.f4), .int .i64 ((rd_T35 l0 x3_1).f1.f5), .int .i64 ((rd_T35 l0 x3_1).f2), .string ((rd_T35 l0 x3_1).f3), .int .i64 ((rd_T35 l0 x3_1).f4), .int .i64 ((rd_T35 l0 x3_1).f5), .int .i64 ((rd_T35 l0 x3_1).f6), .int .i64 ((rd_T35 l0 x3_1).f7.f0), .int .i64 ((rd_T35 l0 x3_1).f7.f1), .int .i64 ((rd_T35 l0 x3_1).f7.f2), .int .i64 ((rd_T35 l0 x3_1).f7.f3), .slice A211_22 ((rd_T35 l0 x3_1).f8).length c211_22] 35 (0, 0)) (by (with_reducible repeat (first | refine blk_drewN ?_ _ | refine blk_drew ?_ | refine blk_alloc ?_ _)); exact BK212.out) hb); have n1_ := Aside0.mk (below_step (by repeat (first | (with_reducible first | exact HB.out | apply below_alloc | apply pw_below_drewN | apply below_drew1 | refine below_set ?_ GE212.out) | exact HB.out)) hb); clear BK212; clear HB; have BK212 := n0_; have HB := n1_; clear n0_ n1_; (try clear hb); (try clear hb2); (try clear hk); (try clear hi)))
                            (try simp only [Act.put, List.setIfInBounds_toArray, List.set_cons_zero, List.set_cons_succ])
                            go_cut [] (fun wc => ∃ (kq : Nat), Aside0 (gangwaylaw20_StatEntries.j3 kq l0 x3_1 ((rd_T35 l0 x3_1).f0.f0) ((rd_T35 l0 x3_1).f0.f1) ((rd_T35 l0 x3_1).f0.f2) ((rd_T35 l0 x3_1).f0.f3) ((rd_T35 l0 x3_1).f0.f4) ((rd_T35 l0 x3_1).f0.f5) ((rd_T35 l0 x3_1).f0.f6) ((rd_T35 l0 x3_1).f1.f0) ((rd_T35 l0 x3_1).f1.f1) ((rd_T35 l0 x3_1).f1.f2) ((rd_T35 l0 x3_1).f1.f3) ((rd_T35 l0 x3_1).f1.f4) ((rd_T35 l0 x3_1).f1.f5) ((rd_T35 l0 x3_1).f2) ((rd_T35 l0 x3_1).f3) ((rd_T35 l0 x3_1).f4) ((rd_T35 l0 x3_1).f5) ((rd_T35 l0 x3_1).f6) ((rd_T35 l0 x3_1).f7.f0) ((rd_T35 l0 x3_1).f7.f1) ((rd_T35 l0 x3_1).f7.f2) ((rd_T35 l0 x3_1).f7.f3) ((rd_T35 l0 x3_1).f8) = some r) ∧ Aside0 (kq ≤ kj4) ∧ Aside0 (wc.heap[gb212]? = some (.cells #[.int .i64 ((rd_T35 l0 x3_1).f0.f0), .int .i64 ((rd_T35 l0 x3_1).f0.f1), .int .i64 ((rd_T35 l0 x3_1).f0.f2), .int .i64 ((rd_T35 l0 x3_1).f0.f3), .int .i64 ((rd_T35 l0 x3_1).f0.f4), .int .i64 ((rd_T35 l0 x3_1).f0.f5), .string ((rd_T35 l0 x3_1).f0.f6), .int .i64 ((rd_T35 l0 x3_1).f1.f0), (.slice A211_8 ((rd_T35 l0 x3_1).f1.f1).length c211_8), (.slice A211_9 ((rd_T35 l0 x3_1).f1.f2).length c211_9), .string ((rd_T35 l0 x3_1).f1.f3), .int .i64 ((rd_T35 l0 x3_1).f1.f4), .int .i64 ((rd_T35 l0 x3_1).f1.f5), .int .i64 ((rd_T35 l0 x3_1).f2), .string ((rd_T35 l0 x3_1).f3), .int .i64 ((rd_T35 l0 x3_1).f4), .int .i64 ((rd_T35 l0 x3_1).f5), .int .i64 ((rd_T35 l0 x3_1).f6), .int .i64 ((rd_T35 l0 x3_1).f7.f0), .int .i64 ((rd_T35 l0 x3_1).f7.f1), .int .i64 ((rd_T35 l0 x3_1).f7.f2), .int .i64 ((rd_T35 l0 x3_1).f7.f3), (.slice A211_22 ((rd_T35 l0 x3_1).f8).length c211_22)] 35 (0, 0))) ∧ Aside0 (Below w.heap.size w wc))
                            case first =>
                              have H := HC10.out
                              clear HC10
                              by_cases c14 : t213 = true
                              · subst c14
                                have H1 : (some true) = some r := by rw [if_pos rfl] at H; exact H
                                clear H
                                have H := H1
                                clear H1
                                obtain rfl := Option.some.inj H
                                go_wp2
                                go_ret
                                exact ⟨by first | rfl | (simp [errW_none, errW_some] <;> rfl) | (simp [*, errW_none, errW_some] <;> rfl), by repeat (first | (with_reducible first | exact HB.out | apply below_alloc | apply pw_below_drewN | apply below_drew1 | refine below_set ?_ GE212.out) | exact HB.out)⟩
                              · replace c14 := Bool.eq_false_iff.mpr c14
                                subst c14
                                have H1 : (gangwaylaw20_StatEntries.j3 kj4 l0 x3_1 ((rd_T35 l0 x3_1).f0.f0) ((rd_T35 l0 x3_1).f0.f1) ((rd_T35 l0 x3_1).f0.f2) ((rd_T35 l0 x3_1).f0.f3) ((rd_T35 l0 x3_1).f0.f4) ((rd_T35 l0 x3_1).f0.f5) ((rd_T35 l0 x3_1).f0.f6) ((rd_T35 l0 x3_1).f1.f0) ((rd_T35 l0 x3_1).f1.f1) ((rd_T35 l0 x3_1).f1.f2) ((rd_T35 l0 x3_1).f1.f3) ((rd_T35 l0 x3_1).f1.f4) ((rd_T35 l0 x3_1).f1.f5) ((rd_T35 l0 x3_1).f2) ((rd_T35 l0 x3_1).f3) ((rd_T35 l0 x3_1).f4) ((rd_T35 l0 x3_1).f5) ((rd_T35 l0 x3_1).f6) ((rd_T35 l0 x3_1).f7.f0) ((rd_T35 l0 x3_1).f7.f1) ((rd_T35 l0 x3_1).f7.f2) ((rd_T35 l0 x3_1).f7.f3) ((rd_T35 l0 x3_1).f8)) = some r := by rw [if_neg (show ¬ (false = true) by decide)] at H; exact H
                                clear H
                                have H := H1
                                clear H1
                                have H' := Aside0.mk H
                                clear H
                                go_wp2
                                go_meet
                                case rel => exact ⟨_, H', ⟨by have := HK1.out; have := HJ2.out; have := HJ4.out; first | omega | exact Nat.le_refl _⟩, ⟨by (with_reducible repeat (first | refine blk_drewN ?_ _ | refine blk_drew ?_ | refine blk_alloc ?_ _)); exact BK212.out⟩, ⟨by repeat (first | (with_reducible first | exact HB.out | apply below_alloc | apply pw_below_drewN | apply below_drew1 | refine below_set ?_ GE212.out) | exact HB.out)⟩⟩
                            case rest =>
                              as_aux_lemma =>
                                clear HC10
                                try clear c1
                                try clear c2
                                try clear p2
                                try clear q2
                                try clear hx2
                                try clear c4
                                try clear c4b0
                                try clear c6
                                try clear c7
                                try clear c7b0
                                try clear c8
                                try clear c8b0
                                try clear c14
                                try clear hx211_0
                                try clear hx211_1
                                try clear hx211_10
                                try clear hx211_11
                                try clear hx211_12
                                try clear hx211_13
                                try clear hx211_14
                                try clear hx211_15
                                try clear hx211_16
                                try clear hx211_17
                                try clear hx211_18
                                try clear hx211_19
                                try clear hx211_2
                                try clear hx211_20
                                try clear hx211_21
                                try clear hx211_22
                                try clear hx211_3
                                try clear hx211_4
                                try clear hx211_5
                                try clear hx211_6
                                try clear hx211_7
                                try clear hx211_8
                                try clear hx211_9
                                try clear p2
                                try clear p211
                                try clear q211
                                obtain ⟨kq, HA, HJ9, BK212, HB⟩ := hcut
                                cases kq with
                                | zero => exact absurd HA.out (by simp [gangwaylaw20_StatEntries.j3])
                                | succ kj9 =>
                                  have H := HA.out
                                  clear HA
                                  simp only [gangwaylaw20_StatEntries.j3] at H
                                  replace H := Option.bind_eq_some_iff.mp H
                                  obtain ⟨⟨t214, t215⟩, A150, H⟩ := H
                                  replace H : (if ((rd_T35 l0 x3_1).f4) ≥ 0 then (if ((rd_T35 l0 x3_1).f5) ≥ 0 then (if ((rd_T35 l0 x3_1).f6) ≥ 1 then ((gangwayref20_Dirent.f kj9 ((rd_T35 l0 x3_1).f4) ((rd_T35 l0 x3_1).f5) ((rd_T35 l0 x3_1).f3) ((rd_T35 l0 x3_1).f6)).bind fun t218 => ((gangwaylaw20_is.f kj9 t214 t215 (decide (((rd_T35 l0 x3_1).f6) ≤ 3)) t218).bind fun t221 => (gangwaylaw20_StatEntries.j4 kj9 l0 x3_1 (!t221)))) else ((gangwayref20_Dirent.f kj9 ((rd_T35 l0 x3_1).f4) ((rd_T35 l0 x3_1).f5) ((rd_T35 l0 x3_1).f3) ((rd_T35 l0 x3_1).f6)).bind fun t222 => ((gangwaylaw20_is.f kj9 t214 t215 false t222).bind fun t225 => (gangwaylaw20_StatEntries.j4 kj9 l0 x3_1 (!t225))))) else ((gangwayref20_Dirent.f kj9 ((rd_T35 l0 x3_1).f4) ((rd_T35 l0 x3_1).f5) ((rd_T35 l0 x3_1).f3) ((rd_T35 l0 x3_1).f6)).bind fun t226 => ((gangwaylaw20_is.f kj9 t214 t215 false t226).bind fun t229 => (gangwaylaw20_StatEntries.j4 kj9 l0 x3_1 (!t229))))) else ((gangwayref20_Dirent.f kj9 ((rd_T35 l0 x3_1).f4) ((rd_T35 l0 x3_1).f5) ((rd_T35 l0 x3_1).f3) ((rd_T35 l0 x3_1).f6)).bind fun t230 => ((gangwaylaw20_is.f kj9 t214 t215 false t230).bind fun t233 => (gangwaylaw20_StatEntries.j4 kj9 l0 x3_1 (!t233))))) = some r := H
                                  have A15 := Aside0.mk A150
                                  clear A150
                                  have HC16 := Aside0.mk H
                                  clear H
                                  have hcz17_14 : wc.cell? ⟨gb212, 14, none⟩ = some (.string ((rd_T35 l0 x3_1).f3)) := (blk_cell BK212.out 14).trans rfl
                                  have hcz17_15 : wc.cell? ⟨gb212, 15, none⟩ = some (.int .i64 ((rd_T35 l0 x3_1).f4)) := (blk_cell BK212.out 15).trans rfl
                                  have hcz17_16 : wc.cell? ⟨gb212, 16, none⟩ = some (.int .i64 ((rd_T35 l0 x3_1).f5)) := (blk_cell BK212.out 16).trans rfl
                                  have hcz17_17 : wc.cell? ⟨gb212, 17, none⟩ = some (.int .i64 ((rd_T35 l0 x3_1).f6)) := (blk_cell BK212.out 17).trans rfl
                                  go_upto_region 8 with (first | ((with_reducible refine gate_callee (f := 16) rfl ?_); refine goesL_ (some 32) rfl rfl Try.func16 (by kernel_rfl) rfl #[.int .i64 ((rd_T35 l0 x3_1).f4), .int .i64 ((rd_T35 l0 x3_1).f5), .string ((rd_T35 l0 x3_1).f3), .int .i64 ((rd_T35 l0 x3_1).f6)] rfl (by (try simp only [List.map_toArray, List.map_cons, List.map_nil]); first | done | rfl | (simp only [List.length_drop, List.length_take]; rfl)) ?_; (with_reducible refine (stat_Dirent.calls kj9 ((rd_T35 l0 x3_1).f4) ((rd_T35 l0 x3_1).f5) ((rd_T35 l0 x3_1).f3) ((rd_T35 l0 x3_1).f6) t214 t215 _ A15.out).mono ?_); rintro e w18 ⟨v216, rfl, ho0, hb⟩; refine ⟨_, rfl, ?_⟩; have n0_ := Aside0.mk (Kd.R_lower ho0 (below_size (by repeat (first | (with_reducible first | exact HB.out | apply below_alloc | apply pw_below_drewN | apply below_drew1 | refine below_set ?_ GE212.out) | exact HB.out)))); have n1_ := Aside0.mk (blk_below (g := gb212) (o := .cells #[.int .i64 ((rd_T35 l0 x3_1).f0.f0), .int .i64 ((rd_T35 l0 x3_1).f0.f1), .int .i64 ((rd_T35 l0 x3_1).f0.f2), .int .i64 ((rd_T35 l0 x3_1).f0.f3), .int .i64 ((rd_T35 l0 x3_1).f0.f4), .int .i64 ((rd_T35 l0 x3_1).f0.f5), .string ((rd_T35 l0 x3_1).f0.f6), .int .i64 ((rd_T35 l0 x3_1).f1.f0), .slice A211_8 ((rd_T35 l0 x3_1).f1.f1).length c211_8, .slice A211_9 ((rd_T35 l0 x3_1).f1.f2).length c211_9, .string ((rd_T35 l0 x3_1).f1.f3), .int .i64 ((rd_T35 l0 x3_1).f1.f4), .int .i64 ((rd_T35 l0 x3_1).f1.f5), .int .i64 ((rd_T35 l0 x3_1).f2), .string ((rd_T35 l0 x3_1).f3), .int .i64 ((rd_T35 l0 x3_1).f4), .int .i64 ((rd_T35 l0 x3_1).f5), .int .i64 ((rd_T35 l0 x3_1).f6), .int .i64 ((rd_T35 l0 x3_1).f7.f0), .int .i64 ((rd_T35 l0 x3_1).f7.f1), .int .i64 ((rd_T35 l0 x3_1).f7.f2), .int .i64 ((rd_T35 l0 x3_1).f7.f3), .slice A211_22 ((rd_T35 l0 x3_1).f8).length c211_22] 35 (0, 0)) (by (with_reducible repeat (first | refine blk_drewN ?_ _ | refine blk_drew ?_ | refine blk_alloc ?_ _)); exact BK212.out) hb); have n2_ := Aside0.mk (below_step (by repeat (first | (with_reducible first | exact HB.out | apply below_alloc | apply pw_below_drewN | apply below_drew1 | refine below_set ?_ GE212.out) | exact HB.out)) hb); clear BK212; clear HB; have HO217 := n0_; have BK212 := n1_; have HB := n2_; clear n0_ n1_ n2_; (try clear hb); (try clear hb2); (try clear hk); (try clear hi); (try clear ho0)))
                                  (try simp only [Act.put, List.setIfInBounds_toArray, List.set_cons_zero, List.set_cons_succ])
                                  go_cut [65] (fun v65 wc => ∃ (kq : Nat) (x65_15 : Bool), v65 = .bool x65_15 ∧ Aside0 (gangwaylaw20_StatEntries.j4 kq l0 x3_1 x65_15 = some r) ∧ Aside0 (kq ≤ kj9) ∧ Aside0 (wc.heap[gb212]? = some (.cells #[.int .i64 ((rd_T35 l0 x3_1).f0.f0), .int .i64 ((rd_T35 l0 x3_1).f0.f1), .int .i64 ((rd_T35 l0 x3_1).f0.f2), .int .i64 ((rd_T35 l0 x3_1).f0.f3), .int .i64 ((rd_T35 l0 x3_1).f0.f4), .int .i64 ((rd_T35 l0 x3_1).f0.f5), .string ((rd_T35 l0 x3_1).f0.f6), .int .i64 ((rd_T35 l0 x3_1).f1.f0), (.slice A211_8 ((rd_T35 l0 x3_1).f1.f1).length c211_8), (.slice A211_9 ((rd_T35 l0 x3_1).f1.f2).length c211_9), .string ((rd_T35 l0 x3_1).f1.f3), .int .i64 ((rd_T35 l0 x3_1).f1.f4), .int .i64 ((rd_T35 l0 x3_1).f1.f5), .int .i64 ((rd_T35 l0 x3_1).f2), .string ((rd_T35 l0 x3_1).f3), .int .i64 ((rd_T35 l0 x3_1).f4), .int .i64 ((rd_T35 l0 x3_1).f5), .int .i64 ((rd_T35 l0 x3_1).f6), .int .i64 ((rd_T35 l0 x3_1).f7.f0), .int .i64 ((rd_T35 l0 x3_1).f7.f1), .int .i64 ((rd_T35 l0 x3_1).f7.f2), .int .i64 ((rd_T35 l0 x3_1).f7.f3), (.slice A211_22 ((rd_T35 l0 x3_1).f8).length c211_22)] 35 (0, 0))) ∧ Aside0 (Below w.heap.size w wc))
                                  case first =>
                                    have H := HC16.out
                                    clear HC16
                                    by_cases c19 : ((rd_T35 l0 x3_1).f4) ≥ 0
                                    · as_aux_lemma =>
                                        rw [if_pos c19] at H
                                        have c19b0 : decide (0 ≤ ((rd_T35 l0 x3_1).f4)) = true := decide_eq_true c19
                                        clear c19
                                        (first | rw [c19b0] | (simp only [i64_w, i32_w]; rw [c19b0]) | skip)
                                        by_cases c20 : ((rd_T35 l0 x3_1).f5) ≥ 0
                                        · as_aux_lemma =>
                                            rw [if_pos c20] at H
                                            have c20b0 : decide (0 ≤ ((rd_T35 l0 x3_1).f5)) = true := decide_eq_true c20
                                            clear c20
                                            by_cases c21 : ((rd_T35 l0 x3_1).f6) ≥ 1
                                            · as_aux_lemma =>
                                                rw [if_pos c21] at H
                                                have c21b0 : decide (1 ≤ ((rd_T35 l0 x3_1).f6)) = true := decide_eq_true c21
                                                clear c21
                                                replace H := Option.bind_eq_some_iff.mp H
                                                obtain ⟨t218, A220, H⟩ := H
                                                replace H : ((gangwaylaw20_is.f kj9 t214 t215 (decide (((rd_T35 l0 x3_1).f6) ≤ 3)) t218).bind fun t221 => (gangwaylaw20_StatEntries.j4 kj9 l0 x3_1 (!t221))) = some r := H
                                                have A22 := Aside0.mk A220
                                                clear A220
                                                replace H := Option.bind_eq_some_iff.mp H
                                                obtain ⟨t221, A230, H⟩ := H
                                                replace H : (gangwaylaw20_StatEntries.j4 kj9 l0 x3_1 (!t221)) = some r := H
                                                have A23 := Aside0.mk A230
                                                clear A230
                                                have H' := Aside0.mk H
                                                clear H
                                                try go_wp2
                                                have n0_ := Aside0.mk (Kd.R_drew HO217.out)
                                                have n1_ := Aside0.mk (blk_drew BK212.out)
                                                have n2_ := Aside0.mk (below_drew1 HB.out)
                                                clear HO217
                                                clear BK212
                                                clear HB
                                                have HO217 := n0_
                                                have BK212 := n1_
                                                have HB := n2_
                                                clear n0_ n1_ n2_
                                                refine start_ (n := 31) (S := fun w' => w'.cell? ⟨gb212, 14, none⟩ = some (.string ((rd_T35 l0 x3_1).f3)) ∧ w'.cell? ⟨gb212, 15, none⟩ = some (.int .i64 ((rd_T35 l0 x3_1).f4)) ∧ w'.cell? ⟨gb212, 16, none⟩ = some (.int .i64 ((rd_T35 l0 x3_1).f5)) ∧ w'.cell? ⟨gb212, 17, none⟩ = some (.int .i64 ((rd_T35 l0 x3_1).f6))) (ds := []) #[false, false, false, false, false, false, false, false, false, false, false, false, false, false, false, false, false, false, false, false, false, false, false, false, false, false, false, false, false, false, false] (by kernel_rfl) rfl rfl ⟨(blk_cell BK212.out 14).trans rfl, (blk_cell BK212.out 15).trans rfl, (blk_cell BK212.out 16).trans rfl, (blk_cell BK212.out 17).trans rfl⟩ (fun hHeld => ?_); refine with_tabW gangwaylaw20_StatEntries.tab8 gangwaylaw20_StatEntries.bits8 (fun HT_ HW_ => ?_)
                                                generalize w18.drew = w24 at HO217 BK212 HB hHeld ⊢
                                                refine pure_ (i := 0) (N := some 35) (v := ?_) (a' := ?_) #[true, false, false, false, false, false, false, false, false, false, false, false, false, false, false, false, false, false, false, false, false, false, false, false, false, false, false, false, false, false, false] rfl rfl (any_of HT_.out (by kernel_rfl)) (fun _ _ _ h => h) (Or.inl ⟨by rfl, ?_⟩) ?_ ?_
                                                rotate_left
                                                · intro w'
                                                  go_simp
                                                  with_reducible rfl
                                                rotate_left
                                                · simp only [Act.put, List.setIfInBounds_toArray, List.set_cons_zero, List.set_cons_succ, i64_w, i32_w]
                                                  rfl
                                                refine pure_ (i := 1) (N := some 36) (v := ?_) (a' := ?_) #[true, true, false, false, false, false, false, false, false, false, false, false, false, false, false, false, false, false, false, false, false, false, false, false, false, false, false, false, false, false, false] rfl rfl (any_of HT_.out (by kernel_rfl)) (fun _ _ _ h => h) (Or.inl ⟨by rfl, ?_⟩) ?_ ?_
                                                rotate_left
                                                · intro w'
                                                  go_simp
                                                  with_reducible rfl
                                                rotate_left
                                                · simp only [Act.put, List.setIfInBounds_toArray, List.set_cons_zero, List.set_cons_succ, i64_w, i32_w]
                                                  rfl
                                                refine pure_ (i := 2) (N := some 37) (v := ?_) (a' := ?_) #[true, true, true, false, false, false, false, false, false, false, false, false, false, false, false, false, false, false, false, false, false, false, false, false, false, false, false, false, false, false, false] rfl rfl (any_of HT_.out (by kernel_rfl)) (fun _ _ _ h => h) (Or.inl ⟨by rfl, ?_⟩) ?_ ?_
                                                rotate_left
                                                · intro w'
                                                  go_simp
                                                  with_reducible rfl
                                                rotate_left
                                                · simp only [Act.put, List.setIfInBounds_toArray, List.set_cons_zero, List.set_cons_succ, i64_w, i32_w]
                                                  rfl
                                                refine pure_ (i := 20) (N := some 55) (v := ?_) (a' := ?_) #[true, true, true, false, false, false, false, false, false, false, false, false, false, false, false, false, false, false, false, false, true, false, false, false, false, false, false, false, false, false, false] rfl rfl (any_of HT_.out (by kernel_rfl)) (fun _ _ _ h => h) (Or.inl ⟨by rfl, ?_⟩) ?_ ?_
                                                rotate_left
                                                · intro w'
                                                  go_simp
                                                  with_reducible rfl
                                                rotate_left
                                                · simp only [Act.put, List.setIfInBounds_toArray, List.set_cons_zero, List.set_cons_succ, i64_w, i32_w]
                                                  rfl
                                                refine pure_ (i := 22) (N := some 57) (v := ?_) (a' := ?_) #[true, true, true, false, false, false, false, false, false, false, false, false, false, false, false, false, false, false, false, false, true, false, true, false, false, false, false, false, false, false, false] rfl rfl (any_of HT_.out (by kernel_rfl)) (fun _ _ _ h => h) (Or.inl ⟨by rfl, ?_⟩) ?_ ?_
                                                rotate_left
                                                · intro w'
                                                  go_simp
                                                  with_reducible rfl
                                                rotate_left
                                                · simp only [Act.put, List.setIfInBounds_toArray, List.set_cons_zero, List.set_cons_succ, i64_w, i32_w]
                                                  rfl
                                                refine pure_ (i := 24) (N := some 59) (v := ?_) (a' := ?_) #[true, true, true, false, false, false, false, false, false, false, false, false, false, false, false, false, false, false, false, false, true, false, true, false, true, false, false, false, false, false, false] rfl rfl (any_of HT_.out (by kernel_rfl)) (fun _ _ _ h => h) (Or.inl ⟨by rfl, ?_⟩) ?_ ?_
                                                rotate_left
                                                · intro w'
                                                  go_simp
                                                  with_reducible rfl
                                                rotate_left
                                                · simp only [Act.put, List.setIfInBounds_toArray, List.set_cons_zero, List.set_cons_succ, i64_w, i32_w]
                                                  rfl
                                                refine pure_ (i := 26) (N := some 61) (v := ?_) (a' := ?_) #[true, true, true, false, false, false, false, false, false, false, false, false, false, false, false, false, false, false, false, false, true, false, true, false, true, false, true, false, false, false, false] rfl rfl (any_of HT_.out (by kernel_rfl)) (fun _ _ _ h => h) (Or.inl ⟨by rfl, ?_⟩) ?_ ?_
                                                rotate_left
                                                · intro w'
                                                  go_simp
                                                  with_reducible rfl
                                                rotate_left
                                                · simp only [Act.put, List.setIfInBounds_toArray, List.set_cons_zero, List.set_cons_succ, i64_w, i32_w]
                                                  rfl
                                                refine take_ (i := 3) (N := some 38) (v := ?_) (a' := ?_) #[true, true, true, true, false, false, false, false, false, false, false, false, false, false, false, false, false, false, false, false, true, false, true, false, true, false, true, false, false, false, false] rfl rfl (take_ofW HT_.out HW_.out (by kernel_rfl)) (fun _ _ _ h => h) (Or.inl ⟨by rfl, ?_⟩) hHeld ?_ ?_
                                                rotate_left
                                                · rintro w' ⟨s0, s1, s2, s3⟩
                                                  go_simp
                                                  with_reducible rfl
                                                rotate_left
                                                · simp only [Act.put, List.setIfInBounds_toArray, List.set_cons_zero, List.set_cons_succ, i64_w, i32_w]
                                                  rfl
                                                refine pure_ (i := 4) (N := some 39) (v := ?_) (a' := ?_) #[true, true, true, true, true, false, false, false, false, false, false, false, false, false, false, false, false, false, false, false, true, false, true, false, true, false, true, false, false, false, false] rfl rfl (any_of HT_.out (by kernel_rfl)) (fun _ _ _ h => h) (Or.inl ⟨by rfl, ?_⟩) ?_ ?_
                                                rotate_left
                                                · intro w'
                                                  go_simp
                                                  with_reducible rfl
                                                rotate_left
                                                · simp only [Act.put, List.setIfInBounds_toArray, List.set_cons_zero, List.set_cons_succ, i64_w, i32_w]
                                                  rfl
                                                refine pure_ (i := 5) (N := some 40) (v := ?_) (a' := ?_) #[true, true, true, true, true, true, false, false, false, false, false, false, false, false, false, false, false, false, false, false, true, false, true, false, true, false, true, false, false, false, false] rfl rfl (any_of HT_.out (by kernel_rfl)) (fun _ _ _ h => h) (Or.inl ⟨by rfl, ?_⟩) ?_ ?_
                                                rotate_left
                                                · intro w'
                                                  go_simp
                                                  with_reducible rfl
                                                rotate_left
                                                · simp only [Act.put, List.setIfInBounds_toArray, List.set_cons_zero, List.set_cons_succ, i64_w, i32_w]
                                                  rfl
                                                refine pure_ (i := 6) (N := some 41) (v := ?_) (a' := ?_) #[true, true, true, true, true, true, true, false, false, false, false, false, false, false, false, false, false, false, false, false, true, false, true, false, true, false, true, false, false, false, false] rfl rfl (any_of HT_.out (by kernel_rfl)) (fun _ _ _ h => h) (Or.inl ⟨by rfl, ?_⟩) ?_ ?_
                                                rotate_left
                                                · intro w'
                                                  go_simp
                                                  with_reducible rfl
                                                rotate_left
                                                · simp only [Act.put, List.setIfInBounds_toArray, List.set_cons_zero, List.set_cons_succ, i64_w, i32_w]
                                                  rfl
                                                refine take_ (i := 7) (N := some 42) (v := ?_) (a' := ?_) #[true, true, true, true, true, true, true, true, false, false, false, false, false, false, false, false, false, false, false, false, true, false, true, false, true, false, true, false, false, false, false] rfl rfl (take_ofW HT_.out HW_.out (by kernel_rfl)) (fun _ _ _ h => h) (Or.inl ⟨by rfl, ?_⟩) hHeld ?_ ?_
                                                rotate_left
                                                · rintro w' ⟨s0, s1, s2, s3⟩
                                                  go_simp
                                                  with_reducible rfl
                                                rotate_left
                                                · simp only [Act.put, List.setIfInBounds_toArray, List.set_cons_zero, List.set_cons_succ, i64_w, i32_w]
                                                  rfl
                                                refine pure_ (i := 8) (N := some 43) (v := ?_) (a' := ?_) #[true, true, true, true, true, true, true, true, true, false, false, false, false, false, false, false, false, false, false, false, true, false, true, false, true, false, true, false, false, false, false] rfl rfl (any_of HT_.out (by kernel_rfl)) (fun _ _ _ h => h) (Or.inl ⟨by rfl, ?_⟩) ?_ ?_
                                                rotate_left
                                                · intro w'
                                                  go_simp
                                                  with_reducible rfl
                                                rotate_left
                                                · simp only [Act.put, List.setIfInBounds_toArray, List.set_cons_zero, List.set_cons_succ, i64_w, i32_w]
                                                  rfl
                                                refine pure_ (i := 9) (N := some 44) (v := ?_) (a' := ?_) #[true, true, true, true, true, true, true, true, true, true, false, false, false, false, false, false, false, false, false, false, true, false, true, false, true, false, true, false, false, false, false] rfl rfl (any_of HT_.out (by kernel_rfl)) (fun _ _ _ h => h) (Or.inl ⟨by rfl, ?_⟩) ?_ ?_
                                                rotate_left
                                                · intro w'
                                                  go_simp
                                                  with_reducible rfl
                                                rotate_left
                                                · simp only [Act.put, List.setIfInBounds_toArray, List.set_cons_zero, List.set_cons_succ, i64_w, i32_w]
                                                  rfl
                                                refine pure_ (i := 10) (N := some 45) (v := ?_) (a' := ?_) #[true, true, true, true, true, true, true, true, true, true, true, false, false, false, false, false, false, false, false, false, true, false, true, false, true, false, true, false, false, false, false] rfl rfl (any_of HT_.out (by kernel_rfl)) (fun _ _ _ h => h) (Or.inl ⟨by rfl, ?_⟩) ?_ ?_
                                                rotate_left
                                                · intro w'
                                                  go_simp
                                                  with_reducible rfl
                                                rotate_left
                                                · simp only [Act.put, List.setIfInBounds_toArray, List.set_cons_zero, List.set_cons_succ, i64_w, i32_w]
                                                  rfl
                                                refine pure_ (i := 11) (N := some 46) (v := ?_) (a' := ?_) #[true, true, true, true, true, true, true, true, true, true, true, true, false, false, false, false, false, false, false, false, true, false, true, false, true, false, true, false, false, false, false] rfl rfl (any_of HT_.out (by kernel_rfl)) (fun _ _ _ h => h) (Or.inl ⟨by rfl, ?_⟩) ?_ ?_
                                                rotate_left
                                                · intro w'
                                                  go_simp
                                                  with_reducible rfl
                                                rotate_left
                                                · simp only [Act.put, List.setIfInBounds_toArray, List.set_cons_zero, List.set_cons_succ, i64_w, i32_w]
                                                  rfl
                                                refine take_ (i := 12) (N := some 47) (v := ?_) (a' := ?_) #[true, true, true, true, true, true, true, true, true, true, true, true, true, false, false, false, false, false, false, false, true, false, true, false, true, false, true, false, false, false, false] rfl rfl (take_ofW HT_.out HW_.out (by kernel_rfl)) (fun _ _ _ h => h) (Or.inl ⟨by rfl, ?_⟩) hHeld ?_ ?_
                                                rotate_left
                                                · rintro w' ⟨s0, s1, s2, s3⟩
                                                  go_simp
                                                  with_reducible rfl
                                                rotate_left
                                                · simp only [Act.put, List.setIfInBounds_toArray, List.set_cons_zero, List.set_cons_succ, i64_w, i32_w]
                                                  rfl
                                                refine pure_ (i := 13) (N := some 48) (v := ?_) (a' := ?_) #[true, true, true, true, true, true, true, true, true, true, true, true, true, true, false, false, false, false, false, false, true, false, true, false, true, false, true, false, false, false, false] rfl rfl (any_of HT_.out (by kernel_rfl)) (fun _ _ _ h => h) (Or.inl ⟨by rfl, ?_⟩) ?_ ?_
                                                rotate_left
                                                · intro w'
                                                  go_simp
                                                  with_reducible rfl
                                                rotate_left
                                                · simp only [Act.put, List.setIfInBounds_toArray, List.set_cons_zero, List.set_cons_succ, i64_w, i32_w]
                                                  rfl
                                                refine pure_ (i := 14) (N := some 49) (v := ?_) (a' := ?_) #[true, true, true, true, true, true, true, true, true, true, true, true, true, true, true, false, false, false, false, false, true, false, true, false, true, false, true, false, false, false, false] rfl rfl (any_of HT_.out (by kernel_rfl)) (fun _ _ _ h => h) (Or.inl ⟨by rfl, ?_⟩) ?_ ?_
                                                rotate_left
                                                · intro w'
                                                  go_simp
                                                  with_reducible rfl
                                                rotate_left
                                                · simp only [Act.put, List.setIfInBounds_toArray, List.set_cons_zero, List.set_cons_succ, i64_w, i32_w]
                                                  rfl
                                                refine pure_ (i := 15) (N := some 50) (v := ?_) (a' := ?_) #[true, true, true, true, true, true, true, true, true, true, true, true, true, true, true, true, false, false, false, false, true, false, true, false, true, false, true, false, false, false, false] rfl rfl (any_of HT_.out (by kernel_rfl)) (fun _ _ _ h => h) (Or.inl ⟨by rfl, ?_⟩) ?_ ?_
                                                rotate_left
                                                · intro w'
                                                  go_simp
                                                  with_reducible rfl
                                                rotate_left
                                                · simp only [Act.put, List.setIfInBounds_toArray, List.set_cons_zero, List.set_cons_succ, i64_w, i32_w]
                                                  rfl
                                                refine pure_ (i := 16) (N := some 51) (v := ?_) (a' := ?_) #[true, true, true, true, true, true, true, true, true, true, true, true, true, true, true, true, true, false, false, false, true, false, true, false, true, false, true, false, false, false, false] rfl rfl (any_of HT_.out (by kernel_rfl)) (fun _ _ _ h => h) (Or.inl ⟨by rfl, ?_⟩) ?_ ?_
                                                rotate_left
                                                · intro w'
                                                  go_simp
                                                  with_reducible rfl
                                                rotate_left
                                                · simp only [Act.put, List.setIfInBounds_toArray, List.set_cons_zero, List.set_cons_succ, i64_w, i32_w]
                                                  rfl
                                                refine take_ (i := 17) (N := some 52) (v := ?_) (a' := ?_) #[true, true, true, true, true, true, true, true, true, true, true, true, true, true, true, true, true, true, false, false, true, false, true, false, true, false, true, false, false, false, false] rfl rfl (take_ofW HT_.out HW_.out (by kernel_rfl)) (fun _ _ _ h => h) (Or.inl ⟨by rfl, ?_⟩) hHeld ?_ ?_
                                                rotate_left
                                                · rintro w' ⟨s0, s1, s2, s3⟩
                                                  go_simp
                                                  with_reducible rfl
                                                rotate_left
                                                · simp only [Act.put, List.setIfInBounds_toArray, List.set_cons_zero, List.set_cons_succ, i64_w, i32_w]
                                                  rfl
                                                refine pure_ (i := 18) (N := some 53) (v := ?_) (a' := ?_) #[true, true, true, true, true, true, true, true, true, true, true, true, true, true, true, true, true, true, true, false, true, false, true, false, true, false, true, false, false, false, false] rfl rfl (any_of HT_.out (by kernel_rfl)) (fun _ _ _ h => h) (Or.inl ⟨by rfl, ?_⟩) ?_ ?_
                                                rotate_left
                                                · intro w'
                                                  go_simp
                                                  with_reducible rfl
                                                rotate_left
                                                · simp only [Act.put, List.setIfInBounds_toArray, List.set_cons_zero, List.set_cons_succ, i64_w, i32_w]
                                                  rfl
                                                refine pure_ (i := 19) (N := some 54) (v := ?_) (a' := ?_) #[true, true, true, true, true, true, true, true, true, true, true, true, true, true, true, true, true, true, true, true, true, false, true, false, true, false, true, false, false, false, false] rfl rfl (any_of HT_.out (by kernel_rfl)) (fun _ _ _ h => h) (Or.inl ⟨by rfl, ?_⟩) ?_ ?_
                                                rotate_left
                                                · intro w'
                                                  go_simp
                                                  with_reducible rfl
                                                rotate_left
                                                · simp only [Act.put, List.setIfInBounds_toArray, List.set_cons_zero, List.set_cons_succ, i64_w, i32_w]
                                                  rfl
                                                refine take_ (i := 21) (N := some 56) (v := ?_) (a' := ?_) #[true, true, true, true, true, true, true, true, true, true, true, true, true, true, true, true, true, true, true, true, true, true, true, false, true, false, true, false, false, false, false] rfl rfl (take_ofW HT_.out HW_.out (by kernel_rfl)) (fun _ _ _ h => h) (Or.inl ⟨by rfl, ?_⟩) hHeld ?_ ?_
                                                rotate_left
                                                · rintro w' ⟨s0, s1, s2, s3⟩
                                                  go_simp
                                                  with_reducible rfl
                                                rotate_left
                                                · simp only [Act.put, List.setIfInBounds_toArray, List.set_cons_zero, List.set_cons_succ, i64_w, i32_w]
                                                  rfl
                                                refine take_ (i := 23) (N := some 58) (v := ?_) (a' := ?_) #[true, true, true, true, true, true, true, true, true, true, true, true, true, true, true, true, true, true, true, true, true, true, true, true, true, false, true, false, false, false, false] rfl rfl (take_ofW HT_.out HW_.out (by kernel_rfl)) (fun _ _ _ h => h) (Or.inl ⟨by rfl, ?_⟩) hHeld ?_ ?_
                                                rotate_left
                                                · rintro w' ⟨s0, s1, s2, s3⟩
                                                  go_simp
                                                  with_reducible rfl
                                                rotate_left
                                                · simp only [Act.put, List.setIfInBounds_toArray, List.set_cons_zero, List.set_cons_succ, i64_w, i32_w]
                                                  rfl
                                                refine take_ (i := 25) (N := some 60) (v := ?_) (a' := ?_) #[true, true, true, true, true, true, true, true, true, true, true, true, true, true, true, true, true, true, true, true, true, true, true, true, true, true, true, false, false, false, false] rfl rfl (take_ofW HT_.out HW_.out (by kernel_rfl)) (fun _ _ _ h => h) (Or.inl ⟨by rfl, ?_⟩) hHeld ?_ ?_
                                                rotate_left
                                                · rintro w' ⟨s0, s1, s2, s3⟩
                                                  go_simp
                                                  with_reducible rfl
                                                rotate_left
                                                · simp only [Act.put, List.setIfInBounds_toArray, List.set_cons_zero, List.set_cons_succ, i64_w, i32_w]
                                                  rfl
                                                refine take_ (i := 27) (N := some 62) (v := ?_) (a' := ?_) #[true, true, true, true, true, true, true, true, true, true, true, true, true, true, true, true, true, true, true, true, true, true, true, true, true, true, true, true, false, false, false] rfl rfl (take_ofW HT_.out HW_.out (by kernel_rfl)) (fun _ _ _ h => h) (Or.inl ⟨by rfl, ?_⟩) hHeld ?_ ?_
                                                rotate_left
                                                · rintro w' ⟨s0, s1, s2, s3⟩
                                                  go_simp
                                                  with_reducible rfl
                                                rotate_left
                                                · simp only [Act.put, List.setIfInBounds_toArray, List.set_cons_zero, List.set_cons_succ, i64_w, i32_w]
                                                  rfl
                                                refine one_ (i := 28) (N := some 63) #[true, true, true, true, true, true, true, true, true, true, true, true, true, true, true, true, true, true, true, true, true, true, true, true, true, true, true, true, true, false, false] rfl rfl (one_of HT_.out (by kernel_rfl)) (by decide) (fun K hK => ?_)
                                                refine goes_ Try.func17 (by kernel_rfl) rfl #[.int .i64 ((rd_T35 l0 x3_1).f4), .int .i64 ((rd_T35 l0 x3_1).f5), .string ((rd_T35 l0 x3_1).f3), .int .i64 ((rd_T35 l0 x3_1).f6)] (by rfl) rfl rfl (by (try simp only [List.map_toArray, List.map_cons, List.map_nil]); first | done | rfl | (simp only [List.length_drop, List.length_take]; rfl)) ?_
                                                with_reducible refine (gangwayref20_Dirent.calls kj9 ((rd_T35 l0 x3_1).f4) ((rd_T35 l0 x3_1).f5) ((rd_T35 l0 x3_1).f3) ((rd_T35 l0 x3_1).f6) t218 _ A22.out).mono ?_
                                                rintro e w25 ⟨v219, rfl, ho0, hb⟩
                                                refine ⟨_, rfl, ?_⟩
                                                have n0_ := Aside0.mk (Kd.R_elder' (by (with_reducible repeat (first | apply Kd.R_alloc | apply Kd.R_drewN | apply Kd.R_drew)); exact HO217.out) (Kd.R_base ho0) hb)
                                                have n1_ := Aside0.mk (Kd.R_lower (Kd.R_new' ho0 (Kd.R_lt (by (with_reducible repeat (first | apply Kd.R_alloc | apply Kd.R_drewN | apply Kd.R_drew)); exact HO217.out))) (below_size (by repeat (first | (with_reducible first | exact HB.out | apply below_alloc | apply pw_below_drewN | apply below_drew1 | refine below_set ?_ GE212.out) | exact HB.out))))
                                                have n2_ := Aside0.mk (blk_below (g := gb212) (o := .cells #[.int .i64 ((rd_T35 l0 x3_1).f0.f0), .int .i64 ((rd_T35 l0 x3_1).f0.f1), .int .i64 ((rd_T35 l0 x3_1).f0.f2), .int .i64 ((rd_T35 l0 x3_1).f0.f3), .int .i64 ((rd_T35 l0 x3_1).f0.f4), .int .i64 ((rd_T35 l0 x3_1).f0.f5), .string ((rd_T35 l0 x3_1).f0.f6), .int .i64 ((rd_T35 l0 x3_1).f1.f0), .slice A211_8 ((rd_T35 l0 x3_1).f1.f1).length c211_8, .slice A211_9 ((rd_T35 l0 x3_1).f1.f2).length c211_9, .string ((rd_T35 l0 x3_1).f1.f3), .int .i64 ((rd_T35 l0 x3_1).f1.f4), .int .i64 ((rd_T35 l0 x3_1).f1.f5), .int .i64 ((rd_T35 l0 x3_1).f2), .string ((rd_T35 l0 x3_1).f3), .int .i64 ((rd_T35 l0 x3_1).f4), .int .i64 ((rd_T35 l0 x3_1).f5), .int .i64 ((rd_T35 l0 x3_1).f6), .int .i64 ((rd_T35 l0 x3_1).f7.f0), .int .i64 ((rd_T35 l0 x3_1).f7.f1), .int .i64 ((rd_T35 l0 x3_1).f7.f2), .int .i64 ((rd_T35 l0 x3_1).f7.f3), .slice A211_22 ((rd_T35 l0 x3_1).f8).length c211_22] 35 (0, 0)) (by (with_reducible repeat (first | refine blk_drewN ?_ _ | refine blk_drew ?_ | refine blk_alloc ?_ _)); exact BK212.out) hb)
                                                have n3_ := Aside0.mk (below_step (by repeat (first | (with_reducible first | exact HB.out | apply below_alloc | apply pw_below_drewN | apply below_drew1 | refine below_set ?_ GE212.out) | exact HB.out)) hb)
                                                clear HO217
                                                clear BK212
                                                clear HB
                                                have HO217 := n0_
                                                have HO220 := n1_
                                                have BK212 := n2_
                                                have HB := n3_
                                                clear n0_ n1_ n2_ n3_
                                                (try clear hb)
                                                (try clear hb2)
                                                (try clear hk)
                                                (try clear hi)
                                                (try clear ho0)
                                                obtain ⟨Ao26, co26, eo26⟩ := Kd.R_slice HO217.out
                                                (first | subst eo26 | (injection eo26 with f1_ f2_ f3_; have f4_ := f1_.symm; have f5_ := f3_.symm; clear f1_ f2_ f3_; subst f4_; subst f5_))
                                                obtain ⟨Ao27, co27, eo27⟩ := Kd.R_slice HO220.out
                                                (first | subst eo27 | (injection eo27 with f1_ f2_ f3_; have f4_ := f1_.symm; have f5_ := f3_.symm; clear f1_ f2_ f3_; subst f4_; subst f5_))
                                                refine hK.out _ _ ⟨(blk_cell BK212.out 14).trans rfl, (blk_cell BK212.out 15).trans rfl, (blk_cell BK212.out 16).trans rfl, (blk_cell BK212.out 17).trans rfl⟩ (fun hHeld => ?_)
                                                clear hK K
                                                refine norm_ (a' := ?_) ?_ ?_
                                                rotate_left
                                                · show Act.put _ (some 63) _ = _
                                                  simp only [Act.put, List.setIfInBounds_toArray, List.set_cons_zero, List.set_cons_succ, i64_w, i32_w]
                                                  rfl
                                                refine one_ (i := 29) (N := some 64) #[true, true, true, true, true, true, true, true, true, true, true, true, true, true, true, true, true, true, true, true, true, true, true, true, true, true, true, true, true, true, false] rfl rfl (one_of HT_.out (by kernel_rfl)) (by decide) (fun K hK => ?_)
                                                refine goes_ Try.func11 (by kernel_rfl) rfl #[.slice Ao26 t214.length co26, .int .i64 t215, .bool (decide (((rd_T35 l0 x3_1).f6) ≤ 3)), .slice Ao27 t218.length co27] (by rfl) rfl rfl (by (try simp only [List.map_toArray, List.map_cons, List.map_nil]); first | done | rfl | (simp only [List.length_drop, List.length_take]; rfl)) ?_
                                                with_reducible refine (gangwaylaw20_is.calls kj9 _ _ t214 t215 (decide (((rd_T35 l0 x3_1).f6) ≤ 3)) _ _ t218 t221 _ ?side1 ?side2 ?side3 ?side4 A23.out).mono ?_
                                                (case side1 => repeat (first | exact (Kd.R_reads' HO217.out).2.2 | (with_reducible refine Kd.C_alloc ?_ _) | (with_reducible refine Kd.C_drewN ?_ _) | (with_reducible refine Kd.C_drew ?_)))
                                                (case side2 => exact (Kd.R_reads' HO217.out).2.1)
                                                (case side3 => repeat (first | exact (Kd.R_reads' HO220.out).2.2 | (with_reducible refine Kd.C_alloc ?_ _) | (with_reducible refine Kd.C_drewN ?_ _) | (with_reducible refine Kd.C_drew ?_)))
                                                (case side4 => exact (Kd.R_reads' HO220.out).2.1)
                                                rintro e w' ⟨rfl, ⟨nd, rfl⟩⟩
                                                refine ⟨_, rfl, ?_⟩
                                                refine hK.out _ _ ⟨(blk_cell BK212.out 14).trans rfl, (blk_cell BK212.out 15).trans rfl, (blk_cell BK212.out 16).trans rfl, (blk_cell BK212.out 17).trans rfl⟩ (fun hHeld => ?_)
                                                clear hK K
                                                refine norm_ (a' := ?_) ?_ ?_
                                                rotate_left
                                                · show Act.put _ (some 64) _ = _
                                                  simp only [Act.put, List.setIfInBounds_toArray, List.set_cons_zero, List.set_cons_succ, i64_w, i32_w]
                                                  rfl
                                                refine pure_ (i := 30) (N := some 65) (v := ?_) (a' := ?_) #[true, true, true, true, true, true, true, true, true, true, true, true, true, true, true, true, true, true, true, true, true, true, true, true, true, true, true, true, true, true, true] rfl rfl (any_of HT_.out (by kernel_rfl)) (fun _ _ _ h => h) (Or.inl ⟨by rfl, ?_⟩) ?_ ?_
                                                rotate_left
                                                · intro w'
                                                  go_simp
                                                  with_reducible rfl
                                                rotate_left
                                                · simp only [Act.put, List.setIfInBounds_toArray, List.set_cons_zero, List.set_cons_succ, i64_w, i32_w]
                                                  rfl
                                                refine done_ (done_of HT_.out (by kernel_rfl)) ?_
                                                try go_wp2
                                                go_meet
                                                case rel => exact ⟨_, (!t221), (by first | rfl | (simp; done) | (simp [*]; done)), H', ⟨by have := HK1.out; have := HJ2.out; have := HJ4.out; have := HJ9.out; first | omega | exact Nat.le_refl _⟩, ⟨by (with_reducible repeat (first | refine blk_drewN ?_ _ | refine blk_drew ?_ | refine blk_alloc ?_ _)); exact BK212.out⟩, ⟨by repeat (first | (with_reducible first | exact HB.out | apply below_alloc | apply pw_below_drewN | apply below_drew1 | refine below_set ?_ GE212.out) | exact HB.out)⟩⟩
                                            · as_aux_lemma =>
                                                rw [if_neg c21] at H
                                                have c21b0 : decide (1 ≤ ((rd_T35 l0 x3_1).f6)) = false := decide_eq_false c21
                                                clear c21
                                                replace H := Option.bind_eq_some_iff.mp H
                                                obtain ⟨t222, A280, H⟩ := H
                                                replace H : ((gangwaylaw20_is.f kj9 t214 t215 false t222).bind fun t225 => (gangwaylaw20_StatEntries.j4 kj9 l0 x3_1 (!t225))) = some r := H
                                                have A28 := Aside0.mk A280
                                                clear A280
                                                replace H := Option.bind_eq_some_iff.mp H
                                                obtain ⟨t225, A290, H⟩ := H
                                                replace H : (gangwaylaw20_StatEntries.j4 kj9 l0 x3_1 (!t225)) = some r := H
                                                have A29 := Aside0.mk A290
                                                clear A290
                                                have H' := Aside0.mk H
                                                clear H
                                                try go_wp2
                                                have n0_ := Aside0.mk (Kd.R_drew HO217.out)
                                                have n1_ := Aside0.mk (blk_drew BK212.out)
                                                have n2_ := Aside0.mk (below_drew1 HB.out)
                                                clear HO217
                                                clear BK212
                                                clear HB
                                                have HO217 := n0_
                                                have BK212 := n1_
                                                have HB := n2_
                                                clear n0_ n1_ n2_
                                                refine start_ (n := 31) (S := fun w' => w'.cell? ⟨gb212, 14, none⟩ = some (.string ((rd_T35 l0 x3_1).f3)) ∧ w'.cell? ⟨gb212, 15, none⟩ = some (.int .i64 ((rd_T35 l0 x3_1).f4)) ∧ w'.cell? ⟨gb212, 16, none⟩ = some (.int .i64 ((rd_T35 l0 x3_1).f5)) ∧ w'.cell? ⟨gb212, 17, none⟩ = some (.int .i64 ((rd_T35 l0 x3_1).f6))) (ds := []) #[false, false, false, false, false, false, false, false, false, false, false, false, false, false, false, false, false, false, false, false, false, false, false, false, false, false, false, false, false, false, false] (by kernel_rfl) rfl rfl ⟨(blk_cell BK212.out 14).trans rfl, (blk_cell BK212.out 15).trans rfl, (blk_cell BK212.out 16).trans rfl, (blk_cell BK212.out 17).trans rfl⟩ (fun hHeld => ?_); refine with_tabW gangwaylaw20_StatEntries.tab8 gangwaylaw20_StatEntries.bits8 (fun HT_ HW_ => ?_)
                                                generalize w18.drew = w30 at HO217 BK212 HB hHeld ⊢
                                                refine pure_ (i := 0) (N := some 35) (v := ?_) (a' := ?_) #[true, false, false, false, false, false, false, false, false, false, false, false, false, false, false, false, false, false, false, false, false, false, false, false, false, false, false, false, false, false, false] rfl rfl (any_of HT_.out (by kernel_rfl)) (fun _ _ _ h => h) (Or.inl ⟨by rfl, ?_⟩) ?_ ?_
                                                rotate_left
                                                · intro w'
                                                  go_simp
                                                  with_reducible rfl
                                                rotate_left
                                                · simp only [Act.put, List.setIfInBounds_toArray, List.set_cons_zero, List.set_cons_succ, i64_w, i32_w]
                                                  rfl
                                                refine pure_ (i := 1) (N := some 36) (v := ?_) (a' := ?_) #[true, true, false, false, false, false, false, false, false, false, false, false, false, false, false, false, false, false, false, false, false, false, false, false, false, false, false, false, false, false, false] rfl rfl (any_of HT_.out (by kernel_rfl)) (fun _ _ _ h => h) (Or.inl ⟨by rfl, ?_⟩) ?_ ?_
                                                rotate_left
                                                · intro w'
                                                  go_simp
                                                  with_reducible rfl
                                                rotate_left
                                                · simp only [Act.put, List.setIfInBounds_toArray, List.set_cons_zero, List.set_cons_succ, i64_w, i32_w]
                                                  rfl
                                                refine pure_ (i := 2) (N := some 37) (v := ?_) (a' := ?_) #[true, true, true, false, false, false, false, false, false, false, false, false, false, false, false, false, false, false, false, false, false, false, false, false, false, false, false, false, false, false, false] rfl rfl (any_of HT_.out (by kernel_rfl)) (fun _ _ _ h => h) (Or.inl ⟨by rfl, ?_⟩) ?_ ?_
                                                rotate_left
                                                · intro w'
                                                  go_simp
                                                  with_reducible rfl
                                                rotate_left
                                                · simp only [Act.put, List.setIfInBounds_toArray, List.set_cons_zero, List.set_cons_succ, i64_w, i32_w]
                                                  rfl
                                                refine pure_ (i := 20) (N := some 55) (v := ?_) (a' := ?_) #[true, true, true, false, false, false, false, false, false, false, false, false, false, false, false, false, false, false, false, false, true, false, false, false, false, false, false, false, false, false, false] rfl rfl (any_of HT_.out (by kernel_rfl)) (fun _ _ _ h => h) (Or.inl ⟨by rfl, ?_⟩) ?_ ?_
                                                rotate_left
                                                · intro w'
                                                  go_simp
                                                  with_reducible rfl
                                                rotate_left
                                                · simp only [Act.put, List.setIfInBounds_toArray, List.set_cons_zero, List.set_cons_succ, i64_w, i32_w]
                                                  rfl
                                                refine pure_ (i := 22) (N := some 57) (v := ?_) (a' := ?_) #[true, true, true, false, false, false, false, false, false, false, false, false, false, false, false, false, false, false, false, false, true, false, true, false, false, false, false, false, false, false, false] rfl rfl (any_of HT_.out (by kernel_rfl)) (fun _ _ _ h => h) (Or.inl ⟨by rfl, ?_⟩) ?_ ?_
                                                rotate_left
                                                · intro w'
                                                  go_simp
                                                  with_reducible rfl
                                                rotate_left
                                                · simp only [Act.put, List.setIfInBounds_toArray, List.set_cons_zero, List.set_cons_succ, i64_w, i32_w]
                                                  rfl
                                                refine pure_ (i := 24) (N := some 59) (v := ?_) (a' := ?_) #[true, true, true, false, false, false, false, false, false, false, false, false, false, false, false, false, false, false, false, false, true, false, true, false, true, false, false, false, false, false, false] rfl rfl (any_of HT_.out (by kernel_rfl)) (fun _ _ _ h => h) (Or.inl ⟨by rfl, ?_⟩) ?_ ?_
                                                rotate_left
                                                · intro w'
                                                  go_simp
                                                  with_reducible rfl
                                                rotate_left
                                                · simp only [Act.put, List.setIfInBounds_toArray, List.set_cons_zero, List.set_cons_succ, i64_w, i32_w]
                                                  rfl
                                                refine pure_ (i := 26) (N := some 61) (v := ?_) (a' := ?_) #[true, true, true, false, false, false, false, false, false, false, false, false, false, false, false, false, false, false, false, false, true, false, true, false, true, false, true, false, false, false, false] rfl rfl (any_of HT_.out (by kernel_rfl)) (fun _ _ _ h => h) (Or.inl ⟨by rfl, ?_⟩) ?_ ?_
                                                rotate_left
                                                · intro w'
                                                  go_simp
                                                  with_reducible rfl
                                                rotate_left
                                                · simp only [Act.put, List.setIfInBounds_toArray, List.set_cons_zero, List.set_cons_succ, i64_w, i32_w]
                                                  rfl
                                                refine take_ (i := 3) (N := some 38) (v := ?_) (a' := ?_) #[true, true, true, true, false, false, false, false, false, false, false, false, false, false, false, false, false, false, false, false, true, false, true, false, true, false, true, false, false, false, false] rfl rfl (take_ofW HT_.out HW_.out (by kernel_rfl)) (fun _ _ _ h => h) (Or.inl ⟨by rfl, ?_⟩) hHeld ?_ ?_
                                                rotate_left
                                                · rintro w' ⟨s0, s1, s2, s3⟩
                                                  go_simp
                                                  with_reducible rfl
                                                rotate_left
                                                · simp only [Act.put, List.setIfInBounds_toArray, List.set_cons_zero, List.set_cons_succ, i64_w, i32_w]
                                                  rfl
                                                refine pure_ (i := 4) (N := some 39) (v := ?_) (a' := ?_) #[true, true, true, true, true, false, false, false, false, false, false, false, false, false, false, false, false, false, false, false, true, false, true, false, true, false, true, false, false, false, false] rfl rfl (any_of HT_.out (by kernel_rfl)) (fun _ _ _ h => h) (Or.inl ⟨by rfl, ?_⟩) ?_ ?_
                                                rotate_left
                                                · intro w'
                                                  go_simp
                                                  with_reducible rfl
                                                rotate_left
                                                · simp only [Act.put, List.setIfInBounds_toArray, List.set_cons_zero, List.set_cons_succ, i64_w, i32_w]
                                                  rfl
                                                refine pure_ (i := 5) (N := some 40) (v := ?_) (a' := ?_) #[true, true, true, true, true, true, false, false, false, false, false, false, false, false, false, false, false, false, false, false, true, false, true, false, true, false, true, false, false, false, false] rfl rfl (any_of HT_.out (by kernel_rfl)) (fun _ _ _ h => h) (Or.inl ⟨by rfl, ?_⟩) ?_ ?_
                                                rotate_left
                                                · intro w'
                                                  go_simp
                                                  with_reducible rfl
                                                rotate_left
                                                · simp only [Act.put, List.setIfInBounds_toArray, List.set_cons_zero, List.set_cons_succ, i64_w, i32_w]
                                                  rfl
                                                refine pure_ (i := 6) (N := some 41) (v := ?_) (a' := ?_) #[true, true, true, true, true, true, true, false, false, false, false, false, false, false, false, false, false, false, false, false, true, false, true, false, true, false, true, false, false, false, false] rfl rfl (any_of HT_.out (by kernel_rfl)) (fun _ _ _ h => h) (Or.inl ⟨by rfl, ?_⟩) ?_ ?_
                                                rotate_left
                                                · intro w'
                                                  go_simp
                                                  with_reducible rfl
                                                rotate_left
                                                · simp only [Act.put, List.setIfInBounds_toArray, List.set_cons_zero, List.set_cons_succ, i64_w, i32_w]
                                                  rfl
                                                refine take_ (i := 7) (N := some 42) (v := ?_) (a' := ?_) #[true, true, true, true, true, true, true, true, false, false, false, false, false, false, false, false, false, false, false, false, true, false, true, false, true, false, true, false, false, false, false] rfl rfl (take_ofW HT_.out HW_.out (by kernel_rfl)) (fun _ _ _ h => h) (Or.inl ⟨by rfl, ?_⟩) hHeld ?_ ?_
                                                rotate_left
                                                · rintro w' ⟨s0, s1, s2, s3⟩
                                                  go_simp
                                                  with_reducible rfl
                                                rotate_left
                                                · simp only [Act.put, List.setIfInBounds_toArray, List.set_cons_zero, List.set_cons_succ, i64_w, i32_w]
                                                  rfl
                                                refine pure_ (i := 8) (N := some 43) (v := ?_) (a' := ?_) #[true, true, true, true, true, true, true, true, true, false, false, false, false, false, false, false, false, false, false, false, true, false, true, false, true, false, true, false, false, false, false] rfl rfl (any_of HT_.out (by kernel_rfl)) (fun _ _ _ h => h) (Or.inl ⟨by rfl, ?_⟩) ?_ ?_
                                                rotate_left
                                                · intro w'
                                                  go_simp
                                                  with_reducible rfl
                                                rotate_left
                                                · simp only [Act.put, List.setIfInBounds_toArray, List.set_cons_zero, List.set_cons_succ, i64_w, i32_w]
                                                  rfl
                                                refine pure_ (i := 9) (N := some 44) (v := ?_) (a' := ?_) #[true, true, true, true, true, true, true, true, true, true, false, false, false, false, false, false, false, false, false, false, true, false, true, false, true, false, true, false, false, false, false] rfl rfl (any_of HT_.out (by kernel_rfl)) (fun _ _ _ h => h) (Or.inl ⟨by rfl, ?_⟩) ?_ ?_
                                                rotate_left
                                                · intro w'
                                                  go_simp
                                                  with_reducible rfl
                                                rotate_left
                                                · simp only [Act.put, List.setIfInBounds_toArray, List.set_cons_zero, List.set_cons_succ, i64_w, i32_w]
                                                  rfl
                                                refine pure_ (i := 10) (N := some 45) (v := ?_) (a' := ?_) #[true, true, true, true, true, true, true, true, true, true, true, false, false, false, false, false, false, false, false, false, true, false, true, false, true, false, true, false, false, false, false] rfl rfl (any_of HT_.out (by kernel_rfl)) (fun _ _ _ h => h) (Or.inl ⟨by rfl, ?_⟩) ?_ ?_
                                                rotate_left
                                                · intro w'
                                                  go_simp
                                                  with_reducible rfl
                                                rotate_left
                                                · simp only [Act.put, List.setIfInBounds_toArray, List.set_cons_zero, List.set_cons_succ, i64_w, i32_w]
                                                  rfl
                                                refine pure_ (i := 11) (N := some 46) (v := ?_) (a' := ?_) #[true, true, true, true, true, true, true, true, true, true, true, true, false, false, false, false, false, false, false, false, true, false, true, false, true, false, true, false, false, false, false] rfl rfl (any_of HT_.out (by kernel_rfl)) (fun _ _ _ h => h) (Or.inl ⟨by rfl, ?_⟩) ?_ ?_
                                                rotate_left
                                                · intro w'
                                                  go_simp
                                                  with_reducible rfl
                                                rotate_left
                                                · simp only [Act.put, List.setIfInBounds_toArray, List.set_cons_zero, List.set_cons_succ, i64_w, i32_w]
                                                  rfl
                                                refine take_ (i := 12) (N := some 47) (v := ?_) (a' := ?_) #[true, true, true, true, true, true, true, true, true, true, true, true, true, false, false, false, false, false, false, false, true, false, true, false, true, false, true, false, false, false, false] rfl rfl (take_ofW HT_.out HW_.out (by kernel_rfl)) (fun _ _ _ h => h) (Or.inl ⟨by rfl, ?_⟩) hHeld ?_ ?_
                                                rotate_left
                                                · rintro w' ⟨s0, s1, s2, s3⟩
                                                  go_simp
                                                  with_reducible rfl
                                                rotate_left
                                                · simp only [Act.put, List.setIfInBounds_toArray, List.set_cons_zero, List.set_cons_succ, i64_w, i32_w]
                                                  rfl
                                                refine pure_ (i := 13) (N := some 48) (v := ?_) (a' := ?_) #[true, true, true, true, true, true, true, true, true, true, true, true, true, true, false, false, false, false, false, false, true, false, true, false, true, false, true, false, false, false, false] rfl rfl (any_of HT_.out (by kernel_rfl)) (fun _ _ _ h => h) (Or.inl ⟨by rfl, ?_⟩) ?_ ?_
                                                rotate_left
                                                · intro w'
                                                  go_simp
                                                  with_reducible rfl
                                                rotate_left
                                                · simp only [Act.put, List.setIfInBounds_toArray, List.set_cons_zero, List.set_cons_succ, i64_w, i32_w]
                                                  rfl
                                                refine pure_ (i := 14) (N := some 49) (v := ?_) (a' := ?_) #[true, true, true, true, true, true, true, true, true, true, true, true, true, true, true, false, false, false, false, false, true, false, true, false, true, false, true, false, false, false, false] rfl rfl (any_of HT_.out (by kernel_rfl)) (fun _ _ _ h => h) (Or.inl ⟨by rfl, ?_⟩) ?_ ?_
                                                rotate_left
                                                · intro w'
                                                  go_simp
                                                  with_reducible rfl
                                                rotate_left
                                                · simp only [Act.put, List.setIfInBounds_toArray, List.set_cons_zero, List.set_cons_succ, i64_w, i32_w]
                                                  rfl
                                                refine pure_ (i := 15) (N := some 50) (v := ?_) (a' := ?_) #[true, true, true, true, true, true, true, true, true, true, true, true, true, true, true, true, false, false, false, false, true, false, true, false, true, false, true, false, false, false, false] rfl rfl (any_of HT_.out (by kernel_rfl)) (fun _ _ _ h => h) (Or.inl ⟨by rfl, ?_⟩) ?_ ?_
                                                rotate_left
                                                · intro w'
                                                  go_simp
                                                  with_reducible rfl
                                                rotate_left
                                                · simp only [Act.put, List.setIfInBounds_toArray, List.set_cons_zero, List.set_cons_succ, i64_w, i32_w]
                                                  rfl
                                                refine pure_ (i := 16) (N := some 51) (v := undef) (a' := ?_) #[true, true, true, true, true, true, true, true, true, true, true, true, true, true, true, true, true, false, false, false, true, false, true, false, true, false, true, false, false, false, false] rfl rfl (any_of HT_.out (by kernel_rfl)) (fun _ _ _ h => h) (Or.inr ⟨by rfl, rfl⟩) ?_ ?_
                                                rotate_left
                                                · simp only [Act.put, List.setIfInBounds_toArray, List.set_cons_zero, List.set_cons_succ, i64_w, i32_w]
                                                  rfl
                                                refine pure_ (i := 17) (N := some 52) (v := undef) (a' := ?_) #[true, true, true, true, true, true, true, true, true, true, true, true, true, true, true, true, true, true, false, false, true, false, true, false, true, false, true, false, false, false, false] rfl rfl (any_of HT_.out (by kernel_rfl)) (fun _ _ _ h => h) (Or.inr ⟨by rfl, rfl⟩) ?_ ?_
                                                rotate_left
                                                · simp only [Act.put, List.setIfInBounds_toArray, List.set_cons_zero, List.set_cons_succ, i64_w, i32_w]
                                                  rfl
                                                refine pure_ (i := 18) (N := some 53) (v := undef) (a' := ?_) #[true, true, true, true, true, true, true, true, true, true, true, true, true, true, true, true, true, true, true, false, true, false, true, false, true, false, true, false, false, false, false] rfl rfl (any_of HT_.out (by kernel_rfl)) (fun _ _ _ h => h) (Or.inr ⟨by rfl, rfl⟩) ?_ ?_
                                                rotate_left
                                                · simp only [Act.put, List.setIfInBounds_toArray, List.set_cons_zero, List.set_cons_succ, i64_w, i32_w]
                                                  rfl
                                                refine pure_ (i := 19) (N := some 54) (v := ?_) (a' := ?_) #[true, true, true, true, true, true, true, true, true, true, true, true, true, true, true, true, true, true, true, true, true, false, true, false, true, false, true, false, false, false, false] rfl rfl (any_of HT_.out (by kernel_rfl)) (fun _ _ _ h => h) (Or.inl ⟨by rfl, ?_⟩) ?_ ?_
                                                rotate_left
                                                · intro w'
                                                  go_simp
                                                  with_reducible rfl
                                                rotate_left
                                                · simp only [Act.put, List.setIfInBounds_toArray, List.set_cons_zero, List.set_cons_succ, i64_w, i32_w]
                                                  rfl
                                                refine take_ (i := 21) (N := some 56) (v := ?_) (a' := ?_) #[true, true, true, true, true, true, true, true, true, true, true, true, true, true, true, true, true, true, true, true, true, true, true, false, true, false, true, false, false, false, false] rfl rfl (take_ofW HT_.out HW_.out (by kernel_rfl)) (fun _ _ _ h => h) (Or.inl ⟨by rfl, ?_⟩) hHeld ?_ ?_
                                                rotate_left
                                                · rintro w' ⟨s0, s1, s2, s3⟩
                                                  go_simp
                                                  with_reducible rfl
                                                rotate_left
                                                · simp only [Act.put, List.setIfInBounds_toArray, List.set_cons_zero, List.set_cons_succ, i64_w, i32_w]
                                                  rfl
                                                refine take_ (i := 23) (N := some 58) (v := ?_) (a' := ?_) #[true, true, true, true, true, true, true, true, true, true, true, true, true, true, true, true, true, true, true, true, true, true, true, true, true, false, true, false, false, false, false] rfl rfl (take_ofW HT_.out HW_.out (by kernel_rfl)) (fun _ _ _ h => h) (Or.inl ⟨by rfl, ?_⟩) hHeld ?_ ?_
                                                rotate_left
                                                · rintro w' ⟨s0, s1, s2, s3⟩
                                                  go_simp
                                                  with_reducible rfl
                                                rotate_left
                                                · simp only [Act.put, List.setIfInBounds_toArray, List.set_cons_zero, List.set_cons_succ, i64_w, i32_w]
                                                  rfl
                                                refine take_ (i := 25) (N := some 60) (v := ?_) (a' := ?_) #[true, true, true, true, true, true, true, true, true, true, true, true, true, true, true, true, true, true, true, true, true, true, true, true, true, true, true, false, false, false, false] rfl rfl (take_ofW HT_.out HW_.out (by kernel_rfl)) (fun _ _ _ h => h) (Or.inl ⟨by rfl, ?_⟩) hHeld ?_ ?_
                                                rotate_left
                                                · rintro w' ⟨s0, s1, s2, s3⟩
                                                  go_simp
                                                  with_reducible rfl
                                                rotate_left
                                                · simp only [Act.put, List.setIfInBounds_toArray, List.set_cons_zero, List.set_cons_succ, i64_w, i32_w]
                                                  rfl
                                                refine take_ (i := 27) (N := some 62) (v := ?_) (a' := ?_) #[true, true, true, true, true, true, true, true, true, true, true, true, true, true, true, true, true, true, true, true, true, true, true, true, true, true, true, true, false, false, false] rfl rfl (take_ofW HT_.out HW_.out (by kernel_rfl)) (fun _ _ _ h => h) (Or.inl ⟨by rfl, ?_⟩) hHeld ?_ ?_
                                                rotate_left
                                                · rintro w' ⟨s0, s1, s2, s3⟩
                                                  go_simp
                                                  with_reducible rfl
                                                rotate_left
                                                · simp only [Act.put, List.setIfInBounds_toArray, List.set_cons_zero, List.set_cons_succ, i64_w, i32_w]
                                                  rfl
                                                refine one_ (i := 28) (N := some 63) #[true, true, true, true, true, true, true, true, true, true, true, true, true, true, true, true, true, true, true, true, true, true, true, true, true, true, true, true, true, false, false] rfl rfl (one_of HT_.out (by kernel_rfl)) (by decide) (fun K hK => ?_)
                                                refine goes_ Try.func17 (by kernel_rfl) rfl #[.int .i64 ((rd_T35 l0 x3_1).f4), .int .i64 ((rd_T35 l0 x3_1).f5), .string ((rd_T35 l0 x3_1).f3), .int .i64 ((rd_T35 l0 x3_1).f6)] (by rfl) rfl rfl (by (try simp only [List.map_toArray, List.map_cons, List.map_nil]); first | done | rfl | (simp only [List.length_drop, List.length_take]; rfl)) ?_
                                                with_reducible refine (gangwayref20_Dirent.calls kj9 ((rd_T35 l0 x3_1).f4) ((rd_T35 l0 x3_1).f5) ((rd_T35 l0 x3_1).f3) ((rd_T35 l0 x3_1).f6) t222 _ A28.out).mono ?_
                                                rintro e w31 ⟨v223, rfl, ho0, hb⟩
                                                refine ⟨_, rfl, ?_⟩
                                                have n0_ := Aside0.mk (Kd.R_elder' (by (with_reducible repeat (first | apply Kd.R_alloc | apply Kd.R_drewN | apply Kd.R_drew)); exact HO217.out) (Kd.R_base ho0) hb)
                                                have n1_ := Aside0.mk (Kd.R_lower (Kd.R_new' ho0 (Kd.R_lt (by (with_reducible repeat (first | apply Kd.R_alloc | apply Kd.R_drewN | apply Kd.R_drew)); exact HO217.out))) (below_size (by repeat (first | (with_reducible first | exact HB.out | apply below_alloc | apply pw_below_drewN | apply below_drew1 | refine below_set ?_ GE212.out) | exact HB.out))))
                                                have n2_ := Aside0.mk (blk_below (g := gb212) (o := .cells #[.int .i64 ((rd_T35 l0 x3_1).f0.f0), .int .i64 ((rd_T35 l0 x3_1).f0.f1), .int .i64 ((rd_T35 l0 x3_1).f0.f2), .int .i64 ((rd_T35 l0 x3_1).f0.f3), .int .i64 ((rd_T35 l0 x3_1).f0.f4), .int .i64 ((rd_T35 l0 x3_1).f0.f5), .string ((rd_T35 l0 x3_1).f0.f6), .int .i64 ((rd_T35 l0 x3_1).f1.f0), .slice A211_8 ((rd_T35 l0 x3_1).f1.f1).length c211_8, .slice A211_9 ((rd_T35 l0 x3_1).f1.f2).length c211_9, .string ((rd_T35 l0 x3_1).f1.f3), .int .i64 ((rd_T35 l0 x3_1).f1.f4), .int .i64 ((rd_T35 l0 x3_1).f1.f5), .int .i64 ((rd_T35 l0 x3_1).f2), .string ((rd_T35 l0 x3_1).f3), .int .i64 ((rd_T35 l0 x3_1).f4), .int .i64 ((rd_T35 l0 x3_1).f5), .int .i64 ((rd_T35 l0 x3_1).f6), .int .i64 ((rd_T35 l0 x3_1).f7.f0), .int .i64 ((rd_T35 l0 x3_1).f7.f1), .int .i64 ((rd_T35 l0 x3_1).f7.f2), .int .i64 ((rd_T35 l0 x3_1).f7.f3), .slice A211_22 ((rd_T35 l0 x3_1).f8).length c211_22] 35 (0, 0)) (by (with_reducible repeat (first | refine blk_drewN ?_ _ | refine blk_drew ?_ | refine blk_alloc ?_ _)); exact BK212.out) hb)
                                                have n3_ := Aside0.mk (below_step (by repeat (first | (with_reducible first | exact HB.out | apply below_alloc | apply pw_below_drewN | apply below_drew1 | refine below_set ?_ GE212.out) | exact HB.out)) hb)
                                                clear HO217
                                                clear BK212
                                                clear HB
                                                have HO217 := n0_
                                                have HO224 := n1_
                                                have BK212 := n2_
                                                have HB := n3_
                                                clear n0_ n1_ n2_ n3_
                                                (try clear hb)
                                                (try clear hb2)
                                                (try clear hk)
                                                (try clear hi)
                                                (try clear ho0)
                                                obtain ⟨Ao32, co32, eo32⟩ := Kd.R_slice HO217.out
                                                (first | subst eo32 | (injection eo32 with f1_ f2_ f3_; have f4_ := f1_.symm; have f5_ := f3_.symm; clear f1_ f2_ f3_; subst f4_; subst f5_))
                                                obtain ⟨Ao33, co33, eo33⟩ := Kd.R_slice HO224.out
                                                (first | subst eo33 | (injection eo33 with f1_ f2_ f3_; have f4_ := f1_.symm; have f5_ := f3_.symm; clear f1_ f2_ f3_; subst f4_; subst f5_))
                                                refine hK.out _ _ ⟨(blk_cell BK212.out 14).trans rfl, (blk_cell BK212.out 15).trans rfl, (blk_cell BK212.out 16).trans rfl, (blk_cell BK212.out 17).trans rfl⟩ (fun hHeld => ?_)
                                                clear hK K
                                                refine norm_ (a' := ?_) ?_ ?_
                                                rotate_left
                                                · show Act.put _ (some 63) _ = _
                                                  simp only [Act.put, List.setIfInBounds_toArray, List.set_cons_zero, List.set_cons_succ, i64_w, i32_w]
                                                  rfl
                                                refine one_ (i := 29) (N := some 64) #[true, true, true, true, true, true, true, true, true, true, true, true, true, true, true, true, true, true, true, true, true, true, true, true, true, true, true, true, true, true, false] rfl rfl (one_of HT_.out (by kernel_rfl)) (by decide) (fun K hK => ?_)
                                                refine goes_ Try.func11 (by kernel_rfl) rfl #[.slice Ao32 t214.length co32, .int .i64 t215, .bool false, .slice Ao33 t222.length co33] (by rfl) rfl rfl (by (try simp only [List.map_toArray, List.map_cons, List.map_nil]); first | done | rfl | (simp only [List.length_drop, List.length_take]; rfl)) ?_
                                                with_reducible refine (gangwaylaw20_is.calls kj9 _ _ t214 t215 false _ _ t222 t225 _ ?side1 ?side2 ?side3 ?side4 A29.out).mono ?_
                                                (case side1 => repeat (first | exact (Kd.R_reads' HO217.out).2.2 | (with_reducible refine Kd.C_alloc ?_ _) | (with_reducible refine Kd.C_drewN ?_ _) | (with_reducible refine Kd.C_drew ?_)))
                                                (case side2 => exact (Kd.R_reads' HO217.out).2.1)
                                                (case side3 => repeat (first | exact (Kd.R_reads' HO224.out).2.2 | (with_reducible refine Kd.C_alloc ?_ _) | (with_reducible refine Kd.C_drewN ?_ _) | (with_reducible refine Kd.C_drew ?_)))
                                                (case side4 => exact (Kd.R_reads' HO224.out).2.1)
                                                rintro e w' ⟨rfl, ⟨nd, rfl⟩⟩
                                                refine ⟨_, rfl, ?_⟩
                                                refine hK.out _ _ ⟨(blk_cell BK212.out 14).trans rfl, (blk_cell BK212.out 15).trans rfl, (blk_cell BK212.out 16).trans rfl, (blk_cell BK212.out 17).trans rfl⟩ (fun hHeld => ?_)
                                                clear hK K
                                                refine norm_ (a' := ?_) ?_ ?_
                                                rotate_left
                                                · show Act.put _ (some 64) _ = _
                                                  simp only [Act.put, List.setIfInBounds_toArray, List.set_cons_zero, List.set_cons_succ, i64_w, i32_w]
                                                  rfl
                                                refine pure_ (i := 30) (N := some 65) (v := ?_) (a' := ?_) #[true, true, true, true, true, true, true, true, true, true, true, true, true, true, true, true, true, true, true, true, true, true, true, true, true, true, true, true, true, true, true] rfl rfl (any_of HT_.out (by kernel_rfl)) (fun _ _ _ h => h) (Or.inl ⟨by rfl, ?_⟩) ?_ ?_
                                                rotate_left
                                                · intro w'
                                                  go_simp
                                                  with_reducible rfl
                                                rotate_left
                                                · simp only [Act.put, List.setIfInBounds_toArray, List.set_cons_zero, List.set_cons_succ, i64_w, i32_w]
                                                  rfl
                                                refine done_ (done_of HT_.out (by kernel_rfl)) ?_
                                                try go_wp2
                                                go_meet
                                                case rel => exact ⟨_, (!t225), (by first | rfl | (simp; done) | (simp [*]; done)), H', ⟨by have := HK1.out; have := HJ2.out; have := HJ4.out; have := HJ9.out; first | omega | exact Nat.le_refl _⟩, ⟨by (with_reducible repeat (first | refine blk_drewN ?_ _ | refine blk_drew ?_ | refine blk_alloc ?_ _)); exact BK212.out⟩, ⟨by repeat (first | (with_reducible first | exact HB.out | apply below_alloc | apply pw_below_drewN | apply below_drew1 | refine below_set ?_ GE212.out) | exact HB.out)⟩⟩
                                        · as_aux_lemma =>
                                            rw [if_neg c20] at H
                                            have c20b0 : decide (0 ≤ ((rd_T35 l0 x3_1).f5)) = false := decide_eq_false c20
                                            clear c20
                                            replace H := Option.bind_eq_some_iff.mp H
                                            obtain ⟨t226, A340, H⟩ := H
                                            replace H : ((gangwaylaw20_is.f kj9 t214 t215 false t226).bind fun t229 => (gangwaylaw20_StatEntries.j4 kj9 l0 x3_1 (!t229))) = some r := H
                                            have A34 := Aside0.mk A340
                                            clear A340
                                            replace H := Option.bind_eq_some_iff.mp H
                                            obtain ⟨t229, A350, H⟩ := H
                                            replace H : (gangwaylaw20_StatEntries.j4 kj9 l0 x3_1 (!t229)) = some r := H
                                            have A35 := Aside0.mk A350
                                            clear A350
                                            have H' := Aside0.mk H
                                            clear H
                                            try go_wp2
                                            have n0_ := Aside0.mk (Kd.R_drew HO217.out)
                                            have n1_ := Aside0.mk (blk_drew BK212.out)
                                            have n2_ := Aside0.mk (below_drew1 HB.out)
                                            clear HO217
                                            clear BK212
                                            clear HB
                                            have HO217 := n0_
                                            have BK212 := n1_
                                            have HB := n2_
                                            clear n0_ n1_ n2_
                                            refine start_ (n := 31) (S := fun w' => w'.cell? ⟨gb212, 14, none⟩ = some (.string ((rd_T35 l0 x3_1).f3)) ∧ w'.cell? ⟨gb212, 15, none⟩ = some (.int .i64 ((rd_T35 l0 x3_1).f4)) ∧ w'.cell? ⟨gb212, 16, none⟩ = some (.int .i64 ((rd_T35 l0 x3_1).f5)) ∧ w'.cell? ⟨gb212, 17, none⟩ = some (.int .i64 ((rd_T35 l0 x3_1).f6))) (ds := []) #[false, false, false, false, false, false, false, false, false, false, false, false, false, false, false, false, false, false, false, false, false, false, false, false, false, false, false, false, false, false, false] (by kernel_rfl) rfl rfl ⟨(blk_cell BK212.out 14).trans rfl, (blk_cell BK212.out 15).trans rfl, (blk_cell BK212.out 16).trans rfl, (blk_cell BK212.out 17).trans rfl⟩ (fun hHeld => ?_); refine with_tabW gangwaylaw20_StatEntries.tab8 gangwaylaw20_StatEntries.bits8 (fun HT_ HW_ => ?_)
                                            generalize w18.drew = w36 at HO217 BK212 HB hHeld ⊢
                                            refine pure_ (i := 0) (N := some 35) (v := ?_) (a' := ?_) #[true, false, false, false, false, false, false, false, false, false, false, false, false, false, false, false, false, false, false, false, false, false, false, false, false, false, false, false, false, false, false] rfl rfl (any_of HT_.out (by kernel_rfl)) (fun _ _ _ h => h) (Or.inl ⟨by rfl, ?_⟩) ?_ ?_
                                            rotate_left
                                            · intro w'
                                              go_simp
                                              with_reducible rfl
                                            rotate_left
                                            · simp only [Act.put, List.setIfInBounds_toArray, List.set_cons_zero, List.set_cons_succ, i64_w, i32_w]
                                              rfl
                                            refine pure_ (i := 1) (N := some 36) (v := ?_) (a' := ?_) #[true, true, false, false, false, false, false, false, false, false, false, false, false, false, false, false, false, false, false, false, false, false, false, false, false, false, false, false, false, false, false] rfl rfl (any_of HT_.out (by kernel_rfl)) (fun _ _ _ h => h) (Or.inl ⟨by rfl, ?_⟩) ?_ ?_
                                            rotate_left
                                            · intro w'
                                              go_simp
                                              with_reducible rfl
                                            rotate_left
                                            · simp only [Act.put, List.setIfInBounds_toArray, List.set_cons_zero, List.set_cons_succ, i64_w, i32_w]
                                              rfl
                                            refine pure_ (i := 2) (N := some 37) (v := ?_) (a' := ?_) #[true, true, true, false, false, false, false, false, false, false, false, false, false, false, false, false, false, false, false, false, false, false, false, false, false, false, false, false, false, false, false] rfl rfl (any_of HT_.out (by kernel_rfl)) (fun _ _ _ h => h) (Or.inl ⟨by rfl, ?_⟩) ?_ ?_
                                            rotate_left
                                            · intro w'
                                              go_simp
                                              with_reducible rfl
                                            rotate_left
                                            · simp only [Act.put, List.setIfInBounds_toArray, List.set_cons_zero, List.set_cons_succ, i64_w, i32_w]
                                              rfl
                                            refine pure_ (i := 20) (N := some 55) (v := ?_) (a' := ?_) #[true, true, true, false, false, false, false, false, false, false, false, false, false, false, false, false, false, false, false, false, true, false, false, false, false, false, false, false, false, false, false] rfl rfl (any_of HT_.out (by kernel_rfl)) (fun _ _ _ h => h) (Or.inl ⟨by rfl, ?_⟩) ?_ ?_
                                            rotate_left
                                            · intro w'
                                              go_simp
                                              with_reducible rfl
                                            rotate_left
                                            · simp only [Act.put, List.setIfInBounds_toArray, List.set_cons_zero, List.set_cons_succ, i64_w, i32_w]
                                              rfl
                                            refine pure_ (i := 22) (N := some 57) (v := ?_) (a' := ?_) #[true, true, true, false, false, false, false, false, false, false, false, false, false, false, false, false, false, false, false, false, true, false, true, false, false, false, false, false, false, false, false] rfl rfl (any_of HT_.out (by kernel_rfl)) (fun _ _ _ h => h) (Or.inl ⟨by rfl, ?_⟩) ?_ ?_
                                            rotate_left
                                            · intro w'
                                              go_simp
                                              with_reducible rfl
                                            rotate_left
                                            · simp only [Act.put, List.setIfInBounds_toArray, List.set_cons_zero, List.set_cons_succ, i64_w, i32_w]
                                              rfl
                                            refine pure_ (i := 24) (N := some 59) (v := ?_) (a' := ?_) #[true, true, true, false, false, false, false, false, false, false, false, false, false, false, false, false, false, false, false, false, true, false, true, false, true, false, false, false, false, false, false] rfl rfl (any_of HT_.out (by kernel_rfl)) (fun _ _ _ h => h) (Or.inl ⟨by rfl, ?_⟩) ?_ ?_
                                            rotate_left
                                            · intro w'
                                              go_simp
                                              with_reducible rfl
                                            rotate_left
                                            · simp only [Act.put, List.setIfInBounds_toArray, List.set_cons_zero, List.set_cons_succ, i64_w, i32_w]
                                              rfl
                                            refine pure_ (i := 26) (N := some 61) (v := ?_) (a' := ?_) #[true, true, true, false, false, false, false, false, false, false, false, false, false, false, false, false, false, false, false, false, true, false, true, false, true, false, true, false, false, false, false] rfl rfl (any_of HT_.out (by kernel_rfl)) (fun _ _ _ h => h) (Or.inl ⟨by rfl, ?_⟩) ?_ ?_
                                            rotate_left
                                            · intro w'
                                              go_simp
                                              with_reducible rfl
                                            rotate_left
                                            · simp only [Act.put, List.setIfInBounds_toArray, List.set_cons_zero, List.set_cons_succ, i64_w, i32_w]
                                              rfl
                                            refine take_ (i := 3) (N := some 38) (v := ?_) (a' := ?_) #[true, true, true, true, false, false, false, false, false, false, false, false, false, false, false, false, false, false, false, false, true, false, true, false, true, false, true, false, false, false, false] rfl rfl (take_ofW HT_.out HW_.out (by kernel_rfl)) (fun _ _ _ h => h) (Or.inl ⟨by rfl, ?_⟩) hHeld ?_ ?_
                                            rotate_left
                                            · rintro w' ⟨s0, s1, s2, s3⟩
                                              go_simp
                                              with_reducible rfl
                                            rotate_left
                                            · simp only [Act.put, List.setIfInBounds_toArray, List.set_cons_zero, List.set_cons_succ, i64_w, i32_w]
                                              rfl
                                            refine pure_ (i := 4) (N := some 39) (v := ?_) (a' := ?_) #[true, true, true, true, true, false, false, false, false, false, false, false, false, false, false, false, false, false, false, false, true, false, true, false, true, false, true, false, false, false, false] rfl rfl (any_of HT_.out (by kernel_rfl)) (fun _ _ _ h => h) (Or.inl ⟨by rfl, ?_⟩) ?_ ?_
                                            rotate_left
                                            · intro w'
                                              go_simp
                                              with_reducible rfl
                                            rotate_left
                                            · simp only [Act.put, List.setIfInBounds_toArray, List.set_cons_zero, List.set_cons_succ, i64_w, i32_w]
                                              rfl
                                            refine pure_ (i := 5) (N := some 40) (v := ?_) (a' := ?_) #[true, true, true, true, true, true, false, false, false, false, false, false, false, false, false, false, false, false, false, false, true, false, true, false, true, false, true, false, false, false, false] rfl rfl (any_of HT_.out (by kernel_rfl)) (fun _ _ _ h => h) (Or.inl ⟨by rfl, ?_⟩) ?_ ?_
                                            rotate_left
                                            · intro w'
                                              go_simp
                                              with_reducible rfl
                                            rotate_left
                                            · simp only [Act.put, List.setIfInBounds_toArray, List.set_cons_zero, List.set_cons_succ, i64_w, i32_w]
                                              rfl
                                            refine pure_ (i := 6) (N := some 41) (v := ?_) (a' := ?_) #[true, true, true, true, true, true, true, false, false, false, false, false, false, false, false, false, false, false, false, false, true, false, true, false, true, false, true, false, false, false, false] rfl rfl (any_of HT_.out (by kernel_rfl)) (fun _ _ _ h => h) (Or.inl ⟨by rfl, ?_⟩) ?_ ?_
                                            rotate_left
                                            · intro w'
                                              go_simp
                                              with_reducible rfl
                                            rotate_left
                                            · simp only [Act.put, List.setIfInBounds_toArray, List.set_cons_zero, List.set_cons_succ, i64_w, i32_w]
                                              rfl
                                            refine take_ (i := 7) (N := some 42) (v := ?_) (a' := ?_) #[true, true, true, true, true, true, true, true, false, false, false, false, false, false, false, false, false, false, false, false, true, false, true, false, true, false, true, false, false, false, false] rfl rfl (take_ofW HT_.out HW_.out (by kernel_rfl)) (fun _ _ _ h => h) (Or.inl ⟨by rfl, ?_⟩) hHeld ?_ ?_
                                            rotate_left
                                            · rintro w' ⟨s0, s1, s2, s3⟩
                                              go_simp
                                              with_reducible rfl
                                            rotate_left
                                            · simp only [Act.put, List.setIfInBounds_toArray, List.set_cons_zero, List.set_cons_succ, i64_w, i32_w]
                                              rfl
                                            refine pure_ (i := 8) (N := some 43) (v := ?_) (a' := ?_) #[true, true, true, true, true, true, true, true, true, false, false, false, false, false, false, false, false, false, false, false, true, false, true, false, true, false, true, false, false, false, false] rfl rfl (any_of HT_.out (by kernel_rfl)) (fun _ _ _ h => h) (Or.inl ⟨by rfl, ?_⟩) ?_ ?_
                                            rotate_left
                                            · intro w'
                                              go_simp
                                              with_reducible rfl
                                            rotate_left
                                            · simp only [Act.put, List.setIfInBounds_toArray, List.set_cons_zero, List.set_cons_succ, i64_w, i32_w]
                                              rfl
                                            refine pure_ (i := 9) (N := some 44) (v := ?_) (a' := ?_) #[true, true, true, true, true, true, true, true, true, true, false, false, false, false, false, false, false, false, false, false, true, false, true, false, true, false, true, false, false, false, false] rfl rfl (any_of HT_.out (by kernel_rfl)) (fun _ _ _ h => h) (Or.inl ⟨by rfl, ?_⟩) ?_ ?_
                                            rotate_left
                                            · intro w'
                                              go_simp
                                              with_reducible rfl
                                            rotate_left
                                            · simp only [Act.put, List.setIfInBounds_toArray, List.set_cons_zero, List.set_cons_succ, i64_w, i32_w]
                                              rfl
                                            refine pure_ (i := 10) (N := some 45) (v := ?_) (a' := ?_) #[true, true, true, true, true, true, true, true, true, true, true, false, false, false, false, false, false, false, false, false, true, false, true, false, true, false, true, false, false, false, false] rfl rfl (any_of HT_.out (by kernel_rfl)) (fun _ _ _ h => h) (Or.inl ⟨by rfl, ?_⟩) ?_ ?_
                                            rotate_left
                                            · intro w'
                                              go_simp
                                              with_reducible rfl
                                            rotate_left
                                            · simp only [Act.put, List.setIfInBounds_toArray, List.set_cons_zero, List.set_cons_succ, i64_w, i32_w]
                                              rfl
                                            refine pure_ (i := 11) (N := some 46) (v := undef) (a' := ?_) #[true, true, true, true, true, true, true, true, true, true, true, true, false, false, false, false, false, false, false, false, true, false, true, false, true, false, true, false, false, false, false] rfl rfl (any_of HT_.out (by kernel_rfl)) (fun _ _ _ h => h) (Or.inr ⟨by rfl, rfl⟩) ?_ ?_
                                            rotate_left
                                            · simp only [Act.put, List.setIfInBounds_toArray, List.set_cons_zero, List.set_cons_succ, i64_w, i32_w]
                                              rfl
                                            refine pure_ (i := 12) (N := some 47) (v := undef) (a' := ?_) #[true, true, true, true, true, true, true, true, true, true, true, true, true, false, false, false, false, false, false, false, true, false, true, false, true, false, true, false, false, false, false] rfl rfl (any_of HT_.out (by kernel_rfl)) (fun _ _ _ h => h) (Or.inr ⟨by rfl, rfl⟩) ?_ ?_
                                            rotate_left
                                            · simp only [Act.put, List.setIfInBounds_toArray, List.set_cons_zero, List.set_cons_succ, i64_w, i32_w]
                                              rfl
                                            refine pure_ (i := 13) (N := some 48) (v := undef) (a' := ?_) #[true, true, true, true, true, true, true, true, true, true, true, true, true, true, false, false, false, false, false, false, true, false, true, false, true, false, true, false, false, false, false] rfl rfl (any_of HT_.out (by kernel_rfl)) (fun _ _ _ h => h) (Or.inr ⟨by rfl, rfl⟩) ?_ ?_
                                            rotate_left
                                            · simp only [Act.put, List.setIfInBounds_toArray, List.set_cons_zero, List.set_cons_succ, i64_w, i32_w]
                                              rfl
                                            refine pure_ (i := 14) (N := some 49) (v := ?_) (a' := ?_) #[true, true, true, true, true, true, true, true, true, true, true, true, true, true, true, false, false, false, false, false, true, false, true, false, true, false, true, false, false, false, false] rfl rfl (any_of HT_.out (by kernel_rfl)) (fun _ _ _ h => h) (Or.inl ⟨by rfl, ?_⟩) ?_ ?_
                                            rotate_left
                                            · intro w'
                                              go_simp
                                              with_reducible rfl
                                            rotate_left
                                            · simp only [Act.put, List.setIfInBounds_toArray, List.set_cons_zero, List.set_cons_succ, i64_w, i32_w]
                                              rfl
                                            refine pure_ (i := 15) (N := some 50) (v := ?_) (a' := ?_) #[true, true, true, true, true, true, true, true, true, true, true, true, true, true, true, true, false, false, false, false, true, false, true, false, true, false, true, false, false, false, false] rfl rfl (any_of HT_.out (by kernel_rfl)) (fun _ _ _ h => h) (Or.inl ⟨by rfl, ?_⟩) ?_ ?_
                                            rotate_left
                                            · intro w'
                                              go_simp
                                              with_reducible rfl
                                            rotate_left
                                            · simp only [Act.put, List.setIfInBounds_toArray, List.set_cons_zero, List.set_cons_succ, i64_w, i32_w]
                                              rfl
                                            refine pure_ (i := 16) (N := some 51) (v := undef) (a' := ?_) #[true, true, true, true, true, true, true, true, true, true, true, true, true, true, true, true, true, false, false, false, true, false, true, false, true, false, true, false, false, false, false] rfl rfl (any_of HT_.out (by kernel_rfl)) (fun _ _ _ h => h) (Or.inr ⟨by rfl, rfl⟩) ?_ ?_
                                            rotate_left
                                            · simp only [Act.put, List.setIfInBounds_toArray, List.set_cons_zero, List.set_cons_succ, i64_w, i32_w]
                                              rfl
                                            refine pure_ (i := 17) (N := some 52) (v := undef) (a' := ?_) #[true, true, true, true, true, true, true, true, true, true, true, true, true, true, true, true, true, true, false, false, true, false, true, false, true, false, true, false, false, false, false] rfl rfl (any_of HT_.out (by kernel_rfl)) (fun _ _ _ h => h) (Or.inr ⟨by rfl, rfl⟩) ?_ ?_
                                            rotate_left
                                            · simp only [Act.put, List.setIfInBounds_toArray, List.set_cons_zero, List.set_cons_succ, i64_w, i32_w]
                                              rfl
                                            refine pure_ (i := 18) (N := some 53) (v := undef) (a' := ?_) #[true, true, true, true, true, true, true, true, true, true, true, true, true, true, true, true, true, true, true, false, true, false, true, false, true, false, true, false, false, false, false] rfl rfl (any_of HT_.out (by kernel_rfl)) (fun _ _ _ h => h) (Or.inr ⟨by rfl, rfl⟩) ?_ ?_
                                            rotate_left
                                            · simp only [Act.put, List.setIfInBounds_toArray, List.set_cons_zero, List.set_cons_succ, i64_w, i32_w]
                                              rfl
                                            refine pure_ (i := 19) (N := some 54) (v := ?_) (a' := ?_) #[true, true, true, true, true, true, true, true, true, true, true, true, true, true, true, true, true, true, true, true, true, false, true, false, true, false, true, false, false, false, false] rfl rfl (any_of HT_.out (by kernel_rfl)) (fun _ _ _ h => h) (Or.inl ⟨by rfl, ?_⟩) ?_ ?_
                                            rotate_left
                                            · intro w'
                                              go_simp
                                              with_reducible rfl
                                            rotate_left
                                            · simp only [Act.put, List.setIfInBounds_toArray, List.set_cons_zero, List.set_cons_succ, i64_w, i32_w]
                                              rfl
                                            refine take_ (i := 21) (N := some 56) (v := ?_) (a' := ?_) #[true, true, true, true, true, true, true, true, true, true, true, true, true, true, true, true, true, true, true, true, true, true, true, false, true, false, true, false, false, false, false] rfl rfl (take_ofW HT_.out HW_.out (by kernel_rfl)) (fun _ _ _ h => h) (Or.inl ⟨by rfl, ?_⟩) hHeld ?_ ?_
                                            rotate_left
                                            · rintro w' ⟨s0, s1, s2, s3⟩
                                              go_simp
                                              with_reducible rfl
                                            rotate_left
                                            · simp only [Act.put, List.setIfInBounds_toArray, List.set_cons_zero, List.set_cons_succ, i64_w, i32_w]
                                              rfl
                                            refine take_ (i := 23) (N := some 58) (v := ?_) (a' := ?_) #[true, true, true, true, true, true, true, true, true, true, true, true, true, true, true, true, true, true, true, true, true, true, true, true, true, false, true, false, false, false, false] rfl rfl (take_ofW HT_.out HW_.out (by kernel_rfl)) (fun _ _ _ h => h) (Or.inl ⟨by rfl, ?_⟩) hHeld ?_ ?_
                                            rotate_left
                                            · rintro w' ⟨s0, s1, s2, s3⟩
                                              go_simp
                                              with_reducible rfl
                                            rotate_left
                                            · simp only [Act.put, List.setIfInBounds_toArray, List.set_cons_zero, List.set_cons_succ, i64_w, i32_w]
                                              rfl
                                            refine take_ (i := 25) (N := some 60) (v := ?_) (a' := ?_) #[true, true, true, true, true, true, true, true, true, true, true, true, true, true, true, true, true, true, true, true, true, true, true, true, true, true, true, false, false, false, false] rfl rfl (take_ofW HT_.out HW_.out (by kernel_rfl)) (fun _ _ _ h => h) (Or.inl ⟨by rfl, ?_⟩) hHeld ?_ ?_
                                            rotate_left
                                            · rintro w' ⟨s0, s1, s2, s3⟩
                                              go_simp
                                              with_reducible rfl
                                            rotate_left
                                            · simp only [Act.put, List.setIfInBounds_toArray, List.set_cons_zero, List.set_cons_succ, i64_w, i32_w]
                                              rfl
                                            refine take_ (i := 27) (N := some 62) (v := ?_) (a' := ?_) #[true, true, true, true, true, true, true, true, true, true, true, true, true, true, true, true, true, true, true, true, true, true, true, true, true, true, true, true, false, false, false] rfl rfl (take_ofW HT_.out HW_.out (by kernel_rfl)) (fun _ _ _ h => h) (Or.inl ⟨by rfl, ?_⟩) hHeld ?_ ?_
                                            rotate_left
                                            · rintro w' ⟨s0, s1, s2, s3⟩
                                              go_simp
                                              with_reducible rfl
                                            rotate_left
                                            · simp only [Act.put, List.setIfInBounds_toArray, List.set_cons_zero, List.set_cons_succ, i64_w, i32_w]
                                              rfl
                                            refine one_ (i := 28) (N := some 63) #[true, true, true, true, true, true, true, true, true, true, true, true, true, true, true, true, true, true, true, true, true, true, true, true, true, true, true, true, true, false, false] rfl rfl (one_of HT_.out (by kernel_rfl)) (by decide) (fun K hK => ?_)
                                            refine goes_ Try.func17 (by kernel_rfl) rfl #[.int .i64 ((rd_T35 l0 x3_1).f4), .int .i64 ((rd_T35 l0 x3_1).f5), .string ((rd_T35 l0 x3_1).f3), .int .i64 ((rd_T35 l0 x3_1).f6)] (by rfl) rfl rfl (by (try simp only [List.map_toArray, List.map_cons, List.map_nil]); first | done | rfl | (simp only [List.length_drop, List.length_take]; rfl)) ?_
                                            with_reducible refine (gangwayref20_Dirent.calls kj9 ((rd_T35 l0 x3_1).f4) ((rd_T35 l0 x3_1).f5) ((rd_T35 l0 x3_1).f3) ((rd_T35 l0 x3_1).f6) t226 _ A34.out).mono ?_
                                            rintro e w37 ⟨v227, rfl, ho0, hb⟩
                                            refine ⟨_, rfl, ?_⟩
                                            have n0_ := Aside0.mk (Kd.R_elder' (by (with_reducible repeat (first | apply Kd.R_alloc | apply Kd.R_drewN | apply Kd.R_drew)); exact HO217.out) (Kd.R_base ho0) hb)
                                            have n1_ := Aside0.mk (Kd.R_lower (Kd.R_new' ho0 (Kd.R_lt (by (with_reducible repeat (first | apply Kd.R_alloc | apply Kd.R_drewN | apply Kd.R_drew)); exact HO217.out))) (below_size (by repeat (first | (with_reducible first | exact HB.out | apply below_alloc | apply pw_below_drewN | apply below_drew1 | refine below_set ?_ GE212.out) | exact HB.out))))
                                            have n2_ := Aside0.mk (blk_below (g := gb212) (o := .cells #[.int .i64 ((rd_T35 l0 x3_1).f0.f0), .int .i64 ((rd_T35 l0 x3_1).f0.f1), .int .i64 ((rd_T35 l0 x3_1).f0.f2), .int .i64 ((rd_T35 l0 x3_1).f0.f3), .int .i64 ((rd_T35 l0 x3_1).f0.f4), .int .i64 ((rd_T35 l0 x3_1).f0.f5), .string ((rd_T35 l0 x3_1).f0.f6), .int .i64 ((rd_T35 l0 x3_1).f1.f0), .slice A211_8 ((rd_T35 l0 x3_1).f1.f1).length c211_8, .slice A211_9 ((rd_T35 l0 x3_1).f1.f2).length c211_9, .string ((rd_T35 l0 x3_1).f1.f3), .int .i64 ((rd_T35 l0 x3_1).f1.f4), .int .i64 ((rd_T35 l0 x3_1).f1.f5), .int .i64 ((rd_T35 l0 x3_1).f2), .string ((rd_T35 l0 x3_1).f3), .int .i64 ((rd_T35 l0 x3_1).f4), .int .i64 ((rd_T35 l0 x3_1).f5), .int .i64 ((rd_T35 l0 x3_1).f6), .int .i64 ((rd_T35 l0 x3_1).f7.f0), .int .i64 ((rd_T35 l0 x3_1).f7.f1), .int .i64 ((rd_T35 l0 x3_1).f7.f2), .int .i64 ((rd_T35 l0 x3_1).f7.f3), .slice A211_22 ((rd_T35 l0 x3_1).f8).length c211_22] 35 (0, 0)) (by (with_reducible repeat (first | refine blk_drewN ?_ _ | refine blk_drew ?_ | refine blk_alloc ?_ _)); exact BK212.out) hb)
                                            have n3_ := Aside0.mk (below_step (by repeat (first | (with_reducible first | exact HB.out | apply below_alloc | apply pw_below_drewN | apply below_drew1 | refine below_set ?_ GE212.out) | exact HB.out)) hb)
                                            clear HO217
                                            clear BK212
                                            clear HB
                                            have HO217 := n0_
                                            have HO228 := n1_
                                            have BK212 := n2_
                                            have HB := n3_
                                            clear n0_ n1_ n2_ n3_
                                            (try clear hb)
                                            (try clear hb2)
                                            (try clear hk)
                                            (try clear hi)
                                            (try clear ho0)
                                            obtain ⟨Ao38, co38, eo38⟩ := Kd.R_slice HO217.out
                                            (first | subst eo38 | (injection eo38 with f1_ f2_ f3_; have f4_ := f1_.symm; have f5_ := f3_.symm; clear f1_ f2_ f3_; subst f4_; subst f5_))
                                            obtain ⟨Ao39, co39, eo39⟩ := Kd.R_slice HO228.out
                                            (first | subst eo39 | (injection eo39 with f1_ f2_ f3_; have f4_ := f1_.symm; have f5_ := f3_.symm; clear f1_ f2_ f3_; subst f4_; subst f5_))
                                            refine hK.out _ _ ⟨(blk_cell BK212.out 14).trans rfl, (blk_cell BK212.out 15).trans rfl, (blk_cell BK212.out 16).trans rfl, (blk_cell BK212.out 17).trans rfl⟩ (fun hHeld => ?_)
                                            clear hK K
                                            refine norm_ (a' := ?_) ?_ ?_
                                            rotate_left
                                            · show Act.put _ (some 63) _ = _
                                              simp only [Act.put, List.setIfInBounds_toArray, List.set_cons_zero, List.set_cons_succ, i64_w, i32_w]
                                              rfl
                                            refine one_ (i := 29) (N := some 64) #[true, true, true, true, true, true, true, true, true, true, true, true, true, true, true, true, true, true, true, true, true, true, true, true, true, true, true, true, true, true, false] rfl rfl (one_of HT_.out (by kernel_rfl)) (by decide) (fun K hK => ?_)
                                            refine goes_ Try.func11 (by kernel_rfl) rfl #[.slice Ao38 t214.length co38, .int .i64 t215, .bool false, .slice Ao39 t226.length co39] (by rfl) rfl rfl (by (try simp only [List.map_toArray, List.map_cons, List.map_nil]); first | done | rfl | (simp only [List.length_drop, List.length_take]; rfl)) ?_
                                            with_reducible refine (gangwaylaw20_is.calls kj9 _ _ t214 t215 false _ _ t226 t229 _ ?side1 ?side2 ?side3 ?side4 A35.out).mono ?_
                                            (case side1 => repeat (first | exact (Kd.R_reads' HO217.out).2.2 | (with_reducible refine Kd.C_alloc ?_ _) | (with_reducible refine Kd.C_drewN ?_ _) | (with_reducible refine Kd.C_drew ?_)))
                                            (case side2 => exact (Kd.R_reads' HO217.out).2.1)
                                            (case side3 => repeat (first | exact (Kd.R_reads' HO228.out).2.2 | (with_reducible refine Kd.C_alloc ?_ _) | (with_reducible refine Kd.C_drewN ?_ _) | (with_reducible refine Kd.C_drew ?_)))
                                            (case side4 => exact (Kd.R_reads' HO228.out).2.1)
                                            rintro e w' ⟨rfl, ⟨nd, rfl⟩⟩
                                            refine ⟨_, rfl, ?_⟩
                                            refine hK.out _ _ ⟨(blk_cell BK212.out 14).trans rfl, (blk_cell BK212.out 15).trans rfl, (blk_cell BK212.out 16).trans rfl, (blk_cell BK212.out 17).trans rfl⟩ (fun hHeld => ?_)
                                            clear hK K
                                            refine norm_ (a' := ?_) ?_ ?_
                                            rotate_left
                                            · show Act.put _ (some 64) _ = _
                                              simp only [Act.put, List.setIfInBounds_toArray, List.set_cons_zero, List.set_cons_succ, i64_w, i32_w]
                                              rfl
                                            refine pure_ (i := 30) (N := some 65) (v := ?_) (a' := ?_) #[true, true, true, true, true, true, true, true, true, true, true, true, true, true, true, true, true, true, true, true, true, true, true, true, true, true, true, true, true, true, true] rfl rfl (any_of HT_.out (by kernel_rfl)) (fun _ _ _ h => h) (Or.inl ⟨by rfl, ?_⟩) ?_ ?_
                                            rotate_left
                                            · intro w'
                                              go_simp
                                              with_reducible rfl
                                            rotate_left
                                            · simp only [Act.put, List.setIfInBounds_toArray, List.set_cons_zero, List.set_cons_succ, i64_w, i32_w]
                                              rfl
                                            refine done_ (done_of HT_.out (by kernel_rfl)) ?_
                                            try go_wp2
                                            go_meet
                                            case rel => exact ⟨_, (!t229), (by first | rfl | (simp; done) | (simp [*]; done)), H', ⟨by have := HK1.out; have := HJ2.out; have := HJ4.out; have := HJ9.out; first | omega | exact Nat.le_refl _⟩, ⟨by (with_reducible repeat (first | refine blk_drewN ?_ _ | refine blk_drew ?_ | refine blk_alloc ?_ _)); exact BK212.out⟩, ⟨by repeat (first | (with_reducible first | exact HB.out | apply below_alloc | apply pw_below_drewN | apply below_drew1 | refine below_set ?_ GE212.out) | exact HB.out)⟩⟩
                                    · as_aux_lemma =>
                                        rw [if_neg c19] at H
                                        have c19b0 : decide (0 ≤ ((rd_T35 l0 x3_1).f4)) = false := decide_eq_false c19
                                        clear c19
                                        (first | rw [c19b0] | (simp only [i64_w, i32_w]; rw [c19b0]) | skip)
                                        replace H := Option.bind_eq_some_iff.mp H
                                        obtain ⟨t230, A400, H⟩ := H
                                        replace H : ((gangwaylaw20_is.f kj9 t214 t215 false t230).bind fun t233 => (gangwaylaw20_StatEntries.j4 kj9 l0 x3_1 (!t233))) = some r := H
                                        have A40 := Aside0.mk A400
                                        clear A400
                                        replace H := Option.bind_eq_some_iff.mp H
                                        obtain ⟨t233, A410, H⟩ := H
                                        replace H : (gangwaylaw20_StatEntries.j4 kj9 l0 x3_1 (!t233)) = some r := H
                                        have A41 := Aside0.mk A410
                                        clear A410
                                        have H' := Aside0.mk H
                                        clear H
                                        try go_wp2
                                        have n0_ := Aside0.mk (Kd.R_drew HO217.out)
                                        have n1_ := Aside0.mk (blk_drew BK212.out)
                                        have n2_ := Aside0.mk (below_drew1 HB.out)
                                        clear HO217
                                        clear BK212
                                        clear HB
                                        have HO217 := n0_
                                        have BK212 := n1_
                                        have HB := n2_
                                        clear n0_ n1_ n2_
                                        refine start_ (n := 31) (S := fun w' => w'.cell? ⟨gb212, 14, none⟩ = some (.string ((rd_T35 l0 x3_1).f3)) ∧ w'.cell? ⟨gb212, 15, none⟩ = some (.int .i64 ((rd_T35 l0 x3_1).f4)) ∧ w'.cell? ⟨gb212, 16, none⟩ = some (.int .i64 ((rd_T35 l0 x3_1).f5)) ∧ w'.cell? ⟨gb212, 17, none⟩ = some (.int .i64 ((rd_T35 l0 x3_1).f6))) (ds := []) #[false, false, false, false, false, false, false, false, false, false, false, false, false, false, false, false, false, false, false, false, false, false, false, false, false, false, false, false, false, false, false] (by kernel_rfl) rfl rfl ⟨(blk_cell BK212.out 14).trans rfl, (blk_cell BK212.out 15).trans rfl, (blk_cell BK212.out 16).trans rfl, (blk_cell BK212.out 17).trans rfl⟩ (fun hHeld => ?_); refine with_tabW gangwaylaw20_StatEntries.tab8 gangwaylaw20_StatEntries.bits8 (fun HT_ HW_ => ?_)
                                        generalize w18.drew = w42 at HO217 BK212 HB hHeld ⊢
                                        refine pure_ (i := 0) (N := some 35) (v := ?_) (a' := ?_) #[true, false, false, false, false, false, false, false, false, false, false, false, false, false, false, false, false, false, false, false, false, false, false, false, false, false, false, false, false, false, false] rfl rfl (any_of HT_.out (by kernel_rfl)) (fun _ _ _ h => h) (Or.inl ⟨by rfl, ?_⟩) ?_ ?_
                                        rotate_left
                                        · intro w'
                                          go_simp
                                          with_reducible rfl
                                        rotate_left
                                        · simp only [Act.put, List.setIfInBounds_toArray, List.set_cons_zero, List.set_cons_succ, i64_w, i32_w]
                                          rfl
                                        refine pure_ (i := 1) (N := some 36) (v := ?_) (a' := ?_) #[true, true, false, false, false, false, false, false, false, false, false, false, false, false, false, false, false, false, false, false, false, false, false, false, false, false, false, false, false, false, false] rfl rfl (any_of HT_.out (by kernel_rfl)) (fun _ _ _ h => h) (Or.inl ⟨by rfl, ?_⟩) ?_ ?_
                                        rotate_left
                                        · intro w'
                                          go_simp
                                          with_reducible rfl
                                        rotate_left
                                        · simp only [Act.put, List.setIfInBounds_toArray, List.set_cons_zero, List.set_cons_succ, i64_w, i32_w]
                                          rfl
                                        refine pure_ (i := 2) (N := some 37) (v := ?_) (a' := ?_) #[true, true, true, false, false, false, false, false, false, false, false, false, false, false, false, false, false, false, false, false, false, false, false, false, false, false, false, false, false, false, false] rfl rfl (any_of HT_.out (by kernel_rfl)) (fun _ _ _ h => h) (Or.inl ⟨by rfl, ?_⟩) ?_ ?_
                                        rotate_left
                                        · intro w'
                                          go_simp
                                          with_reducible rfl
                                        rotate_left
                                        · simp only [Act.put, List.setIfInBounds_toArray, List.set_cons_zero, List.set_cons_succ, i64_w, i32_w]
                                          rfl
                                        refine pure_ (i := 20) (N := some 55) (v := ?_) (a' := ?_) #[true, true, true, false, false, false, false, false, false, false, false, false, false, false, false, false, false, false, false, false, true, false, false, false, false, false, false, false, false, false, false] rfl rfl (any_of HT_.out (by kernel_rfl)) (fun _ _ _ h => h) (Or.inl ⟨by rfl, ?_⟩) ?_ ?_
                                        rotate_left
                                        · intro w'
                                          go_simp
                                          with_reducible rfl
                                        rotate_left
                                        · simp only [Act.put, List.setIfInBounds_toArray, List.set_cons_zero, List.set_cons_succ, i64_w, i32_w]
                                          rfl
                                        refine pure_ (i := 22) (N := some 57) (v := ?_) (a' := ?_) #[true, true, true, false, false, false, false, false, false, false, false, false, false, false, false, false, false, false, false, false, true, false, true, false, false, false, false, false, false, false, false] rfl rfl (any_of HT_.out (by kernel_rfl)) (fun _ _ _ h => h) (Or.inl ⟨by rfl, ?_⟩) ?_ ?_
                                        rotate_left
                                        · intro w'
                                          go_simp
                                          with_reducible rfl
                                        rotate_left
                                        · simp only [Act.put, List.setIfInBounds_toArray, List.set_cons_zero, List.set_cons_succ, i64_w, i32_w]
                                          rfl
                                        refine pure_ (i := 24) (N := some 59) (v := ?_) (a' := ?_) #[true, true, true, false, false, false, false, false, false, false, false, false, false, false, false, false, false, false, false, false, true, false, true, false, true, false, false, false, false, false, false] rfl rfl (any_of HT_.out (by kernel_rfl)) (fun _ _ _ h => h) (Or.inl ⟨by rfl, ?_⟩) ?_ ?_
                                        rotate_left
                                        · intro w'
                                          go_simp
                                          with_reducible rfl
                                        rotate_left
                                        · simp only [Act.put, List.setIfInBounds_toArray, List.set_cons_zero, List.set_cons_succ, i64_w, i32_w]
                                          rfl
                                        refine pure_ (i := 26) (N := some 61) (v := ?_) (a' := ?_) #[true, true, true, false, false, false, false, false, false, false, false, false, false, false, false, false, false, false, false, false, true, false, true, false, true, false, true, false, false, false, false] rfl rfl (any_of HT_.out (by kernel_rfl)) (fun _ _ _ h => h) (Or.inl ⟨by rfl, ?_⟩) ?_ ?_
                                        rotate_left
                                        · intro w'
                                          go_simp
                                          with_reducible rfl
                                        rotate_left
                                        · simp only [Act.put, List.setIfInBounds_toArray, List.set_cons_zero, List.set_cons_succ, i64_w, i32_w]
                                          rfl
                                        refine take_ (i := 3) (N := some 38) (v := ?_) (a' := ?_) #[true, true, true, true, false, false, false, false, false, false, false, false, false, false, false, false, false, false, false, false, true, false, true, false, true, false, true, false, false, false, false] rfl rfl (take_ofW HT_.out HW_.out (by kernel_rfl)) (fun _ _ _ h => h) (Or.inl ⟨by rfl, ?_⟩) hHeld ?_ ?_
                                        rotate_left
                                        · rintro w' ⟨s0, s1, s2, s3⟩
                                          go_simp
                                          with_reducible rfl
                                        rotate_left
                                        · simp only [Act.put, List.setIfInBounds_toArray, List.set_cons_zero, List.set_cons_succ, i64_w, i32_w]
                                          rfl
                                        refine pure_ (i := 4) (N := some 39) (v := ?_) (a' := ?_) #[true, true, true, true, true, false, false, false, false, false, false, false, false, false, false, false, false, false, false, false, true, false, true, false, true, false, true, false, false, false, false] rfl rfl (any_of HT_.out (by kernel_rfl)) (fun _ _ _ h => h) (Or.inl ⟨by rfl, ?_⟩) ?_ ?_
                                        rotate_left
                                        · intro w'
                                          go_simp
                                          with_reducible rfl
                                        rotate_left
                                        · simp only [Act.put, List.setIfInBounds_toArray, List.set_cons_zero, List.set_cons_succ, i64_w, i32_w]
                                          rfl
                                        refine pure_ (i := 5) (N := some 40) (v := ?_) (a' := ?_) #[true, true, true, true, true, true, false, false, false, false, false, false, false, false, false, false, false, false, false, false, true, false, true, false, true, false, true, false, false, false, false] rfl rfl (any_of HT_.out (by kernel_rfl)) (fun _ _ _ h => h) (Or.inl ⟨by rfl, ?_⟩) ?_ ?_
                                        rotate_left
                                        · intro w'
                                          go_simp
                                          with_reducible rfl
                                        rotate_left
                                        · simp only [Act.put, List.setIfInBounds_toArray, List.set_cons_zero, List.set_cons_succ, i64_w, i32_w]
                                          rfl
                                        refine pure_ (i := 6) (N := some 41) (v := undef) (a' := ?_) #[true, true, true, true, true, true, true, false, false, false, false, false, false, false, false, false, false, false, false, false, true, false, true, false, true, false, true, false, false, false, false] rfl rfl (any_of HT_.out (by kernel_rfl)) (fun _ _ _ h => h) (Or.inr ⟨by rfl, rfl⟩) ?_ ?_
                                        rotate_left
                                        · simp only [Act.put, List.setIfInBounds_toArray, List.set_cons_zero, List.set_cons_succ, i64_w, i32_w]
                                          rfl
                                        refine pure_ (i := 7) (N := some 42) (v := undef) (a' := ?_) #[true, true, true, true, true, true, true, true, false, false, false, false, false, false, false, false, false, false, false, false, true, false, true, false, true, false, true, false, false, false, false] rfl rfl (any_of HT_.out (by kernel_rfl)) (fun _ _ _ h => h) (Or.inr ⟨by rfl, rfl⟩) ?_ ?_
                                        rotate_left
                                        · simp only [Act.put, List.setIfInBounds_toArray, List.set_cons_zero, List.set_cons_succ, i64_w, i32_w]
                                          rfl
                                        refine pure_ (i := 8) (N := some 43) (v := undef) (a' := ?_) #[true, true, true, true, true, true, true, true, true, false, false, false, false, false, false, false, false, false, false, false, true, false, true, false, true, false, true, false, false, false, false] rfl rfl (any_of HT_.out (by kernel_rfl)) (fun _ _ _ h => h) (Or.inr ⟨by rfl, rfl⟩) ?_ ?_
                                        rotate_left
                                        · simp only [Act.put, List.setIfInBounds_toArray, List.set_cons_zero, List.set_cons_succ, i64_w, i32_w]
                                          rfl
                                        refine pure_ (i := 9) (N := some 44) (v := ?_) (a' := ?_) #[true, true, true, true, true, true, true, true, true, true, false, false, false, false, false, false, false, false, false, false, true, false, true, false, true, false, true, false, false, false, false] rfl rfl (any_of HT_.out (by kernel_rfl)) (fun _ _ _ h => h) (Or.inl ⟨by rfl, ?_⟩) ?_ ?_
                                        rotate_left
                                        · intro w'
                                          go_simp
                                          with_reducible rfl
                                        rotate_left
                                        · simp only [Act.put, List.setIfInBounds_toArray, List.set_cons_zero, List.set_cons_succ, i64_w, i32_w]
                                          rfl
                                        refine pure_ (i := 10) (N := some 45) (v := ?_) (a' := ?_) #[true, true, true, true, true, true, true, true, true, true, true, false, false, false, false, false, false, false, false, false, true, false, true, false, true, false, true, false, false, false, false] rfl rfl (any_of HT_.out (by kernel_rfl)) (fun _ _ _ h => h) (Or.inl ⟨by rfl, ?_⟩) ?_ ?_
                                        rotate_left
                                        · intro w'
                                          go_simp
                                          with_reducible rfl
                                        rotate_left
                                        · simp only [Act.put, List.setIfInBounds_toArray, List.set_cons_zero, List.set_cons_succ, i64_w, i32_w]
                                          rfl
                                        refine pure_ (i := 11) (N := some 46) (v := undef) (a' := ?_) #[true, true, true, true, true, true, true, true, true, true, true, true, false, false, false, false, false, false, false, false, true, false, true, false, true, false, true, false, false, false, false] rfl rfl (any_of HT_.out (by kernel_rfl)) (fun _ _ _ h => h) (Or.inr ⟨by rfl, rfl⟩) ?_ ?_
                                        rotate_left
                                        · simp only [Act.put, List.setIfInBounds_toArray, List.set_cons_zero, List.set_cons_succ, i64_w, i32_w]
                                          rfl
                                        refine pure_ (i := 12) (N := some 47) (v := undef) (a' := ?_) #[true, true, true, true, true, true, true, true, true, true, true, true, true, false, false, false, false, false, false, false, true, false, true, false, true, false, true, false, false, false, false] rfl rfl (any_of HT_.out (by kernel_rfl)) (fun _ _ _ h => h) (Or.inr ⟨by rfl, rfl⟩) ?_ ?_
                                        rotate_left
                                        · simp only [Act.put, List.setIfInBounds_toArray, List.set_cons_zero, List.set_cons_succ, i64_w, i32_w]
                                          rfl
                                        refine pure_ (i := 13) (N := some 48) (v := undef) (a' := ?_) #[true, true, true, true, true, true, true, true, true, true, true, true, true, true, false, false, false, false, false, false, true, false, true, false, true, false, true, false, false, false, false] rfl rfl (any_of HT_.out (by kernel_rfl)) (fun _ _ _ h => h) (Or.inr ⟨by rfl, rfl⟩) ?_ ?_
                                        rotate_left
                                        · simp only [Act.put, List.setIfInBounds_toArray, List.set_cons_zero, List.set_cons_succ, i64_w, i32_w]
                                          rfl
                                        refine pure_ (i := 14) (N := some 49) (v := ?_) (a' := ?_) #[true, true, true, true, true, true, true, true, true, true, true, true, true, true, true, false, false, false, false, false, true, false, true, false, true, false, true, false, false, false, false] rfl rfl (any_of HT_.out (by kernel_rfl)) (fun _ _ _ h => h) (Or.inl ⟨by rfl, ?_⟩) ?_ ?_
                                        rotate_left
                                        · intro w'
                                          go_simp
                                          with_reducible rfl
                                        rotate_left
                                        · simp only [Act.put, List.setIfInBounds_toArray, List.set_cons_zero, List.set_cons_succ, i64_w, i32_w]
                                          rfl
                                        refine pure_ (i := 15) (N := some 50) (v := ?_) (a' := ?_) #[true, true, true, true, true, true, true, true, true, true, true, true, true, true, true, true, false, false, false, false, true, false, true, false, true, false, true, false, false, false, false] rfl rfl (any_of HT_.out (by kernel_rfl)) (fun _ _ _ h => h) (Or.inl ⟨by rfl, ?_⟩) ?_ ?_
                                        rotate_left
                                        · intro w'
                                          go_simp
                                          with_reducible rfl
                                        rotate_left
                                        · simp only [Act.put, List.setIfInBounds_toArray, List.set_cons_zero, List.set_cons_succ, i64_w, i32_w]
                                          rfl
                                        refine pure_ (i := 16) (N := some 51) (v := undef) (a' := ?_) #[true, true, true, true, true, true, true, true, true, true, true, true, true, true, true, true, true, false, false, false, true, false, true, false, true, false, true, false, false, false, false] rfl rfl (any_of HT_.out (by kernel_rfl)) (fun _ _ _ h => h) (Or.inr ⟨by rfl, rfl⟩) ?_ ?_
                                        rotate_left
                                        · simp only [Act.put, List.setIfInBounds_toArray, List.set_cons_zero, List.set_cons_succ, i64_w, i32_w]
                                          rfl
                                        refine pure_ (i := 17) (N := some 52) (v := undef) (a' := ?_) #[true, true, true, true, true, true, true, true, true, true, true, true, true, true, true, true, true, true, false, false, true, false, true, false, true, false, true, false, false, false, false] rfl rfl (any_of HT_.out (by kernel_rfl)) (fun _ _ _ h => h) (Or.inr ⟨by rfl, rfl⟩) ?_ ?_
                                        rotate_left
                                        · simp only [Act.put, List.setIfInBounds_toArray, List.set_cons_zero, List.set_cons_succ, i64_w, i32_w]
                                          rfl
                                        refine pure_ (i := 18) (N := some 53) (v := undef) (a' := ?_) #[true, true, true, true, true, true, true, true, true, true, true, true, true, true, true, true, true, true, true, false, true, false, true, false, true, false, true, false, false, false, false] rfl rfl (any_of HT_.out (by kernel_rfl)) (fun _ _ _ h => h) (Or.inr ⟨by rfl, rfl⟩) ?_ ?_
                                        rotate_left
                                        · simp only [Act.put, List.setIfInBounds_toArray, List.set_cons_zero, List.set_cons_succ, i64_w, i32_w]
                                          rfl
                                        refine pure_ (i := 19) (N := some 54) (v := ?_) (a' := ?_) #[true, true, true, true, true, true, true, true, true, true, true, true, true, true, true, true, true, true, true, true, true, false, true, false, true, false, true, false, false, false, false] rfl rfl (any_of HT_.out (by kernel_rfl)) (fun _ _ _ h => h) (Or.inl ⟨by rfl, ?_⟩) ?_ ?_
                                        rotate_left
                                        · intro w'
                                          go_simp
                                          with_reducible rfl
                                        rotate_left
                                        · simp only [Act.put, List.setIfInBounds_toArray, List.set_cons_zero, List.set_cons_succ, i64_w, i32_w]
                                          rfl
                                        refine take_ (i := 21) (N := some 56) (v := ?_) (a' := ?_) #[true, true, true, true, true, true, true, true, true, true, true, true, true, true, true, true, true, true, true, true, true, true, true, false, true, false, true, false, false, false, false] rfl rfl (take_ofW HT_.out HW_.out (by kernel_rfl)) (fun _ _ _ h => h) (Or.inl ⟨by rfl, ?_⟩) hHeld ?_ ?_
                                        rotate_left
                                        · rintro w' ⟨s0, s1, s2, s3⟩
                                          go_simp
                                          with_reducible rfl
                                        rotate_left
                                        · simp only [Act.put, List.setIfInBounds_toArray, List.set_cons_zero, List.set_cons_succ, i64_w, i32_w]
                                          rfl
                                        refine take_ (i := 23) (N := some 58) (v := ?_) (a' := ?_) #[true, true, true, true, true, true, true, true, true, true, true, true, true, true, true, true, true, true, true, true, true, true, true, true, true, false, true, false, false, false, false] rfl rfl (take_ofW HT_.out HW_.out (by kernel_rfl)) (fun _ _ _ h => h) (Or.inl ⟨by rfl, ?_⟩) hHeld ?_ ?_
                                        rotate_left
                                        · rintro w' ⟨s0, s1, s2, s3⟩
                                          go_simp
                                          with_reducible rfl
                                        rotate_left
                                        · simp only [Act.put, List.setIfInBounds_toArray, List.set_cons_zero, List.set_cons_succ, i64_w, i32_w]
                                          rfl
                                        refine take_ (i := 25) (N := some 60) (v := ?_) (a' := ?_) #[true, true, true, true, true, true, true, true, true, true, true, true, true, true, true, true, true, true, true, true, true, true, true, true, true, true, true, false, false, false, false] rfl rfl (take_ofW HT_.out HW_.out (by kernel_rfl)) (fun _ _ _ h => h) (Or.inl ⟨by rfl, ?_⟩) hHeld ?_ ?_
                                        rotate_left
                                        · rintro w' ⟨s0, s1, s2, s3⟩
                                          go_simp
                                          with_reducible rfl
                                        rotate_left
                                        · simp only [Act.put, List.setIfInBounds_toArray, List.set_cons_zero, List.set_cons_succ, i64_w, i32_w]
                                          rfl
                                        refine take_ (i := 27) (N := some 62) (v := ?_) (a' := ?_) #[true, true, true, true, true, true, true, true, true, true, true, true, true, true, true, true, true, true, true, true, true, true, true, true, true, true, true, true, false, false, false] rfl rfl (take_ofW HT_.out HW_.out (by kernel_rfl)) (fun _ _ _ h => h) (Or.inl ⟨by rfl, ?_⟩) hHeld ?_ ?_
                                        rotate_left
                                        · rintro w' ⟨s0, s1, s2, s3⟩
                                          go_simp
                                          with_reducible rfl
                                        rotate_left
                                        · simp only [Act.put, List.setIfInBounds_toArray, List.set_cons_zero, List.set_cons_succ, i64_w, i32_w]
                                          rfl
                                        refine one_ (i := 28) (N := some 63) #[true, true, true, true, true, true, true, true, true, true, true, true, true, true, true, true, true, true, true, true, true, true, true, true, true, true, true, true, true, false, false] rfl rfl (one_of HT_.out (by kernel_rfl)) (by decide) (fun K hK => ?_)
                                        refine goes_ Try.func17 (by kernel_rfl) rfl #[.int .i64 ((rd_T35 l0 x3_1).f4), .int .i64 ((rd_T35 l0 x3_1).f5), .string ((rd_T35 l0 x3_1).f3), .int .i64 ((rd_T35 l0 x3_1).f6)] (by rfl) rfl rfl (by (try simp only [List.map_toArray, List.map_cons, List.map_nil]); first | done | rfl | (simp only [List.length_drop, List.length_take]; rfl)) ?_
                                        with_reducible refine (gangwayref20_Dirent.calls kj9 ((rd_T35 l0 x3_1).f4) ((rd_T35 l0 x3_1).f5) ((rd_T35 l0 x3_1).f3) ((rd_T35 l0 x3_1).f6) t230 _ A40.out).mono ?_
                                        rintro e w43 ⟨v231, rfl, ho0, hb⟩
                                        refine ⟨_, rfl, ?_⟩
                                        have n0_ := Aside0.mk (Kd.R_elder' (by (with_reducible repeat (first | apply Kd.R_alloc | apply Kd.R_drewN | apply Kd.R_drew)); exact HO217.out) (Kd.R_base ho0) hb)
                                        have n1_ := Aside0.mk (Kd.R_lower (Kd.R_new' ho0 (Kd.R_lt (by (with_reducible repeat (first | apply Kd.R_alloc | apply Kd.R_drewN | apply Kd.R_drew)); exact HO217.out))) (below_size (by repeat (first | (with_reducible first | exact HB.out | apply below_alloc | apply pw_below_drewN | apply below_drew1 | refine below_set ?_ GE212.out) | exact HB.out))))
                                        have n2_ := Aside0.mk (blk_below (g := gb212) (o := .cells #[.int .i64 ((rd_T35 l0 x3_1).f0.f0), .int .i64 ((rd_T35 l0 x3_1).f0.f1), .int .i64 ((rd_T35 l0 x3_1).f0.f2), .int .i64 ((rd_T35 l0 x3_1).f0.f3), .int .i64 ((rd_T35 l0 x3_1).f0.f4), .int .i64 ((rd_T35 l0 x3_1).f0.f5), .string ((rd_T35 l0 x3_1).f0.f6), .int .i64 ((rd_T35 l0 x3_1).f1.f0), .slice A211_8 ((rd_T35 l0 x3_1).f1.f1).length c211_8, .slice A211_9 ((rd_T35 l0 x3_1).f1.f2).length c211_9, .string ((rd_T35 l0 x3_1).f1.f3), .int .i64 ((rd_T35 l0 x3_1).f1.f4), .int .i64 ((rd_T35 l0 x3_1).f1.f5), .int .i64 ((rd_T35 l0 x3_1).f2), .string ((rd_T35 l0 x3_1).f3), .int .i64 ((rd_T35 l0 x3_1).f4), .int .i64 ((rd_T35 l0 x3_1).f5), .int .i64 ((rd_T35 l0 x3_1).f6), .int .i64 ((rd_T35 l0 x3_1).f7.f0), .int .i64 ((rd_T35 l0 x3_1).f7.f1), .int .i64 ((rd_T35 l0 x3_1).f7.f2), .int .i64 ((rd_T35 l0 x3_1).f7.f3), .slice A211_22 ((rd_T35 l0 x3_1).f8).length c211_22] 35 (0, 0)) (by (with_reducible repeat (first | refine blk_drewN ?_ _ | refine blk_drew ?_ | refine blk_alloc ?_ _)); exact BK212.out) hb)
                                        have n3_ := Aside0.mk (below_step (by repeat (first | (with_reducible first | exact HB.out | apply below_alloc | apply pw_below_drewN | apply below_drew1 | refine below_set ?_ GE212.out) | exact HB.out)) hb)
                                        clear HO217
                                        clear BK212
                                        clear HB
                                        have HO217 := n0_
                                        have HO232 := n1_
                                        have BK212 := n2_
                                        have HB := n3_
                                        clear n0_ n1_ n2_ n3_
                                        (try clear hb)
                                        (try clear hb2)
                                        (try clear hk)
                                        (try clear hi)
                                        (try clear ho0)
                                        obtain ⟨Ao44, co44, eo44⟩ := Kd.R_slice HO217.out
                                        (first | subst eo44 | (injection eo44 with f1_ f2_ f3_; have f4_ := f1_.symm; have f5_ := f3_.symm; clear f1_ f2_ f3_; subst f4_; subst f5_))
                                        obtain ⟨Ao45, co45, eo45⟩ := Kd.R_slice HO232.out
                                        (first | subst eo45 | (injection eo45 with f1_ f2_ f3_; have f4_ := f1_.symm; have f5_ := f3_.symm; clear f1_ f2_ f3_; subst f4_; subst f5_))
                                        refine hK.out _ _ ⟨(blk_cell BK212.out 14).trans rfl, (blk_cell BK212.out 15).trans rfl, (blk_cell BK212.out 16).trans rfl, (blk_cell BK212.out 17).trans rfl⟩ (fun hHeld => ?_)
                                        clear hK K
                                        refine norm_ (a' := ?_) ?_ ?_
                                        rotate_left
                                        · show Act.put _ (some 63) _ = _
                                          simp only [Act.put, List.setIfInBounds_toArray, List.set_cons_zero, List.set_cons_succ, i64_w, i32_w]
                                          rfl
                                        refine one_ (i := 29) (N := some 64) #[true, true, true, true, true, true, true, true, true, true, true, true, true, true, true, true, true, true, true, true, true, true, true, true, true, true, true, true, true, true, false] rfl rfl (one_of HT_.out (by kernel_rfl)) (by decide) (fun K hK => ?_)
                                        refine goes_ Try.func11 (by kernel_rfl) rfl #[.slice Ao44 t214.length co44, .int .i64 t215, .bool false, .slice Ao45 t230.length co45] (by rfl) rfl rfl (by (try simp only [List.map_toArray, List.map_cons, List.map_nil]); first | done | rfl | (simp only [List.length_drop, List.length_take]; rfl)) ?_
                                        with_reducible refine (gangwaylaw20_is.calls kj9 _ _ t214 t215 false _ _ t230 t233 _ ?side1 ?side2 ?side3 ?side4 A41.out).mono ?_
                                        (case side1 => repeat (first | exact (Kd.R_reads' HO217.out).2.2 | (with_reducible refine Kd.C_alloc ?_ _) | (with_reducible refine Kd.C_drewN ?_ _) | (with_reducible refine Kd.C_drew ?_)))
                                        (case side2 => exact (Kd.R_reads' HO217.out).2.1)
                                        (case side3 => repeat (first | exact (Kd.R_reads' HO232.out).2.2 | (with_reducible refine Kd.C_alloc ?_ _) | (with_reducible refine Kd.C_drewN ?_ _) | (with_reducible refine Kd.C_drew ?_)))
                                        (case side4 => exact (Kd.R_reads' HO232.out).2.1)
                                        rintro e w' ⟨rfl, ⟨nd, rfl⟩⟩
                                        refine ⟨_, rfl, ?_⟩
                                        refine hK.out _ _ ⟨(blk_cell BK212.out 14).trans rfl, (blk_cell BK212.out 15).trans rfl, (blk_cell BK212.out 16).trans rfl, (blk_cell BK212.out 17).trans rfl⟩ (fun hHeld => ?_)
                                        clear hK K
                                        refine norm_ (a' := ?_) ?_ ?_
                                        rotate_left
                                        · show Act.put _ (some 64) _ = _
                                          simp only [Act.put, List.setIfInBounds_toArray, List.set_cons_zero, List.set_cons_succ, i64_w, i32_w]
                                          rfl
                                        refine pure_ (i := 30) (N := some 65) (v := ?_) (a' := ?_) #[true, true, true, true, true, true, true, true, true, true, true, true, true, true, true, true, true, true, true, true, true, true, true, true, true, true, true, true, true, true, true] rfl rfl (any_of HT_.out (by kernel_rfl)) (fun _ _ _ h => h) (Or.inl ⟨by rfl, ?_⟩) ?_ ?_
                                        rotate_left
                                        · intro w'
                                          go_simp
                                          with_reducible rfl
                                        rotate_left
                                        · simp only [Act.put, List.setIfInBounds_toArray, List.set_cons_zero, List.set_cons_succ, i64_w, i32_w]
                                          rfl
                                        refine done_ (done_of HT_.out (by kernel_rfl)) ?_
                                        try go_wp2
                                        go_meet
                                        case rel => exact ⟨_, (!t233), (by first | rfl | (simp; done) | (simp [*]; done)), H', ⟨by have := HK1.out; have := HJ2.out; have := HJ4.out; have := HJ9.out; first | omega | exact Nat.le_refl _⟩, ⟨by (with_reducible repeat (first | refine blk_drewN ?_ _ | refine blk_drew ?_ | refine blk_alloc ?_ _)); exact BK212.out⟩, ⟨by repeat (first | (with_reducible first | exact HB.out | apply below_alloc | apply pw_below_drewN | apply below_drew1 | refine below_set ?_ GE212.out) | exact HB.out)⟩⟩
                                  case rest =>
                                    as_aux_lemma =>
                                      clear HC16
                                      try clear c1
                                      try clear c2
                                      try clear p2
                                      try clear c11
                                      try clear c17
                                      try clear c19
                                      try clear c19b0
                                      try clear c20
                                      try clear c20b0
                                      try clear c21
                                      obtain ⟨kq, x65_15, rfl, HA, HJ15, BK212, HB⟩ := hcut
                                      cases kq with
                                      | zero => exact absurd HA.out (by simp [gangwaylaw20_StatEntries.j4])
                                      | succ kj15 =>
                                        have H := HA.out
                                        clear HA
                                        simp only [gangwaylaw20_StatEntries.j4] at H
                                        by_cases c46 : x65_15 = true
                                        · subst c46
                                          have H1 : (some false) = some r := by rw [if_pos rfl] at H; exact H
                                          clear H
                                          have H := H1
                                          clear H1
                                          obtain rfl := Option.some.inj H
                                          go_wp2
                                          go_ret
                                          exact ⟨by first | rfl | (simp [errW_none, errW_some] <;> rfl) | (simp [*, errW_none, errW_some] <;> rfl), by repeat (first | (with_reducible first | exact HB.out | apply below_alloc | apply pw_below_drewN | apply below_drew1 | refine below_set ?_ GE212.out) | exact HB.out)⟩
                                        · replace c46 := Bool.eq_false_iff.mpr c46
                                          subst c46
                                          have H1 : (gangwaylaw20_StatEntries.l0 kj15 l0 (wrap64 (x3_1 + 1))) = some r := by rw [if_neg (show ¬ (false = true) by decide)] at H; exact H
                                          clear H
                                          have H := H1
                                          clear H1
                                          have H' := Aside0.mk H
                                          clear H
                                          go_wp2
                                          go_roundg kj15
                                          case measure => have := HK1.out; have := HJ2.out; have := HJ4.out; have := HJ9.out; have := HJ15.out; omega
                                          case rel => exact ⟨(wrap64 (x3_1 + 1)), (by first | rfl | (simp; done) | (simp [*]; done)), H', ⟨by have := HK1.out; have := HJ2.out; have := HJ4.out; have := HJ9.out; have := HJ15.out; omega⟩, ⟨by repeat (first | (with_reducible first | exact HB.out | apply below_alloc | apply pw_below_drewN | apply below_drew1 | refine below_set ?_ GE212.out) | exact HB.out)⟩⟩
                        · rw [if_neg c8] at H
                          exact absurd H (by simp)
                    · rw [if_neg c7] at H
                      exact absurd H (by simp)
  case rest =>
    as_aux_lemma =>
      clear HC2
      try clear c1
      try clear c2
      try clear p2
      try clear c4
      try clear p6
      try clear c7
      try clear c8
      try clear c11
      try clear c17
      try clear c19
      try clear c19b0
      try clear c20
      try clear c20b0
      try clear c21
      try clear c46
      try clear p2
      obtain ⟨kq, HA, HJ1, HB⟩ := hcut
      cases kq with
      | zero => exact absurd HA.out (by simp [gangwaylaw20_StatEntries.j5])
      | succ kj1 =>
        have H := HA.out
        clear HA
        simp only [gangwaylaw20_StatEntries.j5] at H
        replace H := Option.bind_eq_some_iff.mp H
        obtain ⟨t234, A470, H⟩ := H
        replace H : (some t234) = some r := H
        have A47 := Aside0.mk A470
        clear A470
        obtain rfl := Option.some.inj H
        go_wp2_with (first | ((with_reducible refine gate_callee (f := 14) rfl ?_); refine goesL_ (some 66) rfl rfl Try.func14 (by kernel_rfl) rfl #[] rfl (by (try simp only [List.map_toArray, List.map_cons, List.map_nil]); first | done | rfl | (simp only [List.length_drop, List.length_take]; rfl)) ?_; (with_reducible refine (gangwaylaw20_wakes.calls kj1  t234 _ A47.out).mono ?_); rintro e w48 ⟨rfl, hb⟩; refine ⟨_, rfl, ?_⟩; have n0_ := Aside0.mk (below_step (by repeat (first | (with_reducible first | exact HB.out | apply below_alloc | apply pw_below_drewN | apply below_drew1) | exact HB.out)) hb); clear HB; have HB := n0_; clear n0_; (try clear hb); (try clear hb2); (try clear hk); (try clear hi)))
        go_ret
        exact ⟨by first | rfl | (simp [errW_none, errW_some] <;> rfl) | (simp [*, errW_none, errW_some] <;> rfl), by repeat (first | (with_reducible first | exact HB.out | apply below_alloc | apply pw_below_drewN | apply below_drew1) | exact HB.out)⟩

/-- THE ONE PURE STATEMENT of gangwaylaw20_StatEntries: yours. -/
def gangwaylaw20_StatEntries.Pure : Prop := ∀ (x0 : List (S35)), (x0.length * 256 ≤ 140737488351232 ∧ ∀ y235 ∈ x0, okT35 y235) → ∃ k, gangwaylaw20_StatEntries.f k x0 = some true
theorem gangwaylaw20_StatEntries.walk (P : gangwaylaw20_StatEntries.Pure) (w : World) (x0 : List (S35)) (A0 : Option Addr) (c0 : Nat) (hr0 : Kd.C k35 w A0 x0.length x0) (hc0 : x0.length ≤ c0) (hok0 : (x0.length * 256 ≤ 140737488351232 ∧ ∀ y236 ∈ x0, okT35 y236)) :
    Calls Try.prog 4 #[.slice A0 x0.length c0] w fun e w' => e = .returned (.bool true) ∧ Below w.heap.size w w' := by
  obtain ⟨k, h⟩ := P x0 hok0
  refine (gangwaylaw20_StatEntries.calls k _ _ x0 true w hr0 hc0 h).mono ?_
  rintro e w' ⟨rfl, hd⟩
  exact ⟨rfl, hd⟩

end Go.Proofs.Ythhmnecnoojcpaa.PAll
