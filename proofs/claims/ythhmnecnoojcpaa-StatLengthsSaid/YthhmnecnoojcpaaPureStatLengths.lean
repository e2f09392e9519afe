/- How many bytes stat tells of a descriptor, a node, a stream, an event and an entry; a file's size is its bytes': for every list of asks. -/
import Derived.Test.YthhmnecnoojcpaaPAllx17
import Derived.Test.YthhmnecnoojcpaaPAllx5
import Derived.Test.YthhmnecnoojcpaaPAllx2
import Derived.Test.YthhmnecnoojcpaaQFd
import Derived.Test.YthhmnecnoojcpaaQEv
import Derived.Test.YthhmnecnoojcpaaQNode
import Derived.Test.YthhmnecnoojcpaaQDir
namespace Go.Proofs.Ythhmnecnoojcpaa.Pure
open Go.RowKit Go.Proofs.Ythhmnecnoojcpaa.PAll Go.Proofs.YthhmnecnoojcpaaW.PrintWords Go.Proofs.YthhmnecnoojcpaaW.PrintLast Go.Proofs.YthhmnecnoojcpaaW.PrintMore Go.Proofs.YthhmnecnoojcpaaU Go.Proofs.Ythhmnecnoojcpaa.Q Go.Proofs.Ythhmnecnoojcpaa.QKind Go.Proofs.Ythhmnecnoojcpaa.QNode Go.Proofs.Ythhmnecnoojcpaa.QDir Go.Proofs.Ythhmnecnoojcpaa.QEv Go.Proofs.Ythhmnecnoojcpaa.QFd
set_option linter.unusedVariables false

theorem rd_lo (b : List Int) (i : Nat) (p : List Int) (j : Nat) (h : j < i) (hi : i ≤ b.length) : rd (splice b i p) (j : Int) = rd b (j : Int) := by
  rw [rd_nat, rd_nat]
  unfold splice
  rw [List.append_assoc, List.getD_eq_getElem?_getD, List.getElem?_append_left (by simp; omega), List.getElem?_take_of_lt h, List.getD_eq_getElem?_getD]
theorem rd_in (b : List Int) (i : Nat) (p : List Int) (j : Nat) (h : j < p.length) (hi : i ≤ b.length) : rd (splice b i p) ((i + j : Nat) : Int) = p.getD j 0 := by
  rw [rd_nat]
  unfold splice
  have hl : (b.take i).length = i := by simp; omega
  rw [List.append_assoc, List.getD_eq_getElem?_getD, List.getElem?_append_right (by omega), hl, Nat.add_sub_cancel_left, List.getElem?_append_left h, List.getD_eq_getElem?_getD]
theorem le_getD (v : Int) (n j : Nat) (h : j < n) : (le v n).getD j 0 = v / 2 ^ (8 * j) % 256 := by
  simp [le, List.getD, h]

/-- A file's size, out of its two lowest bytes. -/
theorem noB_size (t links size time node : Int) (h0 : 0 ≤ size) (h1 : size < 65536) : rd (noB t links size time node) 32 + rd (noB t links size time node) 33 * 256 = size := by
  have b0 : (List.replicate 64 (0 : Int)).length = 64 := by simp
  unfold noB
  generalize List.replicate 64 (0 : Int) = z at b0 ⊢
  have b1 := sp64 z b0 8 node 8 (by omega)
  have b2 := sp64 _ b1 16 t 1 (by omega)
  have b3 := sp64 _ b2 24 links 8 (by omega)
  have b4 := sp64 _ b3 32 size 8 (by omega)
  have b5 := sp64 _ b4 40 time 8 (by omega)
  have b6 := sp64 _ b5 48 time 8 (by omega)
  have e0 : ∀ j : Nat, j < 2 → rd (splice (splice (splice (splice (splice (splice (splice z 8 (le node 8)) 16 (le t 1)) 24 (le links 8)) 32 (le size 8)) 40 (le time 8)) 48 (le time 8)) 56 (le time 8)) ((32 + j : Nat) : Int) = size / 2 ^ (8 * j) % 256 := by
    intro j hj
    rw [rd_lo _ _ _ _ (by omega) (by omega), rd_lo _ _ _ _ (by omega) (by omega), rd_lo _ _ _ _ (by omega) (by omega), rd_in _ _ _ _ (by rw [le_length]; omega) (by omega), le_getD _ _ _ (by omega)]
  have q0 := e0 0 (by omega)
  have q1 := e0 1 (by omega)
  simp only [Nat.add_zero, Nat.mul_zero, Int.pow_zero, Int.ediv_one, Nat.mul_one] at q0 q1
  rw [show ((32 : Nat) : Int) = 32 from rfl] at q0
  rw [show ((32 + 1 : Nat) : Int) = 33 from rfl] at q1
  rw [q0, q1]
  omega

theorem evB_kind (u e kd by_ : Int) (h0 : 0 ≤ kd) (h1 : kd < 256) : rd (evB u e kd by_) 10 = kd := by
  unfold evB
  have h := rd_lo (splice (splice (splice (List.replicate 32 0) 0 (le u 8)) 8 (le e 2)) 10 (le kd 1)) 16 (le by_ 8) 10 (by omega) (by simp [splice, le_length])
  have h2 := rd_in (splice (splice (List.replicate 32 0) 0 (le u 8)) 8 (le e 2)) 10 (le kd 1) 0 (by rw [le_length]; omega) (by simp [splice, le_length])
  rw [le_getD _ _ _ (by omega)] at h2
  simp only [Nat.mul_zero, Int.pow_zero, Int.ediv_one] at h2
  have e1 : ((10 : Nat) : Int) = 10 := rfl
  rw [e1] at h
  have e2 : ((10 + 0 : Nat) : Int) = 10 := rfl
  rw [e2] at h2
  rw [h, h2]
  omega

theorem strOf_bytes (s : ByteArray) : strOfNums (bytesOf s) = s := by
  have h : (bytesOf s).map (fun n => UInt8.ofNat n.toNat) = s.data.toList := by
    unfold bytesOf
    rw [List.map_map]
    conv => rhs; rw [← List.map_id s.data.toList]
    apply List.map_congr_left
    intro b _
    simp
  unfold strOfNums
  rw [h]

theorem light (l1 l2 l3 l4 l5 : Nat) (h1 : l1 ≤ 140737488351232) (h2 : l2 ≤ 140737488351232) (h3 : l3 ≤ 140737488351232) (h4 : l4 ≤ 140737488351232) (h5 : l5 ≤ 140737488351232)
    (h : ¬ (decide ((wrap64 ((wrap64 ((wrap64 ((wrap64 ((l1 : Int) + (l2 : Int))) + (l3 : Int))) + (l4 : Int))) + (wrap64 (20 * (l5 : Int))))) > 5000) = true)) : l1 ≤ 5000 := by
  rw [w64 (x := (l1 : Int) + l2) (by omega) (by omega), w64 (x := (l1 : Int) + l2 + l3) (by omega) (by omega), w64 (x := (l1 : Int) + l2 + l3 + l4) (by omega) (by omega), w64 (x := 20 * (l5 : Int)) (by omega) (by omega), w64 (by omega) (by omega)] at h
  simp at h
  omega

/-- All of them are bytes. -/
theorem mem_splice {b p : List Int} {i : Nat} {v : Int} (h : v ∈ splice b i p) : v ∈ b ∨ v ∈ p := by
  unfold splice at h
  rw [List.mem_append, List.mem_append] at h
  rcases h with (h | h) | h
  · exact .inl (List.mem_of_mem_take h)
  · exact .inr h
  · exact .inl (List.mem_of_mem_drop h)
theorem mem_le {v w : Int} {n : Nat} (h : w ∈ le v n) : 0 ≤ w ∧ w < 256 := by
  unfold le at h
  rw [List.mem_map] at h
  obtain ⟨j, _, rfl⟩ := h
  omega
theorem noB_mem (t links size time node w : Int) (h : w ∈ noB t links size time node) : 0 ≤ w ∧ w < 256 := by
  unfold noB at h
  rcases mem_splice h with h | h
  · rcases mem_splice h with h | h
    · rcases mem_splice h with h | h
      · rcases mem_splice h with h | h
        · rcases mem_splice h with h | h
          · rcases mem_splice h with h | h
            · rcases mem_splice h with h | h
              · rw [List.mem_replicate] at h
                omega
              · exact mem_le h
            · exact mem_le h
          · exact mem_le h
        · exact mem_le h
      · exact mem_le h
    · exact mem_le h
  · exact mem_le h
theorem noB_byte (t links size time node j : Int) : 0 ≤ rd (noB t links size time node) j ∧ rd (noB t links size time node) j < 256 := by
  unfold rd
  rw [List.getD_eq_getElem?_getD]
  by_cases h : j.toNat < (noB t links size time node).length
  · rw [List.getElem?_eq_getElem h]
    exact noB_mem t links size time node _ (List.getElem_mem h)
  · rw [List.getElem?_eq_none (by omega)]
    simp

theorem bne_self {α : Type} [BEq α] [LawfulBEq α] (a : α) : (a != a) = false := by simp

theorem StatLengths_l0 (l : List S35) (hl : l.length * 256 ≤ 140737488351232) (hok : ∀ x ∈ l, okT35 x) : ∀ (d i : Nat), i + d = l.length → ∀ k, 11 * d + 60 < k → gangwaylaw20_StatLengths.l0 k l (i : Int) = some true := by
  intro d
  induction d with
  | zero =>
    intro i hi k hk
    obtain ⟨k, rfl⟩ : ∃ m, k = m + 3 := ⟨k - 3, by omega⟩
    simp only [gangwaylaw20_StatLengths.l0]
    rw [if_neg (by omega)]
    simp only [gangwaylaw20_StatLengths.j1]
    rw [if_neg (by simp)]
    simp only [gangwaylaw20_StatLengths.j11]
    rw [wakes_ev k (by omega)]
    rfl
  | succ d ih =>
    intro i hi k hk
    obtain ⟨k, rfl⟩ : ∃ m, k = m + 11 := ⟨k - 11, by omega⟩
    simp only [gangwaylaw20_StatLengths.l0]
    rw [if_pos (by omega)]
    simp only [gangwaylaw20_StatLengths.j1]
    by_cases h20 : (i : Int) < 20
    · rw [if_pos (by simpa using h20)]
      simp only [gangwaylaw20_StatLengths.j2]
      rw [if_pos (by omega), if_pos (by omega)]
      have hx : okT35 (rd_T35 l (i : Int)) := by
        refine hok _ ?_
        unfold rd_T35
        rw [Int.toNat_natCast, List.getD_eq_getElem?_getD, List.getElem?_eq_getElem (by omega)]
        exact List.getElem_mem _
      generalize rd_T35 l (i : Int) = x at hx ⊢
      simp only [okT35, okT31] at hx
      unfold gangwaylaw20_heavy.f
      rw [Option.bind_some]
      split
      · rfl
      · rename_i hh
        have hsz : x.f1.f1.length ≤ 5000 := light x.f1.f1.length x.f1.f3.size x.f3.size x.f8.length x.f1.f2.length (by omega) (by omega) (by omega) (by omega) (by omega) hh
        have hs3 : x.f3.size ≤ 140737488351232 := by omega
        clear hx hh
        have j10 : gangwaylaw20_StatLengths.j10 (k + 1) l (i : Int) false = some true := by
          simp only [gangwaylaw20_StatLengths.j10]
          rw [if_neg (by simp), w64 (by omega) (by omega)]
          exact ih (i + 1) (by omega) k (by omega)
        have j9 : gangwaylaw20_StatLengths.j9 (k + 2) l (i : Int) x.f0.f0 x.f0.f1 x.f0.f2 x.f0.f3 x.f0.f4 x.f0.f5 x.f0.f6 x.f1.f0 x.f1.f1 x.f1.f2 x.f1.f3 x.f1.f4 x.f1.f5 x.f2 x.f3 x.f4 x.f5 x.f6 x.f7.f0 x.f7.f1 x.f7.f2 x.f7.f3 x.f8 = some true := by
          simp only [gangwaylaw20_StatLengths.j9, gangwaylaw20_num.f]
          rw [event_ev _ _ _ _ (k + 1) (by omega), Option.bind_some, stream_ev (k + 1) (by omega), prestat_ev _ (k + 1) (by omega)]
          simp only [Option.bind_some, strB_length, preB_length, Int.cast_ofNat_Int, if_true, bne_self]
          by_cases h : evMay x.f7.f1 x.f7.f2 x.f7.f3 = true
          · have hk2 : 0 ≤ x.f7.f2 ∧ x.f7.f2 < 256 := by simp [evMay] at h; omega
            simp only [h, if_true, evB_length, evB_kind _ _ _ _ hk2.1 hk2.2, w64 (x := x.f7.f2) (by omega) (by omega)]
            rw [if_pos (by omega), if_pos (by omega)]
            exact j10
          · simp only [h, if_false, Bool.false_eq_true]
            rw [if_neg (by omega)]
            exact j10
        have j8 : gangwaylaw20_StatLengths.j8 (k + 3) l (i : Int) false x.f0.f0 x.f0.f1 x.f0.f2 x.f0.f3 x.f0.f4 x.f0.f5 x.f0.f6 x.f1.f0 x.f1.f1 x.f1.f2 x.f1.f3 x.f1.f4 x.f1.f5 x.f2 x.f3 x.f4 x.f5 x.f6 x.f7.f0 x.f7.f1 x.f7.f2 x.f7.f3 x.f8 = some true := by
          simp only [gangwaylaw20_StatLengths.j8]
          rw [if_neg (by simp)]
          exact j9
        have j7 : gangwaylaw20_StatLengths.j7 (k + 4) l (i : Int) x.f0.f0 x.f0.f1 x.f0.f2 x.f0.f3 x.f0.f4 x.f0.f5 x.f0.f6 x.f1.f0 x.f1.f1 x.f1.f2 x.f1.f3 x.f1.f4 x.f1.f5 x.f2 x.f3 x.f4 x.f5 x.f6 x.f7.f0 x.f7.f1 x.f7.f2 x.f7.f3 x.f8 = some true := by
          simp only [gangwaylaw20_StatLengths.j7, gangwaylaw20_num.f]
          rw [dirent_ev _ _ _ _ hs3 (k + 3) (by omega), Option.bind_some, Option.bind_some]
          by_cases h : MayD x.f4 x.f5 x.f6
          · simp only [h, decide_true, if_true, dirB_length]
            rw [if_pos (by rw [w64 (by omega) (by omega)]; omega), if_pos (by omega)]
            have e : (dirB (nodeT x.f6) x.f4 x.f5 x.f3).drop 24 = bytesOf x.f3 := by
              unfold dirB
              rw [List.drop_append_of_le_length (by rw [headB_length]; omega), List.drop_of_length_le (by rw [headB_length]; omega), List.nil_append]
            rw [e, strOf_bytes, bne_self]
            exact j8
          · simp only [h, decide_false, if_false, Bool.false_eq_true]
            rw [if_neg (by omega)]
            exact j8
        have j6 : gangwaylaw20_StatLengths.j6 (k + 5) l (i : Int) false x.f0.f0 x.f0.f1 x.f0.f2 x.f0.f3 x.f0.f4 x.f0.f5 x.f0.f6 x.f1.f0 x.f1.f1 x.f1.f2 x.f1.f3 x.f1.f4 x.f1.f5 x.f2 x.f3 x.f4 x.f5 x.f6 x.f7.f0 x.f7.f1 x.f7.f2 x.f7.f3 x.f8 = some true := by
          simp only [gangwaylaw20_StatLengths.j6]
          rw [if_neg (by simp)]
          exact j7
        have j5 : gangwaylaw20_StatLengths.j5 (k + 6) l (i : Int) x.f0.f0 x.f0.f1 x.f0.f2 x.f0.f3 x.f0.f4 x.f0.f5 x.f0.f6 x.f1.f0 x.f1.f1 x.f1.f2 x.f1.f3 x.f1.f4 x.f1.f5 x.f2 x.f3 x.f4 x.f5 x.f6 x.f7.f0 x.f7.f1 x.f7.f2 x.f7.f3 x.f8 = some true := by
          simp only [gangwaylaw20_StatLengths.j5, gangwaylaw20_num.f]
          rw [filestat_ev _ _ _ _ _ _ _ (k + 5) (by omega), Option.bind_some, Option.bind_some]
          by_cases h : MayN x.f1.f0 x.f2
          · simp only [h, decide_true, if_true, noB_length]
            rw [if_pos (by omega)]
            by_cases h1 : x.f1.f0 = 1
            · rw [if_pos h1, if_pos (by omega), if_pos (by omega)]
              have hn : nsize x.f1.f0 x.f1.f1 x.f1.f2 x.f1.f3 = (x.f1.f1.length : Int) := by unfold nsize; rw [if_pos h1]
              have hq := noB_size (nodeT x.f1.f0) x.f1.f4 (nsize x.f1.f0 x.f1.f1 x.f1.f2 x.f1.f3) x.f1.f5 x.f2 (by omega) (by omega)
              have b1 := noB_byte (nodeT x.f1.f0) x.f1.f4 (nsize x.f1.f0 x.f1.f1 x.f1.f2 x.f1.f3) x.f1.f5 x.f2 32
              have b2 := noB_byte (nodeT x.f1.f0) x.f1.f4 (nsize x.f1.f0 x.f1.f1 x.f1.f2 x.f1.f3) x.f1.f5 x.f2 33
              rw [w64 (x := rd (noB (nodeT x.f1.f0) x.f1.f4 (nsize x.f1.f0 x.f1.f1 x.f1.f2 x.f1.f3) x.f1.f5 x.f2) 32) (by omega) (by omega), w64 (x := rd (noB (nodeT x.f1.f0) x.f1.f4 (nsize x.f1.f0 x.f1.f1 x.f1.f2 x.f1.f3) x.f1.f5 x.f2) 33) (by omega) (by omega), w64 (x := rd (noB (nodeT x.f1.f0) x.f1.f4 (nsize x.f1.f0 x.f1.f1 x.f1.f2 x.f1.f3) x.f1.f5 x.f2) 33 * 256) (by omega) (by omega), w64 (by omega) (by omega), hq, hn, bne_self]
              exact j6
            · rw [if_neg h1]
              exact j6
          · simp only [h, decide_false, if_false, Bool.false_eq_true]
            rw [if_neg (by omega)]
            exact j6
        have j4 : gangwaylaw20_StatLengths.j4 (k + 7) l (i : Int) false x.f0.f0 x.f0.f1 x.f0.f2 x.f0.f3 x.f0.f4 x.f0.f5 x.f0.f6 x.f1.f0 x.f1.f1 x.f1.f2 x.f1.f3 x.f1.f4 x.f1.f5 x.f2 x.f3 x.f4 x.f5 x.f6 x.f7.f0 x.f7.f1 x.f7.f2 x.f7.f3 x.f8 = some true := by
          simp only [gangwaylaw20_StatLengths.j4]
          rw [if_neg (by simp)]
          exact j5
        simp only [gangwaylaw20_StatLengths.j3, gangwaylaw20_num.f]
        rw [fdstat_ev _ _ _ _ _ _ _ (k + 7) (by omega), Option.bind_some]
        simp only [Option.bind_some]
        by_cases h : MayFd x.f0.f0 x.f0.f1 x.f0.f2 x.f0.f3 x.f0.f4 x.f0.f5 x.f0.f6
        · simp only [h, decide_true, if_true, fdB_length, Int.cast_ofNat_Int, bne_self]
          exact j4
        · simp only [h, decide_false, if_false, Bool.false_eq_true]
          rw [if_neg (by omega)]
          exact j4
    · rw [if_neg (by simpa using h20)]
      simp only [gangwaylaw20_StatLengths.j11]
      rw [wakes_ev (k + 8) (by omega)]
      rfl

theorem StatLengths : gangwaylaw20_StatLengths.Pure := by
  intro l ⟨hl, hok⟩
  exact ⟨11 * l.length + 61, StatLengths_l0 l hl hok l.length 0 (by omega) _ (by omega)⟩

end Go.Proofs.Ythhmnecnoojcpaa.Pure
