/- A number's bytes are read as it, with what stands behind, and with a group more; without the last they are none: for every list of asks. -/
import Derived.Test.YtgmlnigelbplnaaPAllx9
import Derived.Test.YtgmlnigelbplnaaQLebB
namespace Go.Proofs.Ytgmlnigelbplnaa.Pure
open Go.RowKit Go.Proofs.Ytgmlnigelbplnaa.PAll Go.Proofs.YtgmlnigelbplnaaW.PrintWords Go.Proofs.YtgmlnigelbplnaaW.PrintLast Go.Proofs.YtgmlnigelbplnaaW.PrintMore Go.Proofs.YtgmlnigelbplnaaU Go.Proofs.Ytgmlnigelbplnaa.Q
set_option linter.unusedVariables false

theorem num_ev (e : Int) : gangwaylaw1_num.f e = some e := rfl

theorem set_more {E : List Int} (h : Grp E) : E.set ((wrap64 ((E.length : Int) - 1)) : Int).toNat (Go.bits .or .u8 (rd E (wrap64 ((E.length : Int) - 1))) 128) = more E := by
  have h1 := h.lo
  have h2 := h.hi
  have hb := (bytes_of (E := E) (by omega) h.by_).2 (E.length - 1)
  have e : wrap64 ((E.length : Int) - 1) = ((E.length - 1 : Nat) : Int) := by rw [w64 (by omega) (by omega)]; omega
  rw [e, rd_nat, or128 hb.1 hb.2]
  rfl

theorem back_j6 (l : List S26) (i : Int) (b : List Int) (hb : Grp b) (h9 : b.length < 10) (B : List Int) (f1 U S : Int) (hS : sval b b.length = S) (hs : -9223372036854775808 ≤ S ∧ S ≤ 9223372036854775807) (T : Option Bool) (k : Nat) (hk : 40 ≤ k) (hT : gangwaylaw1_LebBack.l0 k l (wrap64 (i + 1)) = T) (z : Int) (hz : z = if S < 0 then 127 else 0) :
    gangwaylaw1_LebBack.j6 (k + 1) l i b (more b) z B f1 U S = T := by
  have h1 := hb.lo
  have hg := grp_more hb h9 z (by rw [hz]; split <;> omega) (by rw [hz]; split <;> omega)
  have hv : sval (more b ++ [z]) (more b ++ [z]).length = S := by
    have := sval_more hb
    rw [hS] at this
    rw [List.length_append, more_length, hz]
    exact this
  have hr := readS_grp hg [] hv hs.1 hs.2
  rw [List.append_nil] at hr
  have hlen : ((more b ++ [z]).length : Int) = b.length + 1 := by simp [more_length]
  simp only [gangwaylaw1_LebBack.j6]
  rw [if_pos (by rw [more_length]; omega), sint_ev _ (bytes_of (by have := hg.hi; omega) hg.by_) 64 k hk, Option.bind_some, hr, num_ev, Option.bind_some, if_pos rfl, if_pos rfl, if_pos (by simp only [hlen]; rw [w64 (by omega) (by omega)])]
  exact hT

theorem back_j5 (l : List S26) (i : Int) (b : List Int) (hb : Grp b) (B : List Int) (f1 U S : Int) (hS : sval b b.length = S) (hs : -9223372036854775808 ≤ S ∧ S ≤ 9223372036854775807) (T : Option Bool) (k0 : Nat) (hT : ∀ k, k0 ≤ k → gangwaylaw1_LebBack.l0 k l (wrap64 (i + 1)) = T) (k : Nat) (hk : k0 + 50 ≤ k) :
    gangwaylaw1_LebBack.j5 k l i b B f1 U S = T := by
  obtain ⟨k, rfl⟩ : ∃ m, k = m + 2 := ⟨k - 2, by omega⟩
  have h1 := hb.lo
  have h2 := hb.hi
  simp only [gangwaylaw1_LebBack.j5]
  by_cases h9 : (b.length : Int) < 10
  · rw [if_pos h9, copy_ev b (by omega) (k + 1) (by omega), Option.bind_some, if_pos (by rw [w64 (by omega) (by omega)]; omega), if_pos (by rw [w64 (by omega) (by omega)]; omega), set_more hb, Option.bind_some]
    by_cases h0 : S < 0
    · rw [if_pos h0]
      exact back_j6 l i b hb (by omega) B f1 U S hS hs T k (by omega) (hT k (by omega)) 127 (by rw [if_pos h0])
    · rw [if_neg h0]
      exact back_j6 l i b hb (by omega) B f1 U S hS hs T k (by omega) (hT k (by omega)) 0 (by rw [if_neg h0])
  · rw [if_neg h9]
    exact hT (k + 1) (by omega)

theorem back_j4 (l : List S26) (i : Int) (a b : List Int) (ha : Grp a) (hb : Grp b) (B : List Int) (f1 U S : Int) (hU : val a a.length = U) (hu : U ≤ 18446744073709551615) (hS : sval b b.length = S) (hs : -9223372036854775808 ≤ S ∧ S ≤ 9223372036854775807) (T : Option Bool) (k0 : Nat) (hT : ∀ k, k0 ≤ k → gangwaylaw1_LebBack.l0 k l (wrap64 (i + 1)) = T) (k : Nat) (hk : k0 + 60 ≤ k) :
    gangwaylaw1_LebBack.j4 k l i a b false B f1 U S = T := by
  obtain ⟨k, rfl⟩ : ∃ m, k = m + 1 := ⟨k - 1, by omega⟩
  have h1 := ha.lo
  have h2 := ha.hi
  have next := back_j5 l i b hb B f1 U S hS hs T k0 hT k (by omega)
  simp only [gangwaylaw1_LebBack.j4]
  rw [if_neg (by simp)]
  by_cases h9 : (a.length : Int) < 10
  · have hg := grp_more ha (by omega) 0 (by omega) (by omega)
    have hv : val (more a ++ [0]) (more a ++ [0]).length = U := by
      have := val_more (E := a) 0 (by omega) (by omega)
      rw [List.length_append, more_length]
      show val (more a ++ [0]) (a.length + 1) = U
      rw [this, hU]
      simp
    have hr := readU_grp hg [] hv hu
    rw [List.append_nil] at hr
    have hlen : ((more a ++ [0]).length : Int) = a.length + 1 := by simp [more_length]
    rw [if_pos h9, copy_ev a (by omega) k (by omega), Option.bind_some, if_pos (by rw [w64 (by omega) (by omega)]; omega), if_pos (by rw [w64 (by omega) (by omega)]; omega), set_more ha, Option.bind_some,
      if_pos (by rw [more_length]; omega), uint_ev _ (bytes_of (by have := hg.hi; omega) hg.by_) 64 k (by omega), Option.bind_some, hr, num_ev, Option.bind_some, if_pos rfl, if_pos rfl, if_pos (by simp only [hlen]; rw [w64 (by omega) (by omega)])]
    exact next
  · rw [if_neg h9]
    exact next

theorem back_j3 (l : List S26) (i : Int) (a b : List Int) (ha : Grp a) (hb : Grp b) (B : List Int) (f1 U S : Int) (hU : val a a.length = U) (hu : U ≤ 18446744073709551615) (hS : sval b b.length = S) (hs : -9223372036854775808 ≤ S ∧ S ≤ 9223372036854775807) (T : Option Bool) (k0 : Nat) (hT : ∀ k, k0 ≤ k → gangwaylaw1_LebBack.l0 k l (wrap64 (i + 1)) = T) (k : Nat) (hk : k0 + 70 ≤ k) :
    gangwaylaw1_LebBack.j3 k l i a b false B f1 U S = T := by
  obtain ⟨k, rfl⟩ : ∃ m, k = m + 1 := ⟨k - 1, by omega⟩
  have h1 := ha.lo
  have h2 := ha.hi
  have h3 := hb.lo
  have h4 := hb.hi
  have next := back_j4 l i a b ha hb B f1 U S hU hu hS hs T k0 hT k (by omega)
  have ea : ((wrap64 ((a.length : Int) - 1)) : Int).toNat = a.length - 1 := by rw [w64 (by omega) (by omega)]; omega
  have eb : ((wrap64 ((b.length : Int) - 1)) : Int).toNat = b.length - 1 := by rw [w64 (by omega) (by omega)]; omega
  have ba : Bytes (a.take (a.length - 1)) := bytes_of (by rw [List.length_take]; omega) (fun y hy => ha.by_ y (List.mem_of_mem_take hy))
  have bb : Bytes (b.take (b.length - 1)) := bytes_of (by rw [List.length_take]; omega) (fun y hy => hb.by_ y (List.mem_of_mem_take hy))
  simp only [gangwaylaw1_LebBack.j3]
  rw [if_neg (by simp), if_pos (by rw [w64 (by omega) (by omega)]; omega), if_pos (by rw [w64 (by omega) (by omega)]; omega), ea, uint_ev _ ba 64 k (by omega), Option.bind_some,
    if_pos (by rw [w64 (by omega) (by omega)]; omega), if_pos (by rw [w64 (by omega) (by omega)]; omega), eb, sint_ev _ bb 64 k (by omega), Option.bind_some, readU_cut ha, readS_cut hb, num_ev, Option.bind_some, if_pos rfl, Option.bind_some]
  exact next

theorem back_j2 (l : List S26) (i : Int) (a : List Int) (ha : Grp a) (B : List Int) (hB : B.length ≤ 140737488351232 ∧ ∀ y ∈ B, 0 ≤ y ∧ y ≤ 255) (f1 U S : Int) (hU : val a a.length = U) (hu : U ≤ 18446744073709551615) (hs : -9223372036854775808 ≤ S ∧ S ≤ 9223372036854775807) (T : Option Bool) (k0 : Nat) (hT : ∀ k, k0 ≤ k → gangwaylaw1_LebBack.l0 k l (wrap64 (i + 1)) = T) (k : Nat) (hk : k0 + 80 ≤ k) :
    gangwaylaw1_LebBack.j2 k l i a false B f1 U S = T := by
  obtain ⟨k, rfl⟩ : ∃ m, k = m + 1 := ⟨k - 1, by omega⟩
  have hb := grp_ps S
  have hS := ps_val 9 S (by rw [show (64 : Int) * 128 ^ 9 = 590295810358705651712 from by decide]; omega) (by rw [show (64 : Int) * 128 ^ 9 = 590295810358705651712 from by decide]; omega)
  have hput := puts_ev S hs.1 hs.2 k (by omega)
  generalize ps 9 S = b at hb hS hput
  have h3 := hb.lo
  have h4 := hb.hi
  have next := back_j3 l i a b ha hb B f1 U S hU hu hS hs T k0 hT k (by omega)
  have bb : Bytes (b ++ B) := bytes_of (by rw [List.length_append]; omega) (fun y hy => by rcases List.mem_append.1 hy with h | h; exact hb.by_ y h; exact hB.2 y h)
  have hr := readS_grp hb B hS hs.1 hs.2
  simp only [gangwaylaw1_LebBack.j2]
  rw [if_neg (by simp), hput, Option.bind_some, copy_ev b (by omega) k (by omega), Option.bind_some, if_pos (by omega), sint_ev _ bb 64 k (by omega), Option.bind_some, hr, num_ev, Option.bind_some, if_pos rfl, if_pos rfl, if_pos rfl, if_neg (by simp only; omega), show decide ((b.length : Int) > 10) = false from decide_eq_false (by omega)]
  exact next

theorem back_j1 (l : List S26) (i : Int) (x : S26) (hi : 0 ≤ i) (hil : i < (l.length : Int)) (hx : rd_T26 l i = x) (hok : okT26 x) (T : Option Bool) (k0 : Nat) (hT : ∀ k, k0 ≤ k → gangwaylaw1_LebBack.l0 k l (wrap64 (i + 1)) = T) (k : Nat) (hk : k0 + 90 ≤ k) :
    gangwaylaw1_LebBack.j1 k l i true = T := by
  obtain ⟨k, rfl⟩ : ∃ m, k = m + 1 := ⟨k - 1, by omega⟩
  obtain ⟨hB, _, hu, hs⟩ := hok
  have hu := bdu64 hu
  have hs := bd64 hs
  have hB : x.f0.length ≤ 140737488351232 ∧ ∀ y ∈ x.f0, 0 ≤ y ∧ y ≤ 255 := ⟨by have := hB.1; omega, fun y hy => bd8 (hB.2 y hy)⟩
  have ha := grp_pu x.f2 hu.1 hu.2
  have hU := pu_val 9 x.f2 hu.1 (by rw [show (128 : Int) ^ (9 + 1) = 1180591620717411303424 from by decide]; omega)
  have hput := put_ev x.f2 hu.1 hu.2 k (by omega)
  generalize pu 9 x.f2 = a at ha hU hput
  have h1 := ha.lo
  have h2 := ha.hi
  have next := back_j2 l i a ha x.f0 hB x.f1 x.f2 x.f3 hU hu.2 hs T k0 hT k (by omega)
  have bb : Bytes (a ++ x.f0) := bytes_of (by rw [List.length_append]; omega) (fun y hy => by rcases List.mem_append.1 hy with h | h; exact ha.by_ y h; exact hB.2 y h)
  have hr := readU_grp ha x.f0 hU hu.2
  simp only [gangwaylaw1_LebBack.j1]
  rw [if_pos trivial, if_pos hi, if_pos hil, hx, hput, Option.bind_some, copy_ev a (by omega) k (by omega), Option.bind_some, if_pos (by omega), uint_ev _ bb 64 k (by omega), Option.bind_some, hr, num_ev, Option.bind_some, if_pos rfl, if_pos rfl, if_pos rfl, if_neg (by simp only; omega), show decide ((a.length : Int) > 10) = false from decide_eq_false (by omega)]
  exact next

theorem LebBack_l0 (l : List S26) (hl : l.length * 48 ≤ 140737488351232) (hok : ∀ x ∈ l, okT26 x) : ∀ (d i : Nat), i + d = l.length → ∀ k, 100 * d + 100 ≤ k → gangwaylaw1_LebBack.l0 k l (i : Int) = some true := by
  intro d
  induction d with
  | zero =>
    intro i hi k hk
    obtain ⟨k, rfl⟩ : ∃ m, k = m + 2 := ⟨k - 2, by omega⟩
    simp only [gangwaylaw1_LebBack.l0]
    rw [if_neg (by omega)]
    simp only [gangwaylaw1_LebBack.j1]
    rw [if_neg (by simp), wakes_ev k (by omega)]
    rfl
  | succ d ih =>
    intro i hi k hk
    obtain ⟨k, rfl⟩ : ∃ m, k = m + 2 := ⟨k - 2, by omega⟩
    simp only [gangwaylaw1_LebBack.l0]
    rw [if_pos (by omega)]
    by_cases h20 : (i : Int) < 30
    · rw [show decide ((i : Int) < 30) = true from decide_eq_true h20]
      refine back_j1 l i _ (by omega) (by omega) rfl ?_ (some true) (100 * d + 100) (fun m hm => ?_) (k + 1) (by omega)
      · unfold rd_T26
        rw [show (i : Int).toNat = i from rfl, List.getD_eq_getElem?_getD, List.getElem?_eq_getElem (by omega)]
        exact hok _ (List.getElem_mem _)
      · rw [w64 (by omega) (by omega)]
        exact ih (i + 1) (by omega) m hm
    · rw [show decide ((i : Int) < 30) = false from decide_eq_false h20]
      simp only [gangwaylaw1_LebBack.j1]
      rw [if_neg (by simp), wakes_ev k (by omega)]
      rfl

theorem LebBack : gangwaylaw1_LebBack.Pure := by
  intro l ⟨hl, hok⟩
  exact ⟨100 * l.length + 100, LebBack_l0 l hl hok l.length 0 (by omega) _ (by omega)⟩

end Go.Proofs.Ytgmlnigelbplnaa.Pure
