/- Read again from memory, by the numbers, each text ends at its 0, and is what it was: for every list of asks. -/
import Derived.Test.YtpaodfhhnhbacaaPAllx7
import Derived.Test.YtpaodfhhnhbacaaPAllx6
import Derived.Test.YtpaodfhhnhbacaaPAllx4
import Derived.Test.YtpaodfhhnhbacaaPAllx3
import Derived.Test.YtpaodfhhnhbacaaPAllx5
import Derived.Test.YtpaodfhhnhbacaaQEnv
namespace Go.Proofs.Ytpaodfhhnhbacaa.QB
open Go.RowKit Go.Proofs.Ytpaodfhhnhbacaa.PAll Go.Proofs.YtpaodfhhnhbacaaW.PrintWords Go.Proofs.YtpaodfhhnhbacaaW.PrintLast Go.Proofs.YtpaodfhhnhbacaaW.PrintMore Go.Proofs.YtpaodfhhnhbacaaU Go.Proofs.Ytpaodfhhnhbacaa.Q
set_option linter.unusedVariables false

/-- A stretch of bytes. -/
def seg (M : List Int) (a n : Nat) : List Int := (M.take (a + n)).drop a
theorem seg_get (M : List Int) (a n i : Nat) : (seg M a n)[i]? = if i < n then M[a + i]? else none := by
  unfold seg
  rw [List.getElem?_drop, List.getElem?_take]
  by_cases h : i < n
  · rw [if_pos (by omega), if_pos h]
  · rw [if_neg (by omega), if_neg h]
theorem splice_get (M p : List Int) (a i : Nat) (h : a + p.length ≤ M.length) : (splice M a p)[i]? = if i < a then M[i]? else if i < a + p.length then p[i - a]? else M[i]? := by
  unfold splice
  have h1 : (M.take a).length = a := by rw [List.length_take]; omega
  have h2 : (M.take a ++ p).length = a + p.length := by rw [List.length_append, h1]
  by_cases hi : i < a
  · rw [if_pos hi, List.getElem?_append_left (by omega), List.getElem?_append_left (by omega), List.getElem?_take, if_pos hi]
  · rw [if_neg hi]
    by_cases hj : i < a + p.length
    · rw [if_pos hj, List.getElem?_append_left (by omega), List.getElem?_append_right (by omega), h1]
    · rw [if_neg hj, List.getElem?_append_right (by omega), h2, List.getElem?_drop]
      congr 1
      omega
theorem seg_same (M p : List Int) (a : Nat) (h : a + p.length ≤ M.length) : seg (splice M a p) a p.length = p := by
  apply List.ext_getElem?
  intro i
  rw [seg_get]
  by_cases hi : i < p.length
  · rw [if_pos hi, splice_get M p a _ h, if_neg (by omega), if_pos (by omega)]
    congr 1
    omega
  · rw [if_neg hi, List.getElem?_eq_none (by omega)]
theorem seg_other (M p : List Int) (a b n : Nat) (h : a + p.length ≤ M.length) (hd : b + n ≤ a ∨ a + p.length ≤ b) : seg (splice M a p) b n = seg M b n := by
  apply List.ext_getElem?
  intro i
  rw [seg_get, seg_get]
  by_cases hi : i < n
  · rw [if_pos hi, if_pos hi, splice_get M p a _ h]
    by_cases h1 : b + i < a
    · rw [if_pos h1]
    · rw [if_neg h1, if_neg (by omega)]
  · rw [if_neg hi, if_neg hi]

/-- Where text i lies. -/
def off (L : List ByteArray) (i : Nat) : Nat := 1024 + tot (L.take i)
theorem tot_append : ∀ (a b : List ByteArray), tot (a ++ b) = tot a + tot b
  | [], b => by simp [tot]
  | s :: a, b => by
    rw [List.cons_append, tot, tot, tot_append a b]
    omega
theorem off_succ (L : List ByteArray) (i : Nat) (h : i < L.length) : off L (i + 1) = off L i + (L[i].size + 1) := by
  unfold off
  rw [List.take_succ_eq_append_getElem h, tot_append, tot, tot]
  omega
theorem off_mono (L : List ByteArray) : ∀ (d i : Nat), i + d ≤ L.length → off L i ≤ off L (i + d)
  | 0, i, _ => Nat.le_refl _
  | d + 1, i, h => by
    have h1 := off_mono L d i (by omega)
    have h2 := off_succ L (i + d) (by omega)
    rw [show i + (d + 1) = i + d + 1 by omega, h2]
    omega
theorem off_top (L : List ByteArray) : off L L.length = 1024 + tot L := by
  unfold off
  rw [List.take_length]
theorem off_zero (L : List ByteArray) : off L 0 = 1024 := by simp [off, tot]

structure M0 (L : List ByteArray) (i : Nat) (M : List Int) : Prop where
  len : M.length = 65536
  byt : Byt M
  ptr : ∀ j, j < i → seg M (64 + 4 * j) 4 = le (off L j : Int) 4
structure M1 (L : List ByteArray) (i : Nat) (M : List Int) : Prop where
  len : M.length = 65536
  byt : Byt M
  ptr : ∀ j, j < L.length → seg M (64 + 4 * j) 4 = le (off L j : Int) 4
  txt : ∀ j (h : j < L.length), j < i → seg M (off L j) (L[j].size + 1) = bytesOf L[j] ++ [0]
theorem Byt.of (s : ByteArray) : Byt (bytesOf s ++ [0]) := by
  intro x hx
  rcases List.mem_append.1 hx with h | h
  · simp only [bytesOf, List.mem_map] at h
    obtain ⟨y, _, rfl⟩ := h
    have := y.toNat_lt
    omega
  · simp only [List.mem_singleton] at h
    omega
section
variable (L : List ByteArray) (hL : L.length ≤ 64) (ht : tot L ≤ 4160)
include hL ht
theorem l1_ev (s : Int) : ∀ (d i : Nat), i + d = L.length → ∀ M, M1 L i M → ∃ M', M1 L L.length M' ∧ Ev (fun k => env_Lay.l1 k (off L i : Int) L (L.length : Int) (i : Int) M s) (0, M', s) := by
  intro d
  induction d with
  | zero =>
    intro i hi M h
    have : i = L.length := by omega
    subst this
    exact ⟨M, h, Ev.step (fun k => env_Lay.l1.eq_2 _ _ _ _ _ _ _) (Ev.ifn (by omega) (Ev.cst rfl))⟩
  | succ d ih =>
    intro i hi M h
    have hil : i < L.length := by omega
    have hs := off_succ L i hil
    have h1 := off_mono L (L.length - (i + 1)) (i + 1) (by omega)
    rw [show i + 1 + (L.length - (i + 1)) = L.length by omega, off_top] at h1
    have hpl : (bytesOf L[i] ++ [0]).length = L[i].size + 1 := by rw [List.length_append, bytesOf_length]; rfl
    have hlen := h.len
    have hge : 1024 ≤ off L i := by unfold off; omega
    have hfit : off L i + (bytesOf L[i] ++ [0]).length ≤ M.length := by omega
    obtain ⟨M', h', e⟩ := ih (i + 1) (by omega) (splice M (off L i) (bytesOf L[i] ++ [0])) ⟨by rw [splice_length hfit]; exact hlen, h.byt.splice (Byt.of _) _, fun j hj => by
      rw [seg_other M _ (off L i) (64 + 4 * j) 4 hfit (by omega)]
      exact h.ptr j hj, fun j hj hji => by
      by_cases hj2 : j = i
      · subst hj2
        rw [← hpl]
        exact seg_same M _ _ hfit
      · have h3 := off_succ L j hj
        have h4 := off_mono L (i - (j + 1)) (j + 1) (by omega)
        rw [show j + 1 + (i - (j + 1)) = i by omega] at h4
        rw [seg_other M _ (off L i) (off L j) _ hfit (by omega)]
        exact h.txt j hj (by omega)⟩
    refine ⟨M', h', Ev.step (fun k => env_Lay.l1.eq_2 _ _ _ _ _ _ _) (Ev.ifp (by omega) (Ev.ifp (by omega) (Ev.ifp (by omega) ?_)))⟩
    rw [rd_at L i hil]
    refine Ev.ifp (by omega) (Ev.val (write_ok M s (a := (off L i : Int)) (by omega)) ?_)
    rw [w64 (x := ((L[i].size : Int) + 1)) (by omega) (by omega), w64 (x := (off L i : Int) + _) (by omega) (by omega), w64 (x := (i : Int) + 1) (by omega) (by omega), show (off L i : Int) + ((L[i].size : Int) + 1) = (off L (i + 1) : Int) by omega, show (i : Int) + 1 = ((i + 1 : Nat) : Int) by omega, Int.toNat_natCast]
    exact e
theorem l0_ev (s : Int) : ∀ (d i : Nat), i + d = L.length → ∀ M, M0 L i M → ∃ M', M1 L L.length M' ∧ Ev (fun k => env_Lay.l0 k L 64 1024 (off L i : Int) L (L.length : Int) (i : Int) M s) (0, M', s) := by
  intro d
  induction d with
  | zero =>
    intro i hi M h
    have : i = L.length := by omega
    subst this
    obtain ⟨M', h', e⟩ := l1_ev L hL ht s L.length 0 (by omega) M ⟨h.len, h.byt, h.ptr, fun j _ hj => absurd hj (by omega)⟩
    rw [off_zero] at e
    exact ⟨M', h', Ev.step (fun k => env_Lay.l0.eq_2 _ _ _ _ _ _ _ _ _ _) (Ev.ifn (by omega) e)⟩
  | succ d ih =>
    intro i hi M h
    have hil : i < L.length := by omega
    have hs := off_succ L i hil
    have h1 := off_mono L (L.length - (i + 1)) (i + 1) (by omega)
    rw [show i + 1 + (L.length - (i + 1)) = L.length by omega, off_top] at h1
    have hlen := h.len
    have hpl : (le (off L i : Int) 4).length = 4 := le_length _ _
    have hfit : (64 + 4 * i) + (le (off L i : Int) 4).length ≤ M.length := by omega
    obtain ⟨M', h', e⟩ := ih (i + 1) (by omega) (splice M (64 + 4 * i) (le (off L i : Int) 4)) ⟨by rw [splice_length hfit]; exact hlen, h.byt.splice (Byt.le _ _) _, fun j hj => by
      by_cases hj2 : j = i
      · subst hj2
        have := seg_same M _ _ hfit
        rwa [hpl] at this
      · rw [seg_other M _ (64 + 4 * i) (64 + 4 * j) 4 hfit (by omega)]
        exact h.ptr j (by omega)⟩
    refine ⟨M', h', Ev.step (fun k => env_Lay.l0.eq_2 _ _ _ _ _ _ _ _ _ _) (Ev.ifp (by omega) (Ev.ifp (by omega) (Ev.ifp (by omega) ?_)))⟩
    rw [rd_at L i hil, w64 (x := 4 * (i : Int)) (by omega) (by omega), w64 (x := 64 + 4 * (i : Int)) (by omega) (by omega)]
    have hv : IntKind.u64.wrap (off L i : Int) = (off L i : Int) := by rw [wu64, Int.emod_eq_of_lt (by omega) (by omega)]
    rw [hv]
    have hf : Fm (64 + 4 * (i : Int)) 0 4 := by unfold Fm mem_Memory_Load.form; omega
    have hst := store_ok M s (off L i : Int) hf (by omega)
    rw [show ((64 + 4 * (i : Int)) + 0).toNat = 64 + 4 * i by omega, show (4 : Int).toNat = 4 from rfl] at hst
    refine Ev.val hst ?_
    rw [w64 (x := ((L[i].size : Int) + 1)) (by omega) (by omega), w64 (x := (off L i : Int) + _) (by omega) (by omega), w64 (x := (i : Int) + 1) (by omega) (by omega), show (off L i : Int) + ((L[i].size : Int) + 1) = (off L (i + 1) : Int) by omega, show (i : Int) + 1 = ((i + 1 : Nat) : Int) by omega]
    exact e
end
theorem has_eq {l : List Int} (s a n : Int) (hl : l.length ≤ 9223372036854775807) : mem_Memory_Has.f l s a n = some (decide (0 ≤ a ∧ 0 ≤ n ∧ a + n ≤ (l.length : Int)), l, s) := by
  unfold mem_Memory_Has.f
  rw [there_eq s a n hl]
  rfl
theorem lay_ev (L : List ByteArray) (hl : L.length ≤ 8796093021952) (hs : ∀ s ∈ L, s.size ≤ 140737488351232) (hok : okL 0 L = true ∧ L.length ≤ 64) : ∃ M', M1 L L.length M' ∧ Ev (fun k => env_Lay.f k (List.replicate 65536 0) 1 L 64 1024) (0, M', 1) := by
  have ht := okL_tot L 0 hok.1 (by omega)
  obtain ⟨M', h', e⟩ := l0_ev L hok.2 (by omega) 1 L.length 0 (by omega) (List.replicate 65536 0) ⟨List.length_replicate, Byt.rep _, fun j hj => absurd hj (by omega)⟩
  refine ⟨M', h', Ev.congr (fun k => by rw [env_Lay.f]) (Ev.bd (Ev.big (L.length + 1) fun k hk => sizes_ev L (by omega) hs k (by omega)) ?_)⟩
  have hb : (okL 0 L && decide (L.length ≤ 64)) = true := by simp [hok]
  rw [if_pos hb]
  refine Ev.ifp rfl (Ev.val (has_eq 1 64 _ (by rw [List.length_replicate]; omega)) ?_)
  refine Ev.ifp (decide_eq_true (by rw [List.length_replicate, w64 (by omega) (by omega)]; omega)) (Ev.val (has_eq 1 1024 _ (by rw [List.length_replicate]; omega)) (Ev.ifp (decide_eq_true (by dsimp only; rw [List.length_replicate]; omega)) ?_))
  rw [off_zero] at e
  exact e
theorem both_ev : Ev (fun k => gangwaylaw19_Both.f k []) (true, List.replicate 65536 0, 1, true, List.replicate 65536 0, 1) := by
  refine Ev.congr (fun k => by rw [gangwaylaw19_Both.f]) ?_
  have e0 : (List.replicate ((1 : Int) * 65536).toNat (0 : Int)) = List.replicate 65536 0 := rfl
  have hn := fun k (hk : 1 ≤ k) => new_ok (mi := 1) (ma := -1) (li := 1) (by omega) (by omega) (by omega) (by omega) k (by omega)
  rw [if_pos rfl, e0] at hn
  have hz : (List.replicate 65536 (0 : Int)).length = 65536 := List.length_replicate
  have hw : splice (List.replicate 65536 (0 : Int)) (0 : Int).toNat (List.replicate 65536 0) = List.replicate 65536 0 := by
    unfold splice
    rw [hz, List.drop_of_length_le (by rw [hz]; omega)]
    exact List.append_nil _
  have hr : gangwayref9_NewMem.f 1 (-1) 1 = some (true, List.replicate 65536 0, 1) := by
    unfold gangwayref9_NewMem.f
    rw [if_neg (by omega), if_neg (by omega), w64 (by omega) (by omega), if_pos (by omega), if_pos (by omega)]
    rfl
  have hwr := write_ok (List.replicate 65536 (0 : Int)) 1 (a := 0) (b := List.replicate 65536 0) (by omega)
  rw [hw] at hwr
  generalize List.replicate 65536 (0 : Int) = Z at *
  refine Ev.bd (Ev.big 1 hn) (Ev.ifp rfl (Ev.val (v := 0) rfl (Ev.ifp rfl ?_)))
  refine Ev.step (fun k => gangwaylaw19_Both.j0.eq_2 _ _ _ _ _) (Ev.ifn Bool.false_ne_true (Ev.val hr (Ev.ifp rfl ?_)))
  refine Ev.step (fun k => gangwaylaw19_Both.l0.eq_2 _ _ _ _ _ _ _) (Ev.ifn (by simp) ?_)
  refine Ev.step (fun k => gangwaylaw19_Both.j2.eq_2 _ _ _ _ _) (Ev.val hwr (Ev.val (v := 0) rfl (Ev.ifp rfl (Ev.cst rfl))))
theorem bytes_str (s : ByteArray) : (strOfNums (bytesOf s ++ [0])).toList = (s ++ (⟨#[0]⟩ : ByteArray)).toList := by
  congr 1
  apply ByteArray.ext
  rw [ByteArray.data_append]
  apply Array.ext'
  simp [strOfNums, bytesOf, List.map_map, Function.comp_def]
section
variable (x0 : List S26) (i : Nat) (hi : i < 1000000000000000)
variable (g : Ev (fun k => gangwaylaw22_EnvBack.l0 k x0 ((i + 1 : Nat) : Int)) true)
include hi g
theorem next_ : Ev (fun k => gangwaylaw22_EnvBack.l0 k x0 (wrap64 ((i : Int) + 1))) true := by
  rw [w64 (by omega) (by omega), show (i : Int) + 1 = ((i + 1 : Nat) : Int) by omega]
  exact g
theorem read_ev (L : List ByteArray) (a b : Int) (hL : L.length ≤ 64) (ht : tot L ≤ 4160) (M : List Int) (h : M1 L L.length M) : ∀ (d j : Nat), j + d = L.length → Ev (fun k => gangwaylaw22_EnvBack.l1 k x0 (i : Int) (j : Int) L a b M 1) true := by
  intro d
  induction d with
  | zero =>
    intro j hj
    exact Ev.step (fun k => gangwaylaw22_EnvBack.l1.eq_2 _ _ _ _ _ _ _ _ _) (Ev.ifn (by omega) (next_ x0 i hi g))
  | succ d ih =>
    intro j hj
    have hjl : j < L.length := by omega
    have hs := off_succ L j hjl
    have h1 := off_mono L (L.length - (j + 1)) (j + 1) (by omega)
    rw [show j + 1 + (L.length - (j + 1)) = L.length by omega, off_top] at h1
    have hlen := h.len
    have hge : 1024 ≤ off L j := by unfold off; omega
    have hf : Fm (64 + 4 * (j : Int)) 0 4 := by unfold Fm mem_Memory_Load.form; omega
    refine Ev.step (fun k => gangwaylaw22_EnvBack.l1.eq_2 _ _ _ _ _ _ _ _ _) (Ev.ifp (by omega) ?_)
    rw [w64 (x := 4 * (j : Int)) (by omega) (by omega), w64 (x := 64 + 4 * (j : Int)) (by omega) (by omega)]
    have hsub : sub M (64 + 4 * (j : Int)) 0 4 = le (off L j : Int) 4 := by
      rw [← h.ptr j hjl]
      simp only [sub, mem_Memory_Load.sub, seg]
      rw [show (64 + 4 * (j : Int) + 0 + 4).toNat = 64 + 4 * j + 4 by omega, show (64 + 4 * (j : Int) + 0).toNat = 64 + 4 * j by omega]
    have hld := fun k (hk : 9 ≤ k) => load_ok 1 h.byt hf (by omega) k (by omega)
    rw [hsub, num_le] at hld
    have h32 : (2 : Int) ^ (8 * 4) = 4294967296 := by decide
    rw [h32, Int.emod_eq_of_lt (by omega) (by omega)] at hld
    refine Ev.bd (Ev.big 9 hld) (Ev.val (v := 0) rfl (Ev.ifp rfl (Ev.ifn (by omega) (Ev.ifn (by omega) (Ev.ifp (by omega) ?_)))))
    rw [rd_at L j hjl, w64 (x := (off L j : Int)) (by omega) (by omega), w64 (x := ((L[j].size : Int) + 1)) (by omega) (by omega)]
    have hrd := read_ok (l := M) (a := (off L j : Int)) (n := ((L[j].size : Int) + 1)) 1 (by omega) (by omega)
    have hsg : ((M.take ((off L j : Int) + ((L[j].size : Int) + 1)).toNat).drop ((off L j : Int)).toNat) = bytesOf L[j] ++ [0] := by
      rw [← h.txt j hjl hjl]
      unfold seg
      rw [show ((off L j : Int) + ((L[j].size : Int) + 1)).toNat = off L j + (L[j].size + 1) by omega, Int.toNat_natCast]
    rw [hsg] at hrd
    refine Ev.val hrd (Ev.val (v := 0) rfl (Ev.ifp rfl (Ev.ifp (by omega) (Ev.ifp (bytes_str _) ?_))))
    rw [w64 (x := (j : Int) + 1) (by omega) (by omega), show (j : Int) + 1 = ((j + 1 : Nat) : Int) by omega]
    exact ih (j + 1) (by omega)
end
theorem all_ (x0 : List S26) (hx : x0.length < 10000000000000000) (hk : ∀ y ∈ x0, okT26 y) : ∀ (d i : Nat), i + d = 8 → Ev (fun k => gangwaylaw22_EnvBack.l0 k x0 (i : Int)) true := by
  have fin : ∀ i : Int, Ev (fun k => gangwaylaw22_EnvBack.j1 k x0 i false) true := fun i => by
    refine Ev.step (fun k => gangwaylaw22_EnvBack.j1.eq_2 _ _ _ _) (Ev.ifn Bool.false_ne_true ?_)
    exact Ev.bd (Ev.big 3 fun k hk => wakes_ev k hk) (Ev.cst rfl)
  intro d
  induction d with
  | zero =>
    intro i hi
    refine Ev.step (fun k => gangwaylaw22_EnvBack.l0.eq_2 _ _ _) ?_
    by_cases hlt : (i : Int) < (x0.length : Int)
    · refine Ev.ifp hlt ?_
      rw [decide_eq_false (by omega)]
      exact fin _
    · exact Ev.ifn hlt (fin _)
  | succ d ih =>
    intro i hi
    refine Ev.step (fun k => gangwaylaw22_EnvBack.l0.eq_2 _ _ _) ?_
    by_cases hlt : (i : Int) < (x0.length : Int)
    · refine Ev.ifp hlt ?_
      rw [decide_eq_true (show (i : Int) < 8 by omega)]
      refine Ev.step (fun k => gangwaylaw22_EnvBack.j1.eq_2 _ _ _ _) (Ev.ifp rfl (Ev.ifp (by omega) (Ev.ifp hlt ?_)))
      have hm : rd_T26 x0 (i : Int) ∈ x0 := by
        unfold rd_T26
        rw [Int.toNat_natCast, List.getD_eq_getElem?_getD, List.getElem?_eq_getElem (by omega)]
        exact List.getElem_mem _
      obtain ⟨⟨h1, h2⟩, _⟩ := hk _ hm
      generalize rd_T26 x0 (i : Int) = y at *
      have go := ih (i + 1) (by omega)
      obtain ⟨r, e0⟩ := heavy_ev y.f0 y.f1 y.f2 201 (by omega)
      refine Ev.bd (Ev.of (fun k => gangwaylaw22_heavy.mono y.f0 y.f1 y.f2 k) e0) ?_
      cases r with
      | true =>
        refine Ev.ifp rfl (Ev.step (fun k => gangwaylaw22_EnvBack.j2.eq_2 _ _ _ _ _ _ _) (Ev.ifp rfl ?_))
        exact next_ x0 i (by omega) go
      | false =>
        refine Ev.ifn Bool.false_ne_true (Ev.bd (Ev.big (y.f0.length + 1) fun k hk => check_ev y.f0 (by omega) h2 k (by omega)) (Ev.val (v := _) rfl ?_))
        by_cases hok : (okL 0 y.f0 && decide (y.f0.length ≤ 64)) = true
        · rw [if_pos hok]
          refine Ev.step (fun k => gangwaylaw22_EnvBack.j2.eq_2 _ _ _ _ _ _ _) (Ev.ifn (by decide) (Ev.bd both_ev (Ev.ifp rfl (Ev.ifp rfl ?_))))
          have hok2 : okL 0 y.f0 = true ∧ y.f0.length ≤ 64 := by simpa using hok
          have ht := okL_tot y.f0 0 hok2.1 (by omega)
          obtain ⟨M', h', e⟩ := lay_ev y.f0 (by omega) h2 hok2
          refine Ev.bd e (Ev.val (v := 0) rfl (Ev.ifp rfl ?_))
          exact read_ev x0 i (by omega) go y.f0 y.f1 y.f2 hok2.2 (by omega) M' h' y.f0.length 0 (by omega)
        · rw [if_neg hok]
          refine Ev.step (fun k => gangwaylaw22_EnvBack.j2.eq_2 _ _ _ _ _ _ _) (Ev.ifp (by decide) ?_)
          exact next_ x0 i (by omega) go
    · exact Ev.ifn hlt (fin _)
end Go.Proofs.Ytpaodfhhnhbacaa.QB
namespace Go.Proofs.Ytpaodfhhnhbacaa.Pure
open Go.RowKit Go.Proofs.Ytpaodfhhnhbacaa.PAll Go.Proofs.YtpaodfhhnhbacaaW.PrintWords Go.Proofs.Ytpaodfhhnhbacaa.QB
theorem EnvBack : gangwaylaw22_EnvBack.Pure := by
  intro x0 h
  exact Ev.rounds (all_ x0 (by have := h.1; omega) h.2 8 0 (by omega))
end Go.Proofs.Ytpaodfhhnhbacaa.Pure
