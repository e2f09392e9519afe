/- How many any texts are, with their bytes, and how they are laid into memory, are the page's: for every list of asks. -/
import Derived.Test.YtpaodfhhnhbacaaPAllx8
import Derived.Test.YtpaodfhhnhbacaaPAllx6
import Derived.Test.YtpaodfhhnhbacaaPAllx4
import Derived.Test.YtpaodfhhnhbacaaPAllx7
import Derived.Test.YtpaodfhhnhbacaaPAllx3
import Derived.Test.YtpaodfhhnhbacaaPAllx5
import Derived.Test.YtpaodfhhnhbacaaQEnv
import Derived.Test.YtpaodfhhnhbacaaQMemE
import Derived.Test.YtpaodfhhnhbacaaQPutE
namespace Go.Proofs.Ytpaodfhhnhbacaa.QX
open Go.RowKit Go.Proofs.Ytpaodfhhnhbacaa.PAll Go.Proofs.YtpaodfhhnhbacaaW.PrintWords Go.Proofs.YtpaodfhhnhbacaaW.PrintLast Go.Proofs.YtpaodfhhnhbacaaW.PrintMore Go.Proofs.YtpaodfhhnhbacaaU Go.Proofs.Ytpaodfhhnhbacaa.Q
set_option linter.unusedVariables false

theorem tot_append : ∀ (a b : List ByteArray), tot (a ++ b) = tot a + tot b
  | [], b => by simp [tot]
  | s :: a, b => by
    rw [List.cons_append, tot, tot, tot_append a b]
    omega
theorem has_eq {l : List Int} (s a n : Int) (hl : l.length ≤ 9223372036854775807) : mem_Memory_Has.f l s a n = some (decide (0 ≤ a ∧ 0 ≤ n ∧ a + n ≤ (l.length : Int)), l, s) := by
  unfold mem_Memory_Has.f
  rw [there_eq s a n hl]
  rfl

/-- Where text i lies. -/
def off (L : List ByteArray) (B i : Nat) : Nat := B + tot (L.take i)
theorem off_zero (L : List ByteArray) (B : Nat) : off L B 0 = B := by simp [off, tot]
theorem off_succ (L : List ByteArray) (B i : Nat) (h : i < L.length) : off L B (i + 1) = off L B i + (L[i].size + 1) := by
  unfold off
  rw [List.take_succ_eq_append_getElem h, tot_append, tot, tot]
  omega
theorem off_le (L : List ByteArray) (B i : Nat) : off L B i ≤ B + tot L := by
  have h := tot_append (L.take i) (L.drop i)
  rw [List.take_append_drop] at h
  unfold off
  omega
/-- The numbers laid, then the texts. -/
def ptrs : List ByteArray → Nat → Nat → List Int → List Int
  | [], _, _, M => M
  | s :: r, a, b, M => ptrs r (a + 4) (b + (s.size + 1)) (splice M a (le (b : Int) 4))
def txts : List ByteArray → Nat → List Int → List Int
  | [], _, M => M
  | s :: r, b, M => txts r (b + (s.size + 1)) (splice M b (bytesOf s ++ [0]))
theorem one_length (s : ByteArray) : (bytesOf s ++ [0]).length = s.size + 1 := by rw [List.length_append, bytesOf_length]; rfl
section
variable (L : List ByteArray) (A B : Nat) (hA : A + 4 * L.length ≤ 65536) (hB : B + tot L ≤ 65536) (s : Int)
include hA hB
theorem c1 : ∀ (d i : Nat), i + d = L.length → ∀ M : List Int, M.length = 65536 → Ev (fun k => env_Lay.l1 k (off L B i : Int) L (L.length : Int) (i : Int) M s) (0, txts (L.drop i) (off L B i) M, s) := by
  intro d
  induction d with
  | zero =>
    intro i hi M hM
    rw [List.drop_of_length_le (by omega)]
    exact Ev.step (fun k => env_Lay.l1.eq_2 _ _ _ _ _ _ _) (Ev.ifn (by omega) (Ev.cst rfl))
  | succ d ih =>
    intro i hi M hM
    have hil : i < L.length := by omega
    have hs := off_succ L B i hil
    have h1 := off_le L B (i + 1)
    have hpl := one_length L[i]
    have hfit : off L B i + (bytesOf L[i] ++ [0]).length ≤ M.length := by omega
    have e := ih (i + 1) (by omega) (splice M (off L B i) (bytesOf L[i] ++ [0])) (by rw [splice_length hfit]; exact hM)
    rw [List.drop_eq_getElem_cons hil, txts, ← hs]
    refine Ev.step (fun k => env_Lay.l1.eq_2 _ _ _ _ _ _ _) (Ev.ifp (by omega) (Ev.ifp (by omega) (Ev.ifp (by omega) ?_)))
    rw [rd_at L i hil]
    refine Ev.ifp (by omega) (Ev.val (write_ok M s (a := (off L B i : Int)) (by omega)) ?_)
    rw [w64 (x := ((L[i].size : Int) + 1)) (by omega) (by omega), w64 (x := (off L B i : Int) + _) (by omega) (by omega), w64 (x := (i : Int) + 1) (by omega) (by omega), show (off L B i : Int) + ((L[i].size : Int) + 1) = (off L B (i + 1) : Int) by omega, show (i : Int) + 1 = ((i + 1 : Nat) : Int) by omega, Int.toNat_natCast]
    exact e
theorem c0 : ∀ (d i : Nat), i + d = L.length → ∀ M : List Int, M.length = 65536 → Ev (fun k => env_Lay.l0 k L (A : Int) (B : Int) (off L B i : Int) L (L.length : Int) (i : Int) M s) (0, txts L B (ptrs (L.drop i) (A + 4 * i) (off L B i) M), s) := by
  intro d
  induction d with
  | zero =>
    intro i hi M hM
    rw [List.drop_of_length_le (by omega)]
    have e := c1 L A B hA hB s L.length 0 (by omega) M hM
    rw [off_zero, List.drop_zero] at e
    exact Ev.step (fun k => env_Lay.l0.eq_2 _ _ _ _ _ _ _ _ _ _) (Ev.ifn (by omega) e)
  | succ d ih =>
    intro i hi M hM
    have hil : i < L.length := by omega
    have hs := off_succ L B i hil
    have h1 := off_le L B (i + 1)
    have hpl : (le (off L B i : Int) 4).length = 4 := le_length _ _
    have hfit : (A + 4 * i) + (le (off L B i : Int) 4).length ≤ M.length := by omega
    have e := ih (i + 1) (by omega) (splice M (A + 4 * i) (le (off L B i : Int) 4)) (by rw [splice_length hfit]; exact hM)
    rw [List.drop_eq_getElem_cons hil, ptrs, ← hs, show A + 4 * i + 4 = A + 4 * (i + 1) by omega]
    refine Ev.step (fun k => env_Lay.l0.eq_2 _ _ _ _ _ _ _ _ _ _) (Ev.ifp (by omega) (Ev.ifp (by omega) (Ev.ifp (by omega) ?_)))
    rw [rd_at L i hil, w64 (x := 4 * (i : Int)) (by omega) (by omega), w64 (x := (A : Int) + 4 * (i : Int)) (by omega) (by omega)]
    have hv : IntKind.u64.wrap (off L B i : Int) = (off L B i : Int) := by rw [wu64, Int.emod_eq_of_lt (by omega) (by omega)]
    rw [hv]
    have hf : Fm ((A : Int) + 4 * (i : Int)) 0 4 := by unfold Fm mem_Memory_Load.form; omega
    have hst := store_ok M s (off L B i : Int) hf (by omega)
    rw [show (((A : Int) + 4 * (i : Int)) + 0).toNat = A + 4 * i by omega, show (4 : Int).toNat = 4 from rfl] at hst
    refine Ev.val hst ?_
    rw [w64 (x := ((L[i].size : Int) + 1)) (by omega) (by omega), w64 (x := (off L B i : Int) + _) (by omega) (by omega), w64 (x := (i : Int) + 1) (by omega) (by omega), show (off L B i : Int) + ((L[i].size : Int) + 1) = (off L B (i + 1) : Int) by omega, show (i : Int) + 1 = ((i + 1 : Nat) : Int) by omega]
    exact e
theorem r1 : ∀ (d i : Nat), i + d = L.length → ∀ M : List Int, M.length = 65536 → Ev (fun k => gangwayref20_Lay.l1 k L (off L B i : Int) (i : Int) M s) (true, txts (L.drop i) (off L B i) M, s) := by
  intro d
  induction d with
  | zero =>
    intro i hi M hM
    rw [List.drop_of_length_le (by omega)]
    exact Ev.step (fun k => gangwayref20_Lay.l1.eq_2 _ _ _ _ _ _) (Ev.ifn (by omega) (Ev.cst rfl))
  | succ d ih =>
    intro i hi M hM
    have hil : i < L.length := by omega
    have hs := off_succ L B i hil
    have h1 := off_le L B (i + 1)
    have hpl := one_length L[i]
    have hfit : off L B i + (bytesOf L[i] ++ [0]).length ≤ M.length := by omega
    have e := ih (i + 1) (by omega) (splice M (off L B i) (bytesOf L[i] ++ [0])) (by rw [splice_length hfit]; exact hM)
    rw [List.drop_eq_getElem_cons hil, txts, ← hs]
    refine Ev.step (fun k => gangwayref20_Lay.l1.eq_2 _ _ _ _ _ _) (Ev.ifp (by omega) (Ev.ifp (by omega) ?_))
    rw [rd_at L i hil]
    refine Ev.ifp (by omega) (Ev.bd (Ev.big ((bytesOf L[i] ++ [0]).length + 1) fun k hk => put_ev M (off L B i) (bytesOf L[i] ++ [0]) hfit (by omega) k (by omega)) ?_)
    rw [w64 (x := (off L B i : Int) + _) (by omega) (by omega), w64 (x := (off L B i : Int) + _ + 1) (by omega) (by omega), w64 (x := (i : Int) + 1) (by omega) (by omega), show (off L B i : Int) + (L[i].size : Int) + 1 = (off L B (i + 1) : Int) by omega, show (i : Int) + 1 = ((i + 1 : Nat) : Int) by omega]
    exact e
theorem r0 : ∀ (d i : Nat), i + d = L.length → ∀ M : List Int, M.length = 65536 → Ev (fun k => gangwayref20_Lay.l0 k L (A : Int) (B : Int) (off L B i : Int) (i : Int) M s) (true, txts L B (ptrs (L.drop i) (A + 4 * i) (off L B i) M), s) := by
  intro d
  induction d with
  | zero =>
    intro i hi M hM
    rw [List.drop_of_length_le (by omega)]
    have e := r1 L A B hA hB s L.length 0 (by omega) M hM
    rw [off_zero, List.drop_zero] at e
    exact Ev.step (fun k => gangwayref20_Lay.l0.eq_2 _ _ _ _ _ _ _ _) (Ev.ifn (by omega) e)
  | succ d ih =>
    intro i hi M hM
    have hil : i < L.length := by omega
    have hs := off_succ L B i hil
    have h1 := off_le L B (i + 1)
    have hpl : (le (off L B i : Int) 4).length = 4 := le_length _ _
    have hfit : (A + 4 * i) + (le (off L B i : Int) 4).length ≤ M.length := by omega
    have e := ih (i + 1) (by omega) (splice M (A + 4 * i) (le (off L B i : Int) 4)) (by rw [splice_length hfit]; exact hM)
    rw [List.drop_eq_getElem_cons hil, ptrs, ← hs, show A + 4 * i + 4 = A + 4 * (i + 1) by omega]
    have hv : IntKind.u64.wrap (off L B i : Int) = (off L B i : Int) := by rw [wu64, Int.emod_eq_of_lt (by omega) (by omega)]
    refine Ev.step (fun k => gangwayref20_Lay.l0.eq_2 _ _ _ _ _ _ _ _) (Ev.ifp (by omega) ?_)
    rw [hv, w64 (x := 4 * (i : Int)) (by omega) (by omega), w64 (x := (A : Int) + 4 * (i : Int)) (by omega) (by omega), show (A : Int) + 4 * (i : Int) = ((A + 4 * i : Nat) : Int) by omega]
    refine Ev.bd (Ev.big 9 fun k hk => little_ev (off L B i : Int) 4 (by omega) k hk) (Ev.bd (Ev.big 5 fun k hk => put_ev M (A + 4 * i) (le (off L B i : Int) 4) hfit (by omega) k (by omega)) (Ev.ifp (by omega) ?_))
    rw [rd_at L i hil, w64 (x := (off L B i : Int) + _) (by omega) (by omega), w64 (x := (off L B i : Int) + _ + 1) (by omega) (by omega), w64 (x := (i : Int) + 1) (by omega) (by omega), show (off L B i : Int) + (L[i].size : Int) + 1 = (off L B (i + 1) : Int) by omega, show (i : Int) + 1 = ((i + 1 : Nat) : Int) by omega]
    exact e
end
/-- Both lay the same. -/
theorem lays (L : List ByteArray) (hl : L.length ≤ 8796093021952) (hs : ∀ s ∈ L, s.size ≤ 140737488351232) (hok : okL 0 L = true ∧ L.length ≤ 64) (hz : Ev (fun k => gangwayref20_Size.f k L) (tot L : Int)) (M : List Int) (hM : M.length = 65536) (s c a b : Int) :
    ∃ (o : Bool) (M' : List Int), M'.length = 65536 ∧ Ev (fun k => env_Lay.f k M s L a b) (if o = true then 0 else 21, M', s) ∧ Ev (fun k => gangwayref20_Lay.f k M c L a b) (o, M', c) := by
  have ht := okL_tot L 0 hok.1 (by omega)
  have hsz := fun k (hk : L.length + 1 ≤ k) => sizes_ev L (by omega) hs k (by omega)
  rw [if_pos (show (okL 0 L && decide (L.length ≤ 64)) = true by simp [hok])] at hsz
  have w4 : wrap64 (4 * (L.length : Int)) = 4 * (L.length : Int) := w64 (by omega) (by omega)
  by_cases h1 : 0 ≤ a ∧ 0 ≤ 4 * (L.length : Int) ∧ a + 4 * (L.length : Int) ≤ (M.length : Int)
  · by_cases h2 : 0 ≤ b ∧ 0 ≤ (tot L : Int) ∧ b + (tot L : Int) ≤ (M.length : Int)
    · obtain ⟨A, rfl⟩ : ∃ A : Nat, a = (A : Int) := ⟨a.toNat, by omega⟩
      obtain ⟨B, rfl⟩ : ∃ B : Nat, b = (B : Int) := ⟨b.toNat, by omega⟩
      have e1 := c0 L A B (by omega) (by omega) s L.length 0 (by omega) M hM
      have e2 := r0 L A B (by omega) (by omega) c L.length 0 (by omega) M hM
      rw [off_zero, List.drop_zero, show A + 4 * 0 = A by omega] at e1 e2
      refine ⟨true, txts L B (ptrs L A B M), ?_, Ev.congr (fun k => by rw [env_Lay.f]) (Ev.bd (Ev.big (L.length + 1) hsz) (Ev.ifp rfl ?_)), Ev.congr (fun k => by rw [gangwayref20_Lay.f]) ?_⟩
      rotate_left
      · rw [w4]
        exact Ev.val (has_eq (l := M) s _ _ (by omega)) (Ev.ifp (decide_eq_true h1) (Ev.val (has_eq (l := M) s _ _ (by omega)) (Ev.ifp (decide_eq_true h2) e1)))
      · rw [w4]
        refine Ev.val (rhas_eq (l := M) c _ _ (by omega)) (Ev.ifp (decide_eq_true h1) (Ev.bd hz (Ev.val (rhas_eq (l := M) c _ _ (by omega)) ?_)))
        simp only [decide_eq_true h2]
        exact Ev.step (fun k => gangwayref20_Lay.j0.eq_2 _ _ _ _ _ _ _) (Ev.ifn Bool.false_ne_true e2)
      · have tl : ∀ (r : List ByteArray) (b' : Nat) (X : List Int), X.length = 65536 → b' + tot r ≤ 65536 → (txts r b' X).length = 65536 := by
          intro r
          induction r with
          | nil => intro b' X hX _; exact hX
          | cons x r ih =>
            intro b' X hX hb
            rw [tot] at hb
            have hpl := one_length x
            exact ih _ _ (by rw [splice_length (by omega)]; exact hX) (by omega)
        have pl : ∀ (r : List ByteArray) (a' b' : Nat) (X : List Int), X.length = 65536 → a' + 4 * r.length ≤ 65536 → (ptrs r a' b' X).length = 65536 := by
          intro r
          induction r with
          | nil => intro a' b' X hX _; exact hX
          | cons x r ih =>
            intro a' b' X hX ha
            rw [List.length_cons] at ha
            have hpl : (le (b' : Int) 4).length = 4 := le_length _ _
            exact ih _ _ _ (by rw [splice_length (by omega)]; exact hX) (by omega)
        exact tl L B _ (pl L A B M hM (by omega)) (by omega)
    · refine ⟨false, M, hM, Ev.congr (fun k => by rw [env_Lay.f]) (Ev.bd (Ev.big (L.length + 1) hsz) (Ev.ifp rfl ?_)), Ev.congr (fun k => by rw [gangwayref20_Lay.f]) ?_⟩
      · rw [w4]
        exact Ev.val (has_eq (l := M) s _ _ (by omega)) (Ev.ifp (decide_eq_true h1) (Ev.val (has_eq (l := M) s _ _ (by omega)) (Ev.ifn (by simp only [decide_eq_false h2]; exact Bool.false_ne_true) (Ev.cst rfl))))
      · rw [w4]
        refine Ev.val (rhas_eq (l := M) c _ _ (by omega)) (Ev.ifp (decide_eq_true h1) (Ev.bd hz (Ev.val (rhas_eq (l := M) c _ _ (by omega)) ?_)))
        simp only [decide_eq_false h2]
        exact Ev.step (fun k => gangwayref20_Lay.j0.eq_2 _ _ _ _ _ _ _) (Ev.ifp rfl (Ev.cst rfl))
  · refine ⟨false, M, hM, Ev.congr (fun k => by rw [env_Lay.f]) (Ev.bd (Ev.big (L.length + 1) hsz) (Ev.ifp rfl ?_)), Ev.congr (fun k => by rw [gangwayref20_Lay.f]) ?_⟩
    · rw [w4]
      exact Ev.val (has_eq (l := M) s _ _ (by omega)) (Ev.ifn (by simp only [decide_eq_false h1]; exact Bool.false_ne_true) (Ev.cst rfl))
    · rw [w4]
      refine Ev.val (rhas_eq (l := M) c _ _ (by omega)) (Ev.ifn (by simp only [decide_eq_false h1]; exact Bool.false_ne_true) ?_)
      exact Ev.step (fun k => gangwayref20_Lay.j0.eq_2 _ _ _ _ _ _ _) (Ev.ifp rfl (Ev.cst rfl))
/-- A memory with some bytes at its beginning, twice. -/
theorem both_l0 (b : List Int) (hb : b.length < 1000000000000000) (Z : List Int) (hZ : Z.length = 65536) : ∀ (d i : Nat), i + d = b.length → ∀ M : List Int, M.length = 65536 → ∃ R : List Int, R.length = 65536 ∧ Ev (fun k => gangwaylaw19_Both.l0 k b (i : Int) Z 1 M 1) (true, R, 1, true, R, 1) := by
  have fin : ∀ M : List Int, M.length = 65536 → Ev (fun k => gangwaylaw19_Both.j2 k Z 1 M 1) (true, M, 1, true, M, 1) := by
    intro M hM
    have hw : splice Z (0 : Int).toNat M = M := by
      unfold splice
      rw [List.drop_of_length_le (by show Z.length ≤ 0 + M.length; omega)]
      exact List.append_nil _
    have hwr := write_ok Z 1 (a := 0) (b := M) (by omega)
    rw [hw] at hwr
    exact Ev.step (fun k => gangwaylaw19_Both.j2.eq_2 _ _ _ _ _) (Ev.val hwr (Ev.val (v := 0) rfl (Ev.ifp rfl (Ev.cst rfl))))
  intro d
  induction d with
  | zero =>
    intro i hi M hM
    exact ⟨M, hM, Ev.step (fun k => gangwaylaw19_Both.l0.eq_2 _ _ _ _ _ _ _) (Ev.ifn (by omega) (fin M hM))⟩
  | succ d ih =>
    intro i hi M hM
    by_cases h : (i : Int) < (M.length : Int)
    · obtain ⟨R, hR, e⟩ := ih (i + 1) (by omega) (M.set (i : Int).toNat (rd b (i : Int))) (by rw [List.length_set]; exact hM)
      refine ⟨R, hR, Ev.step (fun k => gangwaylaw19_Both.l0.eq_2 _ _ _ _ _ _ _) (Ev.ifp (by omega) (Ev.ifp h (Ev.ifp (by omega) ?_)))⟩
      rw [w64 (by omega) (by omega), show (i : Int) + 1 = ((i + 1 : Nat) : Int) by omega]
      exact e
    · exact ⟨M, hM, Ev.step (fun k => gangwaylaw19_Both.l0.eq_2 _ _ _ _ _ _ _) (Ev.ifp (by omega) (Ev.ifn h (fin M hM)))⟩
theorem both_ev (b : List Int) (hb : b.length < 1000000000000000) : ∃ R : List Int, R.length = 65536 ∧ Ev (fun k => gangwaylaw19_Both.f k b) (true, R, 1, true, R, 1) := by
  have e0 : (List.replicate ((1 : Int) * 65536).toNat (0 : Int)) = List.replicate 65536 0 := rfl
  have hn := fun k (hk : 1 ≤ k) => new_ok (mi := 1) (ma := -1) (li := 1) (by omega) (by omega) (by omega) (by omega) k (by omega)
  rw [if_pos rfl, e0] at hn
  have hz : (List.replicate 65536 (0 : Int)).length = 65536 := List.length_replicate
  have hr : gangwayref9_NewMem.f 1 (-1) 1 = some (true, List.replicate 65536 0, 1) := by
    unfold gangwayref9_NewMem.f
    rw [if_neg (by omega), if_neg (by omega), w64 (by omega) (by omega), if_pos (by omega), if_pos (by omega)]
    rfl
  generalize List.replicate 65536 (0 : Int) = Z at *
  obtain ⟨R, hR, e⟩ := both_l0 b hb Z hz b.length 0 (by omega) Z hz
  refine ⟨R, hR, Ev.congr (fun k => by rw [gangwaylaw19_Both.f]) ?_⟩
  refine Ev.bd (Ev.big 1 hn) (Ev.ifp rfl (Ev.val (v := 0) rfl (Ev.ifp rfl ?_)))
  exact Ev.step (fun k => gangwaylaw19_Both.j0.eq_2 _ _ _ _ _) (Ev.ifn Bool.false_ne_true (Ev.val hr (Ev.ifp rfl e)))
theorem same_ev (M : List Int) (hM : M.length = 65536) (s c : Int) : Ev (fun k => gangwaylaw19_Same.f k M s M c) (true, M, s) := by
  have hrd := read_ok (l := M) (a := 0) (n := (M.length : Int)) s (by omega) (by omega)
  rw [show ((0 : Int) + (M.length : Int)).toNat = M.length by omega, show (0 : Int).toNat = 0 from rfl, List.take_length, List.drop_zero] at hrd
  refine Ev.congr (fun k => by rw [gangwaylaw19_Same.f]) ?_
  refine (Ev.val hrd (Ev.ifp rfl (Ev.bd (Ev.big (M.length + 1) fun k hk => eqb_ev M M (by omega) k (by omega)) ?_)))
  rw [decide_eq_true rfl]
  exact Ev.cst rfl
theorem eqs_l0 (l : List ByteArray) (hl : l.length < 8796093022208) : ∀ (d i : Nat), i + d = l.length → Ev (fun k => gangwayref0_EqStrings.l0 k l l (i : Int)) true := by
  intro d
  induction d with
  | zero =>
    intro i hi
    exact Ev.step (fun k => gangwayref0_EqStrings.l0.eq_2 _ _ _ _) (Ev.ifn (by omega) (Ev.cst rfl))
  | succ d ih =>
    intro i hi
    refine Ev.step (fun k => gangwayref0_EqStrings.l0.eq_2 _ _ _ _) (Ev.ifp (by omega) (Ev.ifp (by omega) (Ev.ifp (by omega) (Ev.ifp rfl ?_))))
    rw [w64 (by omega) (by omega), show (i : Int) + 1 = ((i + 1 : Nat) : Int) by omega]
    exact ih (i + 1) (by omega)
theorem eqs_ev (l : List ByteArray) (hl : l.length < 8796093022208) : Ev (fun k => gangwayref0_EqStrings.f k l l) true := by
  have e := eqs_l0 l hl l.length 0 (by omega)
  refine Ev.congr (fun k => by rw [gangwayref0_EqStrings.f]) ?_
  exact Ev.ifp rfl e
theorem size_l0 (l : List ByteArray) (ht : tot l ≤ 10000) : ∀ (d i : Nat), i + d = l.length → Ev (fun k => gangwayref20_Size.l0 k l (((tot (l.take i) + (l.length - i) : Nat)) : Int) (i : Int)) (tot l : Int) := by
  have hlt : ∀ l : List ByteArray, l.length ≤ tot l := by
    intro l
    induction l with
    | nil => exact Nat.le_refl _
    | cons s r ih => rw [tot, List.length_cons]; omega
  have hL := hlt l
  intro d
  induction d with
  | zero =>
    intro i hi
    obtain rfl : i = l.length := by omega
    rw [List.take_length, Nat.sub_self, Nat.add_zero]
    exact Ev.step (fun k => gangwayref20_Size.l0.eq_2 _ _ _ _) (Ev.ifn (by omega) (Ev.cst rfl))
  | succ d ih =>
    intro i hi
    have hil : i < l.length := by omega
    have hs := off_succ l 0 i hil
    have h1 := off_le l 0 (i + 1)
    unfold off at hs h1
    refine Ev.step (fun k => gangwayref20_Size.l0.eq_2 _ _ _ _) (Ev.ifp (by omega) (Ev.ifp (by omega) ?_))
    rw [rd_at l i hil, w64 (x := _ + (l[i].size : Int)) (by omega) (by omega), w64 (by omega) (by omega), show (i : Int) + 1 = ((i + 1 : Nat) : Int) by omega, show ((tot (l.take i) + (l.length - i) : Nat) : Int) + (l[i].size : Int) = ((tot (l.take (i + 1)) + (l.length - (i + 1)) : Nat) : Int) by omega]
    exact ih (i + 1) (by omega)
theorem size_ev (l : List ByteArray) (ht : tot l ≤ 10000) : Ev (fun k => gangwayref20_Size.f k l) (tot l : Int) := by
  have e := size_l0 l ht l.length 0 (by omega)
  rw [List.take_zero, show ((tot [] + (l.length - 0) : Nat) : Int) = (l.length : Int) by simp [tot]] at e
  refine Ev.congr (fun k => by rw [gangwayref20_Size.f]) ?_
  exact e
/-- Texts that may be, as the page asks them. -/
def noz (l : List UInt8) : Bool := decide (Lib.indexByte l 0 < 0)
theorem noz_cons (c : UInt8) (l : List UInt8) : noz (c :: l) = (decide (c ≠ 0) && noz l) := by
  have hg := Lib.indexByte_ge l 0
  unfold noz
  rw [Lib.indexByte]
  by_cases h : c = 0
  · subst h
    simp
  · have hb : (c == 0) = false := by simp [h]
    rw [hb]
    simp only [Bool.false_eq_true, if_false]
    by_cases h2 : (Lib.indexByte l 0 == -1) = true
    · rw [if_pos h2]
      have : Lib.indexByte l 0 = -1 := by simpa using h2
      simp [h, this]
    · rw [if_neg h2]
      have : Lib.indexByte l 0 ≠ -1 := by simpa using h2
      have h3 : ¬ (Lib.indexByte l 0 + 1 < 0) := by omega
      have h4 : ¬ (Lib.indexByte l 0 < 0) := by omega
      simp [h3, h4]
def mayR (n : Nat) : List ByteArray → Bool
  | [] => decide (n ≤ 4096)
  | s :: r => noz s.data.toList && mayR (n + s.size) r
theorem mayR_ok : ∀ (l : List ByteArray) (n : Nat), mayR n l = (okL n l && decide (n ≤ 4096))
  | [], n => by simp [mayR, okL]
  | s :: r, n => by
    rw [mayR, mayR_ok r, okL]
    unfold noz
    by_cases h : n + s.size ≤ 4096
    · have : n ≤ 4096 := by omega
      simp [h, this]
    · simp [h]
theorem bt_zero (s : ByteArray) (j : Nat) (h : j < s.size) : (bt s (j : Int) = 0) ↔ s.data.toList[j]'(by simpa using h) = 0 := by
  rw [← bt_at s (j : Int) (by simpa using h)]
  have e : s[((j : Nat) : Int).toNat]'(by simpa using h) = s.data.toList[j]'(by simpa using h) := by
    simp only [Int.toNat_natCast]
    rfl
  rw [e]
  constructor
  · intro h2
    apply UInt8.toNat_inj.1
    have : ((s.data.toList[j]'(by simpa using h)).toNat : Int) = 0 := h2
    simp only [UInt8.toNat_zero]
    omega
  · intro h2
    rw [h2]
    rfl
theorem may_l (l : List ByteArray) (hl : l.length ≤ 64) (hs : ∀ s ∈ l, s.size ≤ 140737488351232) : ∀ (d i : Nat), i + d = l.length → ∀ n : Nat, n ≤ i * 140737488351232 → Ev (fun k => gangwayref20_MayTexts.l0 k l (n : Int) (i : Int)) (mayR n (l.drop i)) := by
  intro d
  induction d with
  | zero =>
    intro i hi n hn
    rw [List.drop_of_length_le (by omega), mayR]
    refine Ev.step (fun k => gangwayref20_MayTexts.l0.eq_2 _ _ _ _) (Ev.ifn (by omega) (Ev.cst ?_))
    congr 1
    simp only [decide_eq_decide]
    omega
  | succ d ih =>
    intro i hi n hn
    have hil : i < l.length := by omega
    have hb := hs l[i] (List.getElem_mem hil)
    refine Ev.step (fun k => gangwayref20_MayTexts.l0.eq_2 _ _ _ _) (Ev.ifp (by omega) (Ev.ifp (by omega) ?_))
    rw [rd_at l i hil, w64 (x := (n : Int) + _) (by omega) (by omega), show (n : Int) + (l[i].size : Int) = ((n + l[i].size : Nat) : Int) by omega, List.drop_eq_getElem_cons hil, mayR]
    have e := ih (i + 1) (by omega) (n + l[i].size) (by omega)
    generalize mayR (n + l[i].size) (l.drop (i + 1)) = q at e ⊢
    have inner : ∀ (c j : Nat), j + c = l[i].size → Ev (fun k => gangwayref20_MayTexts.l1 k l ((n + l[i].size : Nat) : Int) (i : Int) (j : Int)) (noz (l[i].data.toList.drop j) && q) := by
      intro c
      induction c with
      | zero =>
        intro j hj
        rw [List.drop_of_length_le (by simp; exact Nat.le_of_eq hj.symm)]
        refine Ev.step (fun k => gangwayref20_MayTexts.l1.eq_2 _ _ _ _ _) (Ev.ifp (by omega) (Ev.ifp (by omega) ?_))
        rw [rd_at l i hil]
        refine Ev.ifn (by omega) ?_
        rw [w64 (by omega) (by omega), show (i : Int) + 1 = ((i + 1 : Nat) : Int) by omega, show noz [] = true from rfl, Bool.true_and]
        exact e
      | succ c ihc =>
        intro j hj
        have hjl : j < l[i].size := by omega
        rw [List.drop_eq_getElem_cons (by simpa using hjl), noz_cons]
        refine Ev.step (fun k => gangwayref20_MayTexts.l1.eq_2 _ _ _ _ _) (Ev.ifp (by omega) (Ev.ifp (by omega) ?_))
        rw [rd_at l i hil]
        refine Ev.ifp (by omega) (Ev.ifp (by omega) ?_)
        by_cases hz : l[i].data.toList[j]'(by simpa using hjl) = 0
        · rw [decide_eq_false (by simp [hz]), Bool.false_and, Bool.false_and]
          exact Ev.ifp ((bt_zero _ _ hjl).2 hz) (Ev.cst rfl)
        · rw [decide_eq_true (by simpa using hz), Bool.true_and]
          refine Ev.ifn (fun h => hz ((bt_zero _ _ hjl).1 h)) ?_
          rw [w64 (by omega) (by omega), show (j : Int) + 1 = ((j + 1 : Nat) : Int) by omega]
          exact ihc (j + 1) (by omega)
    have := inner l[i].size 0 (by omega)
    rwa [List.drop_zero] at this
theorem may_ev (l : List ByteArray) (hs : ∀ s ∈ l, s.size ≤ 140737488351232) : Ev (fun k => gangwayref20_MayTexts.f k l) (okL 0 l && decide (l.length ≤ 64)) := by
  refine Ev.congr (fun k => by rw [gangwayref20_MayTexts.f]) ?_
  by_cases h : l.length ≤ 64
  · have e := may_l l h hs l.length 0 (by omega) 0 (by omega)
    rw [List.drop_zero, mayR_ok, decide_eq_true (show (0 : Nat) ≤ 4096 by omega)] at e
    rw [decide_eq_true h]
    exact Ev.ifn (by omega) e
  · rw [decide_eq_false h, Bool.and_false]
    exact Ev.ifp (by omega) (Ev.cst rfl)
section
variable (x0 : List S26) (i : Nat) (hi : i < 1000000000000000) (L : List ByteArray) (a b : Int) (hl : L.length ≤ 8796093021952) (hs : ∀ s ∈ L, s.size ≤ 140737488351232)
variable (g : Ev (fun k => gangwaylaw22_EnvExact.l0 k x0 ((i + 1 : Nat) : Int)) true)
include hi hl g
theorem end_ (c : Int) (M M' : List Int) (hM' : M'.length = 65536) (e : Ev (fun k => env_Lay.f k M 1 L a b) (c, M', 1)) : Ev (fun k => gangwaylaw22_EnvExact.j4 k x0 (i : Int) c L a b M 1 M' 1) true := by
  refine Ev.step (fun k => gangwaylaw22_EnvExact.j4.eq_2 _ _ _ _ _ _ _ _ _ _ _) (Ev.bd (Ev.big (L.length + 1) fun k hk => copy_ev L (by omega) k (by omega)) (Ev.bd e (Ev.val (v := c) rfl (Ev.ifp rfl (Ev.bd (same_ev M' hM' 1 1) (Ev.ifp rfl (Ev.bd (eqs_ev L (by omega)) (Ev.ifp rfl ?_))))))))
  rw [w64 (by omega) (by omega), show (i : Int) + 1 = ((i + 1 : Nat) : Int) by omega]
  exact g
include hs
theorem one_ : ∀ (hok : (okL 0 L && decide (L.length ≤ 64)) = true), Ev (fun k => gangwaylaw22_EnvExact.j2 k x0 (i : Int) 0 (L.length : Int) (tot L : Int) L a b) true := by
  intro hok
  have hok2 : okL 0 L = true ∧ L.length ≤ 64 := by simpa using hok
  have ht := okL_tot L 0 hok2.1 (by omega)
  have hsz := fun k (hk : L.length + 1 ≤ k) => sizes_ev L (by omega) hs k (by omega)
  have hck := fun k (hk : L.length + 1 ≤ k) => check_ev L (by omega) hs k (by omega)
  rw [if_pos hok] at hsz hck
  obtain ⟨R, hR, e⟩ := both_ev [119, 104, 97, 116, 32, 115, 116, 111, 111, 100, 32, 104, 101, 114, 101] (by decide)
  obtain ⟨o, M', hM', e1, e2⟩ := lays L hl hs hok2 (size_ev L (by omega)) R hR 1 1 a b
  refine Ev.step (fun k => gangwaylaw22_EnvExact.j2.eq_2 _ _ _ _ _ _ _ _ _) (Ev.bd (Ev.big (L.length + 1) hsz) (Ev.bd (Ev.big (L.length + 1) hck) (Ev.val (v := 0) rfl (Ev.ifp rfl (Ev.val (v := 0) rfl (Ev.ifp rfl (Ev.ifp rfl (Ev.ifp rfl (Ev.bd e (Ev.ifp rfl (Ev.ifp rfl (Ev.ifp rfl (Ev.bd e2 ?_)))))))))))))
  cases o with
  | true => exact Ev.step (fun k => gangwaylaw22_EnvExact.j3.eq_2 _ _ _ _ _ _ _ _ _ _ _ _) (Ev.ifn Bool.false_ne_true (end_ x0 i hi L a b hl g 0 R M' hM' e1))
  | false => exact Ev.step (fun k => gangwaylaw22_EnvExact.j3.eq_2 _ _ _ _ _ _ _ _ _ _ _ _) (Ev.ifp rfl (end_ x0 i hi L a b hl g 21 R M' hM' e1))
theorem none_ : ∀ (hok : ¬ (okL 0 L && decide (L.length ≤ 64)) = true), Ev (fun k => gangwaylaw22_EnvExact.j2 k x0 (i : Int) 100 0 0 L a b) true := by
  intro hok
  have hsz := fun k (hk : L.length + 1 ≤ k) => sizes_ev L (by omega) hs k (by omega)
  have hck := fun k (hk : L.length + 1 ≤ k) => check_ev L (by omega) hs k (by omega)
  rw [if_neg hok] at hsz hck
  obtain ⟨R, hR, e⟩ := both_ev [119, 104, 97, 116, 32, 115, 116, 111, 111, 100, 32, 104, 101, 114, 101] (by decide)
  refine Ev.step (fun k => gangwaylaw22_EnvExact.j2.eq_2 _ _ _ _ _ _ _ _ _) (Ev.bd (Ev.big (L.length + 1) hsz) (Ev.bd (Ev.big (L.length + 1) hck) (Ev.val (v := 100) rfl (Ev.ifp rfl (Ev.val (v := 100) rfl (Ev.ifp rfl (Ev.ifp rfl (Ev.ifp rfl (Ev.bd e (Ev.ifp rfl (Ev.ifp rfl (Ev.ifn (by decide) ?_))))))))))))
  refine Ev.step (fun k => gangwaylaw22_EnvExact.j3.eq_2 _ _ _ _ _ _ _ _ _ _ _ _) (Ev.ifn Bool.false_ne_true (end_ x0 i hi L a b hl g 100 R R hR ?_))
  refine Ev.congr (fun k => by rw [env_Lay.f]) ?_
  exact (Ev.bd (Ev.big (L.length + 1) hsz) (Ev.ifn (by decide) (Ev.cst rfl)))
end
theorem all_ (x0 : List S26) (hx : x0.length < 10000000000000000) (hk : ∀ y ∈ x0, okT26 y) : ∀ (d i : Nat), i + d = 8 → Ev (fun k => gangwaylaw22_EnvExact.l0 k x0 (i : Int)) true := by
  have fin : ∀ i : Int, Ev (fun k => gangwaylaw22_EnvExact.j1 k x0 i false) true := fun i => by
    refine Ev.step (fun k => gangwaylaw22_EnvExact.j1.eq_2 _ _ _ _) (Ev.ifn Bool.false_ne_true (Ev.val (v := 100) rfl (Ev.val (v := 100) rfl (Ev.ifp rfl ?_))))
    exact Ev.bd (Ev.big 3 fun k hk => wakes_ev k hk) (Ev.cst rfl)
  intro d
  induction d with
  | zero =>
    intro i hi
    refine Ev.step (fun k => gangwaylaw22_EnvExact.l0.eq_2 _ _ _) ?_
    by_cases hlt : (i : Int) < (x0.length : Int)
    · refine Ev.ifp hlt ?_
      rw [decide_eq_false (by omega)]
      exact fin _
    · exact Ev.ifn hlt (fin _)
  | succ d ih =>
    intro i hi
    refine Ev.step (fun k => gangwaylaw22_EnvExact.l0.eq_2 _ _ _) ?_
    by_cases hlt : (i : Int) < (x0.length : Int)
    · refine Ev.ifp hlt ?_
      rw [decide_eq_true (show (i : Int) < 8 by omega)]
      refine Ev.step (fun k => gangwaylaw22_EnvExact.j1.eq_2 _ _ _ _) (Ev.ifp rfl (Ev.ifp (by omega) (Ev.ifp hlt ?_)))
      have hm : rd_T26 x0 (i : Int) ∈ x0 := by
        unfold rd_T26
        rw [Int.toNat_natCast, List.getD_eq_getElem?_getD, List.getElem?_eq_getElem (by omega)]
        exact List.getElem_mem _
      obtain ⟨⟨h1, h2⟩, _⟩ := hk _ hm
      generalize rd_T26 x0 (i : Int) = y at *
      have go := ih (i + 1) (by omega)
      obtain ⟨r, e0⟩ := heavy_ev y.f0 y.f1 y.f2 201 (by omega)
      refine Ev.bd (Ev.of (fun k => gangwaylaw22_heavy.mono y.f0 y.f1 y.f2 k) e0) ?_
      cases r with
      | true => exact Ev.ifp rfl (Ev.cst rfl)
      | false =>
        refine Ev.ifn Bool.false_ne_true (Ev.bd (may_ev y.f0 h2) ?_)
        by_cases hok : (okL 0 y.f0 && decide (y.f0.length ≤ 64)) = true
        · rw [hok]
          have hok2 : okL 0 y.f0 = true ∧ y.f0.length ≤ 64 := by simpa using hok
          have ht := okL_tot y.f0 0 hok2.1 (by omega)
          exact Ev.ifp rfl (Ev.bd (size_ev y.f0 (by omega)) (one_ x0 i (by omega) y.f0 y.f1 y.f2 (by omega) h2 go hok))
        · exact Ev.ifn hok (none_ x0 i (by omega) y.f0 y.f1 y.f2 (by omega) h2 go hok)
    · exact Ev.ifn hlt (fin _)
end Go.Proofs.Ytpaodfhhnhbacaa.QX
namespace Go.Proofs.Ytpaodfhhnhbacaa.Pure
open Go.RowKit Go.Proofs.Ytpaodfhhnhbacaa.PAll Go.Proofs.YtpaodfhhnhbacaaW.PrintWords Go.Proofs.Ytpaodfhhnhbacaa.QX
theorem EnvExact : gangwaylaw22_EnvExact.Pure := by
  intro x0 h
  exact Ev.rounds (all_ x0 (by have := h.1; omega) h.2 8 0 (by omega))
end Go.Proofs.Ytpaodfhhnhbacaa.Pure
