import Derived.Test.YtlahigmoljflkaaPAllx7
import Derived.Test.YtlahigmoljflkaaQCode
import Derived.Test.YtlahigmoljflkaaQLebB
/- How instructions are read, as one plain function on what is left of the bytes; what the program's reader comes to. -/
namespace Go.Proofs.Ytlahigmoljflkaa.Q
open Go.RowKit Go.Proofs.Ytlahigmoljflkaa.PAll Go.Proofs.YtlahigmoljflkaaW.PrintWords Go.Proofs.YtlahigmoljflkaaW.PrintLast Go.Proofs.YtlahigmoljflkaaW.PrintMore Go.Proofs.YtlahigmoljflkaaU
set_option linter.unusedVariables false

/-- The place at which s is left of B. -/
def pos (B s : List Int) : Int := ((B.length - s.length : Nat) : Int)
theorem pos_toNat (B s : List Int) : (pos B s).toNat = B.length - s.length := Int.toNat_natCast _
theorem drop_pos {B s : List Int} (h : s <:+ B) : B.drop (pos B s).toNat = s := by
  obtain ⟨P, rfl⟩ := h
  rw [pos_toNat, List.length_append, Nat.add_sub_cancel, List.drop_left]
theorem suf_len {B s : List Int} (h : s <:+ B) : s.length ≤ B.length := h.length_le
theorem bytes_suf {B s : List Int} (hB : Bytes B) (h : s <:+ B) : Bytes s := by
  have hl := suf_len h
  obtain ⟨P, rfl⟩ := h
  refine ⟨by have := hB.1; omega, fun i => ?_⟩
  have := hB.2 (P.length + i)
  rwa [List.getD_eq_getElem?_getD, List.getElem?_append_right (by omega), Nat.add_sub_cancel_left, ← List.getD_eq_getElem?_getD] at this
theorem pos_nil (B : List Int) : pos B [] = (B.length : Int) := rfl
theorem pos_cons {B t : List Int} {c : Int} (h : (c :: t) <:+ B) : pos B t = pos B (c :: t) + 1 := by
  have := suf_len h
  rw [List.length_cons] at this
  unfold pos
  rw [List.length_cons]
  omega
theorem pos_lt {B t : List Int} {c : Int} (h : (c :: t) <:+ B) : pos B (c :: t) < (B.length : Int) := by
  have := suf_len h
  rw [List.length_cons] at this
  unfold pos
  rw [List.length_cons]
  omega
theorem pos_nn (B s : List Int) : 0 ≤ pos B s ∧ pos B s ≤ (B.length : Int) := by unfold pos; omega
theorem rd_pos {B t : List Int} {c : Int} (h : (c :: t) <:+ B) : rd B (pos B (c :: t)) = c := by
  unfold rd
  rw [pos_toNat]
  obtain ⟨P, rfl⟩ := h
  rw [List.length_append, Nat.add_sub_cancel, List.getD_eq_getElem?_getD, List.getElem?_append_right (Nat.le_refl _), Nat.sub_self]
  rfl
theorem suf_tail {B t : List Int} {c : Int} (h : (c :: t) <:+ B) : t <:+ B := (List.suffix_cons c t).trans h

theorem next_nil (B : List Int) : code_place_next.f B (pos B []) false = some (-1, pos B [], true) := by
  unfold code_place_next.f
  rw [if_neg (by decide), if_pos (by rw [pos_nil]; omega)]
theorem next_cons {B t : List Int} {c : Int} (hB : Bytes B) (h : (c :: t) <:+ B) : code_place_next.f B (pos B (c :: t)) false = some (c, pos B t, false) := by
  have h1 := pos_lt h
  have h2 := pos_nn B (c :: t)
  have h3 := hB.1
  have hc := (bytes_suf hB h).2 0
  rw [List.getD_cons_zero] at hc
  have e : wrap64 (wrap64 (pos B (c :: t) + 1) - 1) = pos B (c :: t) := by rw [w64 (x := pos B (c :: t) + 1) (by omega) (by omega), w64 (by omega) (by omega)]; omega
  unfold code_place_next.f
  rw [if_neg (by decide), if_neg (by omega), e, if_pos (by omega), if_pos (by omega), rd_pos h, w64 (x := c) (by omega) (by omega), w64 (by omega) (by omega), pos_cons h]
theorem next_bad (B : List Int) (p : Int) : code_place_next.f B p true = some (-1, p, true) := by
  unfold code_place_next.f
  rw [if_pos rfl]

theorem number_bad (B : List Int) (p : Int) (k : Nat) : code_place_number.f k B p true = some (0, p, true) := by
  unfold code_place_number.f
  rw [if_pos rfl]
theorem drop_suf (s : List Int) (n : Nat) : s.drop n <:+ s := List.drop_suffix n s
theorem pos_drop {B s : List Int} (h : s <:+ B) {n : Nat} (hn : n ≤ s.length) : pos B (s.drop n) = pos B s + n := by
  have := suf_len h
  unfold pos
  rw [List.length_drop]
  omega
theorem pnumber_ev {B s : List Int} (hB : Bytes B) (h : s <:+ B) : Ev (fun k => code_place_number.f k B (pos B s) false) (match numS s with | some (v, t) => (v, pos B t, false) | none => (0, pos B s, true)) := by
  have h2 := pos_nn B s
  have h3 := hB.1
  refine Ev.big 30 fun k hk => ?_
  unfold code_place_number.f
  rw [if_neg (by decide), if_pos h2.1, if_pos h2.2, drop_pos h, uint_ev s (bytes_suf hB h) 32 k hk]
  unfold numS
  split
  · rename_i v t hv
    split at hv
    · rename_i v' n hr
      injection hv with hv
      injection hv with e1 e2
      subst e1 e2
      obtain ⟨r1, r2, r3, r4⟩ := readU_some.1 hr
      have hp := scan_pos s 5 0 n r1 r2
      have hb := val_bound s n
      rw [hr, pos_drop h hp.2.2.1]
      simp only [outU, Option.bind_some]
      rw [w64 (by omega) (by omega), w64 (by omega) (by omega)]
      rfl
    · cases hv
  · rename_i hv
    split at hv
    · cases hv
    · rename_i hr
      rw [hr]
      simp only [outU, Option.bind_some]
      rw [w64 (by omega) (by omega), w64 (by omega) (by omega), Int.add_zero]
      rfl
theorem signed_ev {B s : List Int} {bits M : Int} {D : Nat} (hS : SB bits D M) (hB : Bytes B) (h : s <:+ B) : Ev (fun k => code_place_signed.f k B (pos B s) false bits) (match sigS bits s with | some (v, t) => (v, pos B t, false) | none => (0, pos B s, true)) := by
  have h2 := pos_nn B s
  have h3 := hB.1
  refine Ev.big 40 fun k hk => ?_
  unfold code_place_signed.f
  rw [if_neg (by decide), if_pos h2.1, if_pos h2.2, drop_pos h, sint_ev s (bytes_suf hB h) bits k hk]
  unfold sigS
  split
  · rename_i v t hv
    split at hv
    · rename_i v' n hr
      injection hv with hv
      injection hv with e1 e2
      subst e1 e2
      obtain ⟨r1, r2, r3, r4⟩ := (readS_some hS).1 hr
      have hp := scan_pos s D 0 n r1 r2
      have hl := suf_len h
      rw [hr, pos_drop h hp.2.2.1]
      simp only [outS, Option.bind_some]
      rw [w64 (by omega) (by omega)]
      rfl
    · cases hv
  · rename_i hv
    split at hv
    · cases hv
    · rename_i hr
      rw [hr]
      simp only [outS, Option.bind_some]
      rw [w64 (by omega) (by omega), Int.add_zero]
      rfl

/-- So many numbers. -/
def labS : Nat → List Int → Option (List Int × List Int)
  | 0, s => some ([], s)
  | n + 1, s => match numS s with
    | none => none
    | some (v, t) => match labS n t with
      | none => none
      | some (l, u) => some (v :: l, u)
def zeroS : List Int → Option (List Int)
  | [] => none
  | c :: t => if c = 0 then some t else none
/-- A block: its type, what stands in it, its end. -/
def blockS (rec : List Int → Option (List S45 × Int × List Int)) (ok : Bool) (op : Int) : List Int → Option (S45 × List Int)
  | [] => none
  | ty :: t => if T ty ∧ ok = true then
      match rec t with
      | none => none
      | some (b, e, u) =>
        if e = 5 ∧ op = 4 then
          match rec u with
          | none => none
          | some (b2, e2, w) => if e2 = 11 then some (⟨op, ty, 0, 0, 0, 0, [], b, b2⟩, w) else none
        else if e = 11 then some (⟨op, ty, 0, 0, 0, 0, [], b, []⟩, u) else none
    else none
/-- What stands behind an instruction's byte; rec: instructions, one block deeper; ok: so deep a block may stand. -/
def restS (rec : List Int → Option (List S45 × Int × List Int)) (ok : Bool) (op : Int) (s : List Int) : Option (S45 × List Int) :=
  let sh := shp op
  if sh = 1 then some (⟨op, 0, 0, 0, 0, 0, [], [], []⟩, s)
  else if sh = 2 ∨ sh = 3 then blockS rec ok op s
  else if sh = 4 then match numS s with | none => none | some (v, t) => some (⟨op, 0, v, 0, 0, 0, [], [], []⟩, t)
  else if sh = 5 then match numS s with
    | none => none
    | some (n, t) => match labS n.toNat t with
      | none => none
      | some (l, u) => match numS u with | none => none | some (v, w) => some (⟨op, 0, v, 0, 0, 0, l, [], []⟩, w)
  else if sh = 6 then match numS s with | none => none | some (v, t) => match zeroS t with | none => none | some u => some (⟨op, 0, v, 0, 0, 0, [], [], []⟩, u)
  else if sh = 7 then match numS s with | none => none | some (v, t) => match numS t with | none => none | some (v2, u) => some (⟨op, 0, 0, v, v2, 0, [], [], []⟩, u)
  else if sh = 8 then match zeroS s with | none => none | some t => some (⟨op, 0, 0, 0, 0, 0, [], [], []⟩, t)
  else if sh = 9 then match sigS 32 s with | none => none | some (v, t) => some (⟨op, 0, 0, 0, 0, v, [], [], []⟩, t)
  else if sh = 10 then match sigS 64 s with | none => none | some (v, t) => some (⟨op, 0, 0, 0, 0, v, [], [], []⟩, t)
  else none
/-- Instructions up to an end or an else. -/
def listS : Nat → Nat → List Int → Option (List S45 × Int × List Int)
  | 0, _, _ => none
  | f + 1, d, s => match s with
    | [] => none
    | c :: t => if c = 11 ∨ c = 5 then some ([], c, t) else
      match restS (listS f (d + 1)) (decide (d < 40)) c t with
      | none => none
      | some (x, u) => match listS f d u with
        | none => none
        | some (l, e, w) => some (x :: l, e, w)

theorem numS_suf {s t : List Int} {v : Int} (h : numS s = some (v, t)) : t <:+ s := by
  obtain ⟨_, _, _, E, rfl⟩ := numS_word h
  exact List.suffix_append _ _
theorem sigS_suf {bits : Int} {s t : List Int} {v : Int} (h : sigS bits s = some (v, t)) : t <:+ s := by
  obtain ⟨n, _, rfl⟩ := sigS_some h
  exact drop_suf s n
theorem zeroS_suf {s t : List Int} (h : zeroS s = some t) : s = 0 :: t := by
  unfold zeroS at h
  split at h
  · cases h
  · rename_i c u
    split at h
    · rename_i hc
      injection h with h
      rw [hc, h]
    · cases h
theorem labS_suf : ∀ (n : Nat) {s t l : List Int}, labS n s = some (l, t) → t <:+ s
  | 0, s, t, l, h => by
    injection h with h
    injection h with h1 h2
    rw [h2]
    exact List.suffix_refl _
  | n + 1, s, t, l, h => by
    unfold labS at h
    split at h
    · cases h
    · rename_i v u hv
      split at h
      · cases h
      · rename_i l' w hw
        injection h with h
        injection h with h1 h2
        subst h2
        exact (labS_suf n hw).trans (numS_suf hv)

theorem zero_suf {s t : List Int} (h : zeroS s = some t) : t <:+ s := by
  rw [zeroS_suf h]
  exact List.suffix_cons _ _
theorem blockS_suf {rec : List Int → Option (List S45 × Int × List Int)} (hrec : ∀ s l e t, rec s = some (l, e, t) → t <:+ s) {ok : Bool} {op : Int} {s u : List Int} {x : S45} (h : blockS rec ok op s = some (x, u)) : u <:+ s := by
  unfold blockS at h
  repeat' split at h
  all_goals first
    | (cases h; done)
    | (injection h with h
       injection h with h1 h2
       subst h2
       first
       | exact (hrec _ _ _ _ (by assumption)).trans (List.suffix_cons _ _)
       | exact ((hrec _ _ _ _ (by assumption)).trans (hrec _ _ _ _ (by assumption))).trans (List.suffix_cons _ _))
theorem restS_suf {rec : List Int → Option (List S45 × Int × List Int)} (hrec : ∀ s l e t, rec s = some (l, e, t) → t <:+ s) {ok : Bool} {op : Int} {s u : List Int} {x : S45} (h : restS rec ok op s = some (x, u)) : u <:+ s := by
  unfold restS at h
  simp only at h
  repeat' split at h
  all_goals first
    | (cases h; done)
    | (injection h with h
       injection h with h1 h2
       subst h2
       first
       | exact List.suffix_refl _
       | exact numS_suf (by assumption)
       | exact sigS_suf (by assumption)
       | exact zero_suf (by assumption)
       | exact (zero_suf (by assumption)).trans (numS_suf (by assumption))
       | exact (numS_suf (by assumption)).trans (numS_suf (by assumption))
       | exact ((numS_suf (by assumption)).trans (labS_suf _ (by assumption))).trans (numS_suf (by assumption))
       | skip)
    | exact blockS_suf hrec h
theorem listS_suf : ∀ (f d : Nat) (s : List Int) (l : List S45) (e : Int) (t : List Int), listS f d s = some (l, e, t) → t <:+ s ∧ t.length < s.length ∧ (e = 11 ∨ e = 5)
  | 0, d, s, l, e, t, h => by cases h
  | f + 1, d, s, l, e, t, h => by
    unfold listS at h
    split at h
    · cases h
    · rename_i c r
      split at h
      · rename_i hc
        injection h with h
        injection h with h1 h2
        injection h2 with h2 h3
        subst h3 h2
        exact ⟨List.suffix_cons _ _, by simp, hc⟩
      · split at h
        · cases h
        · rename_i x u hx
          have hu := restS_suf (fun s l e t hh => (listS_suf f (d + 1) s l e t hh).1) hx
          split at h
          · cases h
          · rename_i l' e' w hw
            injection h with h
            injection h with h1 h2
            injection h2 with h2 h3
            subst h3 h2
            obtain ⟨a, b, c'⟩ := listS_suf f d u l' e' w hw
            have := hu.length_le
            exact ⟨(a.trans hu).trans (List.suffix_cons _ _), by rw [List.length_cons]; omega, c'⟩

/-- In enough rounds it comes to something of which Q holds. -/
def Says {α : Type} (g : Nat → Option α) (Q : α → Prop) : Prop := ∃ a, Q a ∧ Ev g a
theorem Says.step {α : Type} {g f : Nat → Option α} {Q : α → Prop} (h : ∀ k, g (k + 1) = f k) : Says f Q → Says g Q := fun ⟨a, q, e⟩ => ⟨a, q, Ev.step h e⟩
theorem Says.ifp {α : Type} {c : Prop} [Decidable c] {g f : Nat → Option α} {Q : α → Prop} (h : c) : Says g Q → Says (fun k => if c then g k else f k) Q := fun ⟨a, q, e⟩ => ⟨a, q, Ev.ifp h e⟩
theorem Says.ifn {α : Type} {c : Prop} [Decidable c] {g f : Nat → Option α} {Q : α → Prop} (h : ¬ c) : Says f Q → Says (fun k => if c then g k else f k) Q := fun ⟨a, q, e⟩ => ⟨a, q, Ev.ifn h e⟩
theorem Says.val {α β : Type} {x : Option α} {v : α} {f : Nat → α → Option β} {Q : β → Prop} (h : x = some v) : Says (fun k => f k v) Q → Says (fun k => x.bind (f k)) Q := fun ⟨a, q, e⟩ => ⟨a, q, Ev.val h e⟩
theorem Says.bd {α β : Type} {g : Nat → Option α} {f : Nat → α → Option β} {a : α} {Q : β → Prop} (h : Ev g a) : Says (fun k => f k a) Q → Says (fun k => (g k).bind (f k)) Q := fun ⟨b, q, e⟩ => ⟨b, q, Ev.bd h e⟩
theorem Says.bdS {α β : Type} {g : Nat → Option α} {f : Nat → α → Option β} {R : α → Prop} {Q : β → Prop} (h : Says g R) (k : ∀ a, R a → Says (fun k => f k a) Q) : Says (fun k => (g k).bind (f k)) Q := by
  obtain ⟨a, r, e⟩ := h
  exact Says.bd e (k a r)
theorem Says.now {α : Type} {Q : α → Prop} (a : α) (q : Q a) : Says (fun _ => some a) Q := ⟨a, q, Ev.now a⟩
theorem Says.mono {α : Type} {g : Nat → Option α} {Q R : α → Prop} (h : Says g Q) (k : ∀ a, Q a → R a) : Says g R := by
  obtain ⟨a, q, e⟩ := h
  exact ⟨a, k a q, e⟩
/-- A number, and where the reader stands behind it; or it is bad. -/
def NQ (B : List Int) : Option (Int × List Int) → Int × Int × Bool → Prop
  | some (v, t), a => a = (v, pos B t, false)
  | none, a => a.2.2 = true
theorem number_says {B s : List Int} (hB : Bytes B) (h : s <:+ B) : Says (fun k => code_place_number.f k B (pos B s) false) (NQ B (numS s)) := by
  refine ⟨_, ?_, pnumber_ev hB h⟩
  split
  · rename_i v t hv
    rw [hv]
    rfl
  · rename_i hv
    rw [hv]
    rfl
theorem signed_says {B s : List Int} {bits M : Int} {D : Nat} (hS : SB bits D M) (hB : Bytes B) (h : s <:+ B) : Says (fun k => code_place_signed.f k B (pos B s) false bits) (NQ B (sigS bits s)) := by
  refine ⟨_, ?_, signed_ev hS hB h⟩
  split
  · rename_i v t hv
    rw [hv]
    rfl
  · rename_i hv
    rw [hv]
    rfl
/-- A row of numbers. -/
def AQ (B : List Int) (acc : List Int) : Option (List Int × List Int) → List Int × Int × Bool → Prop
  | some (l, t), a => a = (acc ++ l, pos B t, false)
  | none, a => a.2.2 = true
theorem labels_l0 {B : List Int} (hB : Bytes B) : ∀ (n : Nat) (acc s : List Int), s <:+ B → acc.length + n < 17592186044416 → Says (fun k => code_place_labels.l0 k acc (n : Int) B (pos B s) false) (AQ B acc (labS n s))
  | 0, acc, s, hs, hn => by
    refine Says.step (fun k => by rw [code_place_labels.l0]) (Says.ifn (by omega) (Says.now _ ?_))
    change (acc, pos B s, false) = (acc ++ [], pos B s, false)
    rw [List.append_nil]
  | n + 1, acc, s, hs, hn => by
    refine Says.step (fun k => by rw [code_place_labels.l0]) (Says.ifp (by omega) (Says.ifn (by decide) ?_))
    refine Says.bdS (number_says hB hs) ?_
    intro a ha
    refine Says.ifp (by omega) ?_
    rw [w64 (x := ((n + 1 : Nat) : Int) - 1) (by omega) (by omega), show ((n + 1 : Nat) : Int) - 1 = (n : Int) from by omega]
    unfold labS
    revert ha
    rcases hv : numS s with _ | ⟨v, t⟩
    · intro ha
      change a.2.2 = true at ha
      rw [ha]
      refine Says.step (fun k => by rw [code_place_labels.l0]) ?_
      by_cases h0 : (n : Int) > 0
      · exact Says.ifp h0 (Says.ifp rfl (Says.now _ rfl))
      · exact Says.ifn h0 (Says.now _ rfl)
    · intro ha
      change a = _ at ha
      subst ha
      refine (labels_l0 hB n (acc ++ [v]) t ((numS_suf hv).trans hs) (by rw [List.length_append, List.length_singleton]; omega)).mono ?_
      intro b hb
      revert hb
      simp only
      rcases hl : labS n t with _ | ⟨l, u⟩
      · exact id
      · intro hb
        change b = _ at hb
        subst hb
        change _ = _
        rw [List.append_assoc]
        rfl
theorem labels_says {B s : List Int} (hB : Bytes B) (h : s <:+ B) : Says (fun k => code_place_labels.f k B (pos B s) false)
    (AQ B [] (match numS s with | none => none | some (n, t) => labS n.toNat t)) := by
  refine Says.bdS (number_says hB h) ?_
  intro a
  rcases hv : numS s with _ | ⟨v, t⟩
  · intro ha
    change a.2.2 = true at ha
    rw [ha]
    refine Says.step (fun k => by rw [code_place_labels.l0]) ?_
    by_cases h0 : a.1 > 0
    · exact Says.ifp h0 (Says.ifp rfl (Says.now _ rfl))
    · exact Says.ifn h0 (Says.now _ rfl)
  · intro ha
    change a = _ at ha
    subst ha
    obtain ⟨h0, h1, _⟩ := numS_word hv
    have := labels_l0 hB v.toNat [] t ((numS_suf hv).trans h) (by rw [List.length_nil]; omega)
    rw [Int.toNat_of_nonneg h0] at this
    exact this

/-- An instruction, and where the reader stands behind it. -/
def RQ (B : List Int) : Option (S45 × List Int) → Int × Int × Int × Int × Int × Int × List Int × List S45 × List S45 × Int × Bool → Prop
  | some (x, u), a => a = (x.f0, x.f1, x.f2, x.f3, x.f4, x.f5, x.f6, x.f7, x.f8, pos B u, false)
  | none, a => a.2.2.2.2.2.2.2.2.2.2 = true
/-- Instructions, what ended them, and where the reader stands. -/
def LQ (B : List Int) (acc : List S45) : Option (List S45 × Int × List Int) → List S45 × Int × Int × Bool → Prop
  | some (l, e, t), a => a = (acc ++ l, e, pos B t, false)
  | none, a => a.2.1 = -1 ∧ a.2.2.2 = true
theorem nought_says {B s : List Int} (hB : Bytes B) (h : s <:+ B) : ∃ a : Int × Bool, code_place_nought.f B (pos B s) false = some a ∧ (match zeroS s with | some t => a = (pos B t, false) | none => a.2 = true) := by
  unfold code_place_nought.f
  cases s with
  | nil => exact ⟨(pos B [], true), by rw [next_nil]; rfl, rfl⟩
  | cons c t =>
    rw [next_cons hB h]
    by_cases hc : c = 0
    · refine ⟨(pos B t, false), by simp only [Option.bind_some]; rw [if_pos hc], ?_⟩
      unfold zeroS
      simp only
      rw [if_pos hc]
    · refine ⟨(pos B t, true), by simp only [Option.bind_some]; rw [if_neg hc], ?_⟩
      unfold zeroS
      simp only
      rw [if_neg hc]
      trivial
theorem nought_bad (B : List Int) (p : Int) : code_place_nought.f B p true = some (p, true) := by
  unfold code_place_nought.f
  rw [next_bad]
  simp only [Option.bind_some]
  rw [if_neg (by decide)]
theorem rest_says {B : List Int} (hB : Bytes B) (rec : List Int → Option (List S45 × Int × List Int)) (d : Nat) (hd : d ≤ 40) (op : Int) (s : List Int) (hs : s <:+ B)
    (hsuf : ∀ s l e t, rec s = some (l, e, t) → t <:+ s ∧ (e = 11 ∨ e = 5))
    (hrec : d < 40 → ∀ t, t <:+ B → t.length ≤ s.length → Says (fun k => code_place_list.f k B (pos B t) false ((d + 1 : Nat) : Int)) (LQ B [] (rec t))) :
    Says (fun k => code_place_list.q.f k B (pos B s) false op (d : Int)) (RQ B (restS rec (decide (d < 40)) op s)) := by
  refine Says.step (fun k => by rw [code_place_list.q.f]) (Says.bd (shape_ev op) ?_)
  unfold restS
  have h4 : shp op = 3 ↔ op = 4 := by
    constructor
    · intro h
      unfold shp at h
      repeat' split at h
      all_goals first | assumption | (exact absurd h (by decide))
    · rintro rfl
      decide
  revert h4
  generalize shp op = sh
  intro h4
  simp only
  by_cases h1 : sh = 1
  · rw [if_pos h1]
    exact Says.ifp h1 (Says.now _ (by rfl))
  rw [if_neg h1]
  refine Says.ifn h1 ?_
  by_cases hb : sh = 2 ∨ sh = 3
  · rw [if_pos hb]
    have main : Says (fun k => code_place_list.q.j0 k op (d : Int) sh true B (pos B s) false op 0 0 0 0 0) (RQ B (blockS rec (decide (d < 40)) op s)) := by
      refine Says.step (fun k => by rw [code_place_list.q.j0]) (Says.ifp rfl ?_)
      cases s with
      | nil =>
        refine Says.val (next_nil B) (Says.val (typ_val _) ?_)
        refine Says.ifn (by simp [T]) ?_
        refine Says.step (fun k => by rw [code_place_list.q.j1]) (Says.ifp rfl (Says.now _ (by rfl)))
      | cons ty t =>
        refine Says.val (next_cons hB hs) (Says.val (typ_val _) ?_)
        unfold blockS
        simp only
        by_cases hT : T ty
        · refine Says.ifp (decide_eq_true hT) ?_
          by_cases hdd : d < 40
          · rw [if_pos ⟨hT, decide_eq_true hdd⟩, show ((d : Int) == 40) = false from by rw [beqd]; exact decide_eq_false (by omega)]
            refine Says.step (fun k => by rw [code_place_list.q.j1]) (Says.ifn (by decide) ?_)
            rw [w64 (x := (d : Int) + 1) (by omega) (by omega), show (d : Int) + 1 = ((d + 1 : Nat) : Int) from by omega]
            refine Says.bdS (hrec hdd t (suf_tail hs) (by simp)) ?_
            intro a
            rcases hr : rec t with _ | ⟨b, e, u⟩
            · intro ha
              obtain ⟨ha, hb⟩ := (show a.2.1 = -1 ∧ a.2.2.2 = true from ha)
              rw [ha, hb]
              exact Says.ifn (by decide) (Says.ifp rfl (Says.now _ (by rfl)))
            · intro ha
              change a = _ at ha
              subst ha
              simp only [List.nil_append]
              obtain ⟨hu, he⟩ := hsuf t b e u hr
              by_cases he5 : e = 5
              · subst he5
                refine Says.ifp rfl ?_
                by_cases ho : op = 4
                · rw [if_pos (show (5 : Int) = 5 ∧ op = 4 from ⟨rfl, ho⟩)]
                  refine Says.ifp ho ?_
                  refine Says.bdS (hrec hdd u (hu.trans (suf_tail hs)) (by have := hu.length_le; rw [List.length_cons]; omega)) ?_
                  intro a2
                  rcases hr2 : rec u with _ | ⟨b2, e2, w⟩
                  · intro ha
                    obtain ⟨ha, hb⟩ := (show a2.2.1 = -1 ∧ a2.2.2.2 = true from ha)
                    rw [hb]
                    exact Says.ifp rfl (Says.now _ (by rfl))
                  · intro ha
                    change a2 = _ at ha
                    subst ha
                    simp only [List.nil_append]
                    refine Says.ifn (by decide) ?_
                    by_cases h11 : e2 = 11
                    · rw [if_pos h11, h11]
                      exact Says.now _ (by rfl)
                    · rw [if_neg h11]
                      exact Says.now _ (show (e2 != 11) = true from bne_iff_ne.2 h11)
                · rw [if_neg (show ¬ ((5 : Int) = 5 ∧ op = 4) from fun h => ho h.2), if_neg (show ¬ (5 : Int) = 11 by decide)]
                  exact Says.ifn ho (Says.ifn (by decide) (Says.now _ (by rfl)))
              · refine Says.ifn he5 (Says.ifn (by decide) ?_)
                rw [if_neg (show ¬ (e = 5 ∧ op = 4) from fun h => he5 h.1)]
                have h11 : e = 11 := by omega
                rw [if_pos h11, h11]
                exact Says.now _ (by rfl)
          · rw [if_neg (by rintro ⟨_, h⟩; exact hdd (of_decide_eq_true h)), show ((d : Int) == 40) = true from by rw [beqd]; exact decide_eq_true (by omega)]
            refine Says.step (fun k => by rw [code_place_list.q.j1]) (Says.ifp rfl (Says.now _ (by rfl)))
        · refine Says.ifn (by rw [decide_eq_false hT]; decide) ?_
          rw [if_neg (fun h => hT h.1)]
          refine Says.step (fun k => by rw [code_place_list.q.j1]) (Says.ifp rfl (Says.now _ (by rfl)))
    by_cases h2 : sh = 2
    · subst h2
      exact Says.ifp rfl main
    · refine Says.ifn h2 ?_
      rw [show (sh == 3) = true from by rw [beqd]; exact decide_eq_true (by omega)]
      exact main
  rw [if_neg hb]
  refine Says.ifn (fun h => hb (.inl h)) ?_
  rw [show (sh == 3) = false from by rw [beqd]; exact decide_eq_false (fun h => hb (.inr h))]
  refine Says.step (fun k => by rw [code_place_list.q.j0]) (Says.ifn (by decide) ?_)
  by_cases h4' : sh = 4
  · rw [if_pos h4']
    refine Says.ifp h4' (Says.bdS (number_says hB hs) ?_)
    intro a
    rcases hv : numS s with _ | ⟨v, t⟩
    · intro ha
      exact Says.now _ ha
    · intro ha
      change a = _ at ha
      subst ha
      exact Says.now _ (by rfl)
  rw [if_neg h4']
  refine Says.ifn h4' ?_
  by_cases h5 : sh = 5
  · rw [if_pos h5]
    refine Says.ifp h5 (Says.bdS (labels_says hB hs) ?_)
    intro a
    rcases hv : numS s with _ | ⟨n, t⟩
    · intro ha
      change a.2.2 = true at ha
      rw [ha]
      simp only [number_bad, Option.bind_some]
      exact Says.now _ (by rfl)
    · simp only
      rcases hl : labS n.toNat t with _ | ⟨l, u⟩
      · intro ha
        change a.2.2 = true at ha
        rw [ha]
        simp only [number_bad, Option.bind_some]
        exact Says.now _ (by rfl)
      · intro ha
        change a = _ at ha
        subst ha
        simp only [List.nil_append]
        refine Says.bdS (number_says hB ((labS_suf _ hl).trans ((numS_suf hv).trans hs))) ?_
        intro a
        rcases hv2 : numS u with _ | ⟨v, w⟩
        · intro ha
          exact Says.now _ ha
        · intro ha
          change a = _ at ha
          subst ha
          exact Says.now _ (by rfl)
  rw [if_neg h5]
  refine Says.ifn h5 ?_
  by_cases h6 : sh = 6
  · rw [if_pos h6]
    refine Says.ifp h6 (Says.bdS (number_says hB hs) ?_)
    intro a
    rcases hv : numS s with _ | ⟨v, t⟩
    · intro ha
      change a.2.2 = true at ha
      rw [ha]
      exact Says.val (nought_bad _ _) (Says.now _ (by rfl))
    · intro ha
      change a = _ at ha
      subst ha
      simp only
      obtain ⟨z, hz, hq⟩ := nought_says hB ((numS_suf hv).trans hs)
      refine Says.val hz ?_
      revert hq
      rcases hzs : zeroS t with _ | u
      · intro hq
        exact Says.now _ hq
      · intro hq
        change z = _ at hq
        subst hq
        exact Says.now _ (by rfl)
  rw [if_neg h6]
  refine Says.ifn h6 ?_
  by_cases h7 : sh = 7
  · rw [if_pos h7]
    refine Says.ifp h7 (Says.bdS (number_says hB hs) ?_)
    intro a
    rcases hv : numS s with _ | ⟨v, t⟩
    · intro ha
      change a.2.2 = true at ha
      rw [ha]
      simp only [number_bad, Option.bind_some]
      exact Says.now _ (by rfl)
    · intro ha
      change a = _ at ha
      subst ha
      simp only
      refine Says.bdS (number_says hB ((numS_suf hv).trans hs)) ?_
      intro a
      rcases hv2 : numS t with _ | ⟨v2, w⟩
      · intro ha
        exact Says.now _ ha
      · intro ha
        change a = _ at ha
        subst ha
        exact Says.now _ (by rfl)
  rw [if_neg h7]
  refine Says.ifn h7 ?_
  by_cases h8 : sh = 8
  · rw [if_pos h8]
    refine Says.ifp h8 ?_
    obtain ⟨z, hz, hq⟩ := nought_says hB hs
    refine Says.val hz ?_
    revert hq
    rcases hzs : zeroS s with _ | u
    · intro hq
      exact Says.now _ hq
    · intro hq
      change z = _ at hq
      subst hq
      exact Says.now _ (by rfl)
  rw [if_neg h8]
  refine Says.ifn h8 ?_
  by_cases h9 : sh = 9
  · rw [if_pos h9]
    refine Says.ifp h9 (Says.bdS (signed_says (.inl ⟨rfl, rfl, rfl⟩) hB hs) ?_)
    intro a
    rcases hv : sigS 32 s with _ | ⟨v, t⟩
    · intro ha
      exact Says.now _ ha
    · intro ha
      change a = _ at ha
      subst ha
      exact Says.now _ (by rfl)
  rw [if_neg h9]
  refine Says.ifn h9 ?_
  by_cases h10 : sh = 10
  · rw [if_pos h10]
    refine Says.ifp h10 (Says.bdS (signed_says (.inr ⟨rfl, rfl, rfl⟩) hB hs) ?_)
    intro a
    rcases hv : sigS 64 s with _ | ⟨v, t⟩
    · intro ha
      exact Says.now _ ha
    · intro ha
      change a = _ at ha
      subst ha
      exact Says.now _ (by rfl)
  rw [if_neg h10]
  exact Says.ifn h10 (Says.now _ (by rfl))

theorem list_says {B : List Int} (hB : Bytes B) : ∀ (f d : Nat), d ≤ 40 → ∀ (s : List Int) (acc : List S45), s <:+ B → s.length < f → acc.length + s.length < 1172812402961 →
    Says (fun k => code_place_list.l0 k (d : Int) acc B (pos B s) false) (LQ B acc (listS f d s))
  | 0, d, hd, s, acc, hs, hf, ha => by omega
  | f + 1, d, hd, s, acc, hs, hf, ha => by
    refine Says.step (fun k => by rw [code_place_list.l0]) ?_
    unfold listS
    cases s with
    | nil =>
      refine Says.val (next_nil B) (Says.ifp rfl (Says.now _ ?_))
      exact ⟨rfl, rfl⟩
    | cons c t =>
      refine Says.val (next_cons hB hs) (Says.ifn (by simp) ?_)
      simp only
      by_cases h11 : c = 11
      · rw [if_pos (.inl h11)]
        refine Says.ifp h11 (Says.now _ ?_)
        change _ = _
        rw [List.append_nil]
      refine Says.ifn h11 ?_
      by_cases h5 : c = 5
      · rw [if_pos (.inr h5)]
        refine Says.ifp h5 (Says.now _ ?_)
        change _ = _
        rw [List.append_nil]
      refine Says.ifn h5 ?_
      rw [if_neg (by omega)]
      rw [List.length_cons] at hf ha
      refine Says.bdS (rest_says hB (listS f (d + 1)) d hd c t (suf_tail hs) (fun s l e t h => ⟨(listS_suf f (d + 1) s l e t h).1, (listS_suf f (d + 1) s l e t h).2.2⟩) ?_) ?_
      · intro hdd u hu hl
        refine Says.step (fun k => by rw [code_place_list.f]) ?_
        exact list_says hB f (d + 1) (by omega) u [] hu (by omega) (by rw [List.length_nil]; omega)
      · intro a
        rcases hr : restS (listS f (d + 1)) (decide (d < 40)) c t with _ | ⟨x, u⟩
        · intro hq
          have hq2 : a.2.2.2.2.2.2.2.2.2.2 = true := hq
          refine Says.ifp (by omega) ?_
          rw [hq2]
          refine Says.step (fun k => by rw [code_place_list.l0]) ?_
          exact Says.val (next_bad _ _) (Says.ifp rfl (Says.now _ ⟨rfl, rfl⟩))
        · intro hq
          have hq2 : a = _ := hq
          subst hq2
          obtain ⟨f0, f1, f2, f3, f4, f5, f6, f7, f8⟩ := x
          have hu := restS_suf (fun s l e t h => (listS_suf f (d + 1) s l e t h).1) hr
          have hul := hu.length_le
          refine Says.ifp (by omega) ?_
          refine (list_says hB f d hd u (acc ++ [⟨f0, f1, f2, f3, f4, f5, f6, f7, f8⟩]) (hu.trans (suf_tail hs)) (by omega) (by rw [List.length_append, List.length_singleton]; omega)).mono ?_
          intro b
          simp only
          rcases hl : listS f d u with _ | ⟨l, e, w⟩
          · exact id
          · intro hb
            have hb2 : b = _ := hb
            subst hb2
            change _ = _
            rw [List.append_assoc]
            rfl
/-- An expression: its instructions, and what is left behind them. -/
def decS (s : List Int) : Option (List S45 × List Int) := match listS (s.length + 1) 0 s with
  | some (l, e, t) => if e = 11 then some (l, t) else none
  | none => none
theorem decode_ev {B : List Int} (hB : Bytes B) (hl : B.length < 1172812402961) : Ev (fun k => code_Decode.f k B) (match decS B with | some (l, t) => (l, pos B t, 0) | none => ([], 0, 100)) := by
  have h : Says (fun k => code_place_list.f k B 0 false 0) (LQ B [] (listS (B.length + 1) 0 B)) := by
    refine Says.step (fun k => by rw [code_place_list.f]) ?_
    have := list_says hB (B.length + 1) 0 (by omega) B [] (List.suffix_refl _) (by omega) (by rw [List.length_nil]; omega)
    rwa [show pos B B = 0 from by unfold pos; omega] at this
  obtain ⟨a, q, e⟩ := h
  unfold decS
  revert q
  rcases listS (B.length + 1) 0 B with _ | ⟨l, x, t⟩
  · rintro ⟨_, q⟩
    refine Ev.bd e ?_
    exact Ev.ifp q (Ev.now _)
  · intro q
    have q2 : a = _ := q
    subst q2
    refine Ev.bd e (Ev.ifn (by simp) ?_)
    simp only [List.nil_append]
    by_cases hx : x = 11
    · simp only [if_pos hx]
      exact Ev.now _
    · simp only [if_neg hx]
      exact Ev.now _
end Go.Proofs.Ytlahigmoljflkaa.Q
