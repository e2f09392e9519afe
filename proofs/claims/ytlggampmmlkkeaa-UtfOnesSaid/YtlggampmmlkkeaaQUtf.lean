/- Text as plain lists: a code point's bytes, and the code point with whose bytes a list begins. -/
import Derived.Test.YtlggampmmlkkeaaPur
namespace Go.Proofs.Ytlggampmmlkkeaa.Q
open Go.RowKit Go.Proofs.YtlggampmmlkkeaaW.PrintWords Go.Proofs.YtlggampmmlkkeaaW.PrintLast Go.Proofs.YtlggampmmlkkeaaW.PrintMore Go.Proofs.YtlggampmmlkkeaaU
set_option linter.unusedVariables false

def May (p : Int) : Prop := 0 ≤ p ∧ p ≤ 1114111 ∧ (p < 55296 ∨ 57343 < p)
instance (p : Int) : Decidable (May p) := by unfold May; infer_instance
def enc (p : Int) : List Int :=
  if p < 128 then [p] else if p < 2048 then [192 + p / 64, 128 + p % 64] else if p < 65536 then [224 + p / 4096, 128 + p / 64 % 64, 128 + p % 64] else [240 + p / 262144, 128 + p / 4096 % 64, 128 + p / 64 % 64, 128 + p % 64]
def cont (x : Int) : Prop := 128 ≤ x ∧ x < 192
instance (p : Int) : Decidable (cont p) := by unfold cont; infer_instance
/-- The code point with whose bytes a list begins, and how many bytes these are. -/
def head : List Int → Option (Int × Nat)
  | [] => none
  | c :: r => if c < 128 then some (c, 1) else if c < 192 then none
    else if c < 224 then (match r with
      | d :: _ => if cont d ∧ 128 ≤ (c - 192) * 64 + (d - 128) then some ((c - 192) * 64 + (d - 128), 2) else none
      | _ => none)
    else if c < 240 then (match r with
      | d :: e :: _ => if cont d ∧ cont e ∧ 2048 ≤ (c - 224) * 4096 + (d - 128) * 64 + (e - 128) ∧ May ((c - 224) * 4096 + (d - 128) * 64 + (e - 128)) then some ((c - 224) * 4096 + (d - 128) * 64 + (e - 128), 3) else none
      | _ => none)
    else if c < 248 then (match r with
      | d :: e :: f :: _ => if cont d ∧ cont e ∧ cont f ∧ 65536 ≤ (c - 240) * 262144 + (d - 128) * 4096 + (e - 128) * 64 + (f - 128) ∧ May ((c - 240) * 262144 + (d - 128) * 4096 + (e - 128) * 64 + (f - 128)) then some ((c - 240) * 262144 + (d - 128) * 4096 + (e - 128) * 64 + (f - 128), 4) else none
      | _ => none)
    else none

theorem enc_length (p : Int) : 1 ≤ (enc p).length ∧ (enc p).length ≤ 4 := by
  unfold enc
  split
  · simp
  · split
    · simp
    · split <;> simp

/-- What begins with a point's bytes is read as it. -/
theorem head_enc {p : Int} (hp : May p) (r : List Int) : head (enc p ++ r) = some (p, (enc p).length) := by
  obtain ⟨h0, h1, h2⟩ := hp
  unfold enc
  by_cases c1 : p < 128
  · rw [if_pos c1]; simp [head, c1]
  · rw [if_neg c1]
    by_cases c2 : p < 2048
    · rw [if_pos c2]
      simp only [List.cons_append, head]
      have e : (192 + p / 64 - 192) * 64 + (128 + p % 64 - 128) = p := by omega
      rw [if_neg (by omega), if_neg (by omega), if_pos (by omega), if_pos (by unfold cont; omega), e]
      rfl
    · rw [if_neg c2]
      by_cases c3 : p < 65536
      · rw [if_pos c3]
        simp only [List.cons_append, head]
        have e : (224 + p / 4096 - 224) * 4096 + (128 + p / 64 % 64 - 128) * 64 + (128 + p % 64 - 128) = p := by omega
        rw [if_neg (by omega), if_neg (by omega), if_neg (by omega), if_pos (by omega), if_pos (by unfold cont May; omega), e]
        rfl
      · rw [if_neg c3]
        simp only [List.cons_append, head]
        have e : (240 + p / 262144 - 240) * 262144 + (128 + p / 4096 % 64 - 128) * 4096 + (128 + p / 64 % 64 - 128) * 64 + (128 + p % 64 - 128) = p := by omega
        rw [if_neg (by omega), if_neg (by omega), if_neg (by omega), if_neg (by omega), if_pos (by omega), if_pos (by unfold cont May; omega), e]
        rfl

/-- What is read begins with just the point's bytes. -/
theorem head_some {b : List Int} (hb : ∀ x ∈ b, 0 ≤ x) {p : Int} {n : Nat} (h : head b = some (p, n)) : May p ∧ n = (enc p).length ∧ b = enc p ++ b.drop n := by
  cases b with
  | nil => simp [head] at h
  | cons c r =>
    have hc := hb c (by simp)
    simp only [head] at h
    split at h
    · simp only [Option.some.injEq, Prod.mk.injEq] at h
      obtain ⟨rfl, rfl⟩ := h
      rename_i h1
      refine ⟨by unfold May; omega, ?_, ?_⟩ <;> simp [enc, h1]
    · split at h
      · cases h
      · split at h
        · split at h
          · split at h
            · simp only [Option.some.injEq, Prod.mk.injEq] at h
              obtain ⟨rfl, rfl⟩ := h
              rename_i h1 h2 h3 _ d r hh
              unfold cont at hh
              refine ⟨by unfold May; omega, ?_, ?_⟩
              · unfold enc; rw [if_neg (by omega), if_pos (by omega)]; rfl
              · unfold enc; rw [if_neg (by omega), if_pos (by omega)]
                simp only [List.cons_append, List.nil_append, List.drop_succ_cons, List.drop_zero, List.cons.injEq, and_true]
                omega
            · cases h
          · cases h
        · split at h
          · split at h
            · split at h
              · simp only [Option.some.injEq, Prod.mk.injEq] at h
                obtain ⟨rfl, rfl⟩ := h
                rename_i h1 h2 h3 h4 _ d e r hh
                have hm := hh.2.2.2
                unfold cont at hh
                refine ⟨hm, ?_, ?_⟩
                · unfold enc; rw [if_neg (by omega), if_neg (by omega), if_pos (by omega)]; rfl
                · unfold enc; rw [if_neg (by omega), if_neg (by omega), if_pos (by omega)]
                  simp only [List.cons_append, List.nil_append, List.drop_succ_cons, List.drop_zero, List.cons.injEq, and_true]
                  omega
              · cases h
            · cases h
          · split at h
            · split at h
              · split at h
                · simp only [Option.some.injEq, Prod.mk.injEq] at h
                  obtain ⟨rfl, rfl⟩ := h
                  rename_i h1 h2 h3 h4 h5 _ d e f r hh
                  have hm := hh.2.2.2.2
                  unfold cont at hh
                  refine ⟨hm, ?_, ?_⟩
                  · unfold enc; rw [if_neg (by omega), if_neg (by omega), if_neg (by omega)]; rfl
                  · unfold enc; rw [if_neg (by omega), if_neg (by omega), if_neg (by omega)]
                    simp only [List.cons_append, List.nil_append, List.drop_succ_cons, List.drop_zero, List.cons.injEq, and_true]
                    omega
                · cases h
              · cases h
            · cases h

/-- The code points of a text of at most so many. -/
def pts : Nat → List Int → Option (List Int)
  | _, [] => some []
  | 0, _ => none
  | d + 1, b => match head b with
    | none => none
    | some (p, n) => (pts d (b.drop n)).map (p :: ·)
def txt (l : List Int) : List Int := l.flatMap enc

theorem pts_txt : ∀ (l : List Int) (d : Nat), l.length ≤ d → (∀ p ∈ l, May p) → pts d (txt l) = some l
  | [], d, _, _ => by cases d <;> rfl
  | p :: l, 0, h, _ => by simp at h
  | p :: l, d + 1, h, hm => by
    have e : txt (p :: l) = enc p ++ txt l := rfl
    have hl := enc_length p
    obtain ⟨c, r, hc⟩ : ∃ c r, enc p ++ txt l = c :: r := by
      cases h' : enc p ++ txt l with
      | nil => simp at h'; rw [h'.1] at hl; simp at hl
      | cons c r => exact ⟨c, r, rfl⟩
    rw [e, hc, pts, ← hc, head_enc (hm p (by simp))]
    · simp only [List.drop_left]
      rw [pts_txt l d (by simpa using h) (fun q hq => hm q (by simp [hq]))]
      rfl
    · intro h; cases h

theorem pts_some : ∀ (d : Nat) (b l : List Int), (∀ x ∈ b, 0 ≤ x) → pts d b = some l → (∀ p ∈ l, May p) ∧ b = txt l
  | d, [], l, _, h => by
    have : l = [] := by cases d <;> simp [pts] at h <;> exact h
    subst this
    exact ⟨by simp, rfl⟩
  | 0, c :: r, l, _, h => by simp [pts] at h
  | d + 1, c :: r, l, hb, h => by
    simp only [pts] at h
    split at h
    · cases h
    · rename_i p n hh
      obtain ⟨l', hl', rfl⟩ := Option.map_eq_some_iff.1 h
      obtain ⟨h1, h2, h3⟩ := head_some hb hh
      obtain ⟨h4, h5⟩ := pts_some d _ l' (fun x hx => hb x (List.mem_of_mem_drop hx)) hl'
      refine ⟨by intro q hq; rcases List.mem_cons.1 hq with rfl | hq; exact h1; exact h4 q hq, ?_⟩
      rw [h3]
      show _ = enc p ++ txt l'
      rw [← h5]

theorem head_le {b : List Int} {p : Int} {n : Nat} (h : head b = some (p, n)) (hb : ∀ x ∈ b, 0 ≤ x) : 1 ≤ n ∧ n ≤ 4 ∧ n ≤ b.length := by
  obtain ⟨h1, h2, h3⟩ := head_some hb h
  have := enc_length p
  have hl : b.length = (enc p ++ b.drop n).length := congrArg List.length h3
  rw [List.length_append] at hl
  omega

theorem enc_range {p : Int} (hp : May p) : ∀ x ∈ enc p, 0 ≤ x ∧ x ≤ 255 := by
  obtain ⟨h0, h1, h2⟩ := hp
  unfold enc
  intro x hx
  split at hx
  · simp at hx; omega
  · split at hx
    · simp at hx; rcases hx with rfl | rfl <;> omega
    · split at hx
      · simp at hx; rcases hx with rfl | rfl | rfl <;> omega
      · simp at hx; rcases hx with rfl | rfl | rfl | rfl <;> omega

end Go.Proofs.Ytlggampmmlkkeaa.Q
