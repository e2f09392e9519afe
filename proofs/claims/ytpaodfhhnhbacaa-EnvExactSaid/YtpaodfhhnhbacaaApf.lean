/- A string's bytes and a row of one byte, made in either order, and appended. -/
import Derived.Test.YtpaodfhhnhbacaaApz
import Derived.Lib.SlBytesConst
namespace Go.Proofs.YtpaodfhhnhbacaaO
open Go.RowKit Go.Proofs.YtpaodfhhnhbacaaW.PrintWords Go.Proofs.YtpaodfhhnhbacaaW.PrintLast Go.Proofs.YtpaodfhhnhbacaaW.PrintMore
set_option linter.unusedVariables false
/-- Both rows lie behind W. -/
structure TwoNew (W : World) (e : TypeId) (str : ByteArray) (b : Int) (g1 cap g2 : Nat) (w' : World) : Prop where
  below : Below W.heap.size W w'
  row : ∃ cs : Array Value, w'.heap[g1]? = some (.cells cs e (cs.size, cs.size + 1)) ∧ cs.size = cap ∧ str.size ≤ cap ∧ ∀ j, j < str.size → cs[j]? = some (.int .u8 ((bytesOf str).getD j 0))
  one : w'.cell? ⟨g2, 0, none⟩ = some (.int .u8 b)
  ne : g1 ≠ g2
  ge : W.heap.size ≤ g1
theorem bytesCells_row (W : World) (e : TypeId) (str : ByteArray) (hz : str.size + 1 ≤ 140737488355328) : (Lib.bytesCells W e str).size = grownCap W str.size 0 e ∧ ∀ j, j < str.size → (Lib.bytesCells W e str)[j]? = some (.int .u8 ((bytesOf str).getD j 0)) := by
  have hge := grownCap_ge W str.size 0 e
  refine ⟨?_, fun j hj => ?_⟩
  · have : str.data.size = str.size := rfl
    simp only [Lib.bytesCells, Array.size_append, Array.size_map, Array.size_replicate, this]
    omega
  · have h1 := (bytes_reads W e str (by omega)).2.2 (by omega)
    obtain ⟨ad, ha, hc⟩ := h1
    injection ha with ha
    subst ha
    have h2 := hc j hj
    rw [add_plain] at h2
    have h3 := Lib.bytesWorld_at_new W e str
    unfold World.cell? at h2
    simp only [h3] at h2
    exact h2
theorem cell_alloc_new (W : World) (e : TypeId) (v : Value) : (W.alloc (.cells #[v] e)).cell? ⟨W.heap.size, 0, none⟩ = some v := by
  have h1 := heap_alloc_new W (.cells #[v] e)
  unfold World.cell?
  simp only [h1]
  rfl
theorem two1 (W : World) (e : TypeId) (str : ByteArray) (b : Int) (hz : str.size + 1 ≤ 140737488355328) : TwoNew W e str b W.heap.size (grownCap W str.size 0 e) (Lib.bytesWorld W e str).heap.size ((Lib.bytesWorld W e str).alloc (.cells #[.int .u8 b] e)) := by
  have hbl := bytes_below (Below.refl W.heap.size W) (Nat.le_refl _) e str
  have hs := Lib.bytesWorld_size W e str
  obtain ⟨h1, h2⟩ := bytesCells_row W e str hz
  refine ⟨hbl.alloc hbl.size _, ⟨Lib.bytesCells W e str, ?_, h1, grownCap_ge W str.size 0 e, h2⟩, cell_alloc_new _ _ _, by omega, Nat.le_refl _⟩
  rw [heap_alloc_old _ _ (by omega)]
  exact Lib.bytesWorld_at_new W e str
theorem two2 (W : World) (e : TypeId) (str : ByteArray) (b : Int) (hz : str.size + 1 ≤ 140737488355328) : TwoNew W e str b (W.alloc (.cells #[.int .u8 b] e)).heap.size (grownCap (W.alloc (.cells #[.int .u8 b] e)) str.size 0 e) W.heap.size (Lib.bytesWorld (W.alloc (.cells #[.int .u8 b] e)) e str) := by
  have hal := (Below.refl W.heap.size W).alloc (Nat.le_refl _) (.cells #[.int .u8 b] e)
  have hsz : (W.alloc (.cells #[.int .u8 b] e)).heap.size = W.heap.size + 1 := by simp [World.alloc, -World.alloc_eq]
  obtain ⟨h1, h2⟩ := bytesCells_row (W.alloc (.cells #[.int .u8 b] e)) e str hz
  refine ⟨bytes_below hal (by omega) e str, ⟨_, Lib.bytesWorld_at_new _ e str, h1, grownCap_ge _ str.size 0 e, h2⟩, ?_, by omega, by omega⟩
  have h3 := cell_alloc_new W e (.int .u8 b)
  have h4 := Lib.bytesWorld_at_old (W.alloc (.cells #[.int .u8 b] e)) e str W.heap.size (by omega)
  unfold World.cell? at h3 ⊢
  simp only [h4]
  exact h3
theorem conv_run {P : Program} {o : Oper} {ev : Operand → Value} {W : World} {x : Operand} {src dst e : TypeId} {str : ByteArray} {u : TypeDesc} (hs : P.underlying src = some u) (hd : P.underlying dst = some (.slice e)) (he : P.underlying e = some (.int .u8)) (ho : o.op = .convert src dst x) (hx : ev x = .string str) :
    (execOp ev o).run P W = .ok (.value (.slice (some ⟨W.heap.size, 0, none⟩) str.size (grownCap W str.size 0 e))) (Lib.bytesWorld W e str) := by
  unfold execOp
  simp only [ho, hx, Sem.run_bind, Sem.run_pure, Lib.run_convert_string_bytes W src dst e str hs hd he, Result.andThen_ok]
/-- The bytes of a constant string: a row that is read. -/
theorem const_event {P : Program} {ops : Array Oper} {Q : Exit → Act → World → Prop} {rest : List Oper} {oi : Oper} {a : Act} {W : World} (hg : oi.guard = none) {N : Tmp} (hd : oi.dst = some N) (t e : TypeId)
    (ht : P.underlying t = some (.slice e)) (he : P.underlying e = some (.int .u8)) {x : Operand} (ho : oi.op = .convert t t x) {C : Array Value} {l : List Int} {n : Nat} (hC : C = (l.map (Value.int .u8)).toArray) (hn : n = l.length) (hz : n ≤ 9223372036854775807) (hx : a.eval x = .slice (some ⟨W.heap.size, 0, none⟩) n n)
    (h : ∀ (A : Option Addr) (c : Nat) (w1 : World), Kd.C (Kd.int .u8) w1 A l.length l → l.length ≤ c → Below W.heap.size W w1 → wpList P ops Q rest (a.put (some N) (.slice A l.length c)) w1) : wpList P ops Q (oi :: rest) a (W.alloc (.cells C e)) := by
  subst hn
  refine wpList_plain hg fun K hK => ?_
  have hr := Lib.run_convert_bytes_const (P := P) W t e C l.length l.length ht he
  have hrun : (execOp a.eval oi).run P (W.alloc (.cells C e)) = .ok (.value (.slice (some ⟨W.heap.size, 0, none⟩) l.length l.length)) (W.alloc (.cells C e (C.size, C.size + 1))) := by
    unfold execOp
    simp only [ho, hx]
    simp [hr, Result.andThen]
  unfold Oper.wp
  rw [hrun, Oper.upon_value, hd]
  refine hK _ _ ?_
  refine h _ _ _ ?_ (Nat.le_refl _) ((Below.refl _ _).alloc (Nat.le_refl _) _)
  refine Kd.C_of_reads (h1 := fun _ => rfl) (d := (0 : Int)) ⟨rfl, hz, fun _ => ⟨_, rfl, fun j hj => ?_⟩⟩
  rw [add_plain]
  have h1 := heap_alloc_new W (.cells C e (C.size, C.size + 1))
  unfold World.cell?
  simp only [h1]
  rw [hC, List.getElem?_toArray, List.getElem?_map, List.getD_eq_getElem?_getD, List.getElem?_eq_getElem hj]
  rfl
/-- append of the one onto the other, in a region that draws. -/
theorem bytes_append_step {P : Program} {ops : Array Oper} {o : Oper} {a : Act} {N : Option Tmp} {Q : Exit → Act → World → Prop} {K : Act → World → Prop} {W W' : World} (hw : Region.wanted o (yielded ops a.tmps) = true) (hN : o.dst = N) (s x : Operand) (t e : TypeId)
    (ho : o.op = .call { callee := .builtin .append, args := #[s, x], argTypes := #[t, t] }) (ht : P.underlying t = some (.slice e)) (hinfo : (P.info? e).map (fun i => (i.zero, i.size, i.bytes)) = some (some (.int .u8 0), 1, 1))
    {str : ByteArray} {b : Int} {g1 cap g2 : Nat} {l : List Int} (hl : l = bytesOf str ++ [b]) (hz : str.size + 1 ≤ 140737488355328) (hT : TwoNew W e str b g1 cap g2 W')
    (hs : a.eval s = .slice (some ⟨g1, 0, none⟩) str.size cap) (hx : a.eval x = .slice (some ⟨g2, 0, none⟩) 1 1)
    (h : ∀ (A : Option Addr) (c : Nat) (w1 : World), (∀ W2 : World, (∀ k, W.heap.size ≤ k → k < w1.heap.size → W2.heap[k]? = w1.heap[k]?) → Kd.C (Kd.int .u8) W2 A l.length l) → l.length ≤ c → Below W.heap.size W w1 → K (a.put N (.slice A l.length c)) w1) :
    if Region.wanted o (yielded ops a.tmps) = true then Oper.wp P o a W' K Q else K (a.put N undef) W' := by
  obtain ⟨i, hi, hi2⟩ := Option.map_eq_some_iff.1 hinfo
  injection hi2 with hz0 hi2
  injection hi2 with hsz hby
  obtain ⟨hal, ⟨cs, hblk, hcs, hcap, hcl⟩, hone, hne, hge⟩ := hT
  have hlen0 : (bytesOf str).length = str.size := (bytes_reads W e str (by omega)).1
  have hlen : l.length = str.size + 1 := by rw [hl, List.length_append, hlen0]; rfl
  have hcells : ∀ j, j < str.size → W'.cell? ⟨g1, j, none⟩ = some (.int .u8 ((bytesOf str).getD j 0)) := by
    intro j hj
    unfold World.cell?
    simp only [hblk]
    exact hcl j hj
  have fin : ∀ g c w1, (Builtin.append_ #[t, t] o.type #[.slice (some ⟨g1, 0, none⟩) str.size cap, .slice (some ⟨g2, 0, none⟩) 1 1]).run P W' = .ok (.slice (some ⟨g, 0, none⟩) (str.size + 1) c) w1 → W.heap.size ≤ g →
      (∀ j, j < str.size + 1 → w1.cell? ⟨g, j, none⟩ = some (.int .u8 (l.getD j 0))) → str.size + 1 ≤ c → Below W.heap.size W w1 → if Region.wanted o (yielded ops a.tmps) = true then Oper.wp P o a W' K Q else K (a.put N undef) W' := by
    intro g c w1 hr hge hc hle hb
    refine value_ (w1 := w1) (v := .slice (some ⟨g, 0, none⟩) (str.size + 1) c) hw hN ?_ ?_
    · unfold execOp
      simp only [ho, resolve, invoke, builtin, Sem.run_bind, Sem.run_pure, Result.andThen_ok, List.map_toArray, List.map_cons, List.map_nil, hs, hx, hr]
    have := h (some ⟨g, 0, none⟩) c w1 ?_ (by omega) hb
    · rw [hlen] at this
      exact this
    · intro W2 hW
      have hlt : g < w1.heap.size := World.block_lt_of_cell? _ _ (hc 0 (by omega))
      refine Kd.C_of_reads (h1 := fun _ => rfl) (d := (0 : Int)) ⟨rfl, by omega, fun _ => ⟨_, rfl, fun j hj => ?_⟩⟩
      have h2 := hc j (by omega)
      rw [add_plain]
      unfold World.cell? at h2 ⊢
      simp only [hW g hge hlt]
      exact h2
  have hget : ∀ j, j < str.size → l.getD j 0 = (bytesOf str).getD j 0 := by
    intro j hj
    rw [hl, List.getD_eq_getElem?_getD, List.getD_eq_getElem?_getD, List.getElem?_append_left (by omega)]
  have hlast : l.getD str.size 0 = b := by
    rw [hl, List.getD_eq_getElem?_getD, List.getElem?_append_right (by omega), hlen0, Nat.sub_self]
    rfl
  have hnews : ∀ j u, [Value.int .u8 b][j]? = some u → W'.cell? ((⟨g2, 0, none⟩ : Addr).add j) = some u := by
    intro j u hu
    cases j with
    | zero =>
      injection hu with hu
      subst hu
      rw [add_plain]
      exact hone
    | succ j => simp at hu
  by_cases hroom : str.size + 1 ≤ cap
  · have hf := run_firstCells_some (P := P) W' 1 1 ⟨g2, 0, none⟩ 1 1 [.int .u8 b] rfl hnews
    have hcell : W'.cell? ⟨g1, str.size, none⟩ = some (cs[str.size]'(by omega)) := by
      have : str.size < cs.size := by omega
      simp [World.cell?, hblk, this]
    have hfro : W'.frozen? ⟨g1, str.size, none⟩ = false := by
      simp only [World.frozen?, hblk, Bool.and_eq_false_iff, decide_eq_false_iff_not]
      left
      omega
    have hst : (storeCells ⟨g1, str.size, none⟩ [.int .u8 b]).run P W' = .ok () (W'.setCell ⟨g1, str.size, none⟩ (.int .u8 b)) := by
      simp only [storeCells, Sem.run_bind]
      rw [show (⟨g1, str.size, none⟩ : Addr).add 0 = ⟨g1, str.size, none⟩ from by simp [Addr.add]]
      rw [run_store P _ _ _ _ rfl, hcell]
      simp [hfro]
    refine fin g1 cap _ ?_ hge ?_ hroom (Below.setCell hal (p := ⟨g1, str.size, none⟩) hge (.int .u8 b))
    · simp [Builtin.append_, run_underlying ht, sizeOf, typeInfo, hi, hsz, Builtin.lenOf, hroom, hf, Addr.add_lit, hst]
    · intro j hj
      by_cases hjs : j < str.size
      · rw [hget j hjs, ← hcells j hjs]
        apply World.cell?_setCell_other
        intro he
        injection he with _ he2 _
        omega
      · rw [show j = str.size by omega, hlast]
        exact World.cell?_setCell_same _ _ _ hcell
  · have holds : ∀ j u, ((bytesOf str).map (Value.int .u8))[j]? = some u → W'.cell? ((⟨g1, 0, none⟩ : Addr).add j) = some u := by
      intro j u hu
      rw [List.getElem?_map] at hu
      obtain ⟨y, hy, rfl⟩ := Option.map_eq_some_iff.1 hu
      have hj : j < str.size := by
        obtain ⟨hj, _⟩ := List.getElem?_eq_some_iff.1 hy
        omega
      rw [add_plain, hcells j hj, List.getD_eq_getElem?_getD, hy]
      rfl
    have hr := run_append_grow (P := P) W' t o.type e i (.int .u8 0) ht hi hz0 ⟨g1, 0, none⟩ str.size cap ((bytesOf str).map (Value.int .u8)) (by rw [List.length_map, hlen0, hsz, Nat.mul_one]) holds ⟨g2, 0, none⟩ 1 1 [.int .u8 b] (by rw [hsz]; rfl) hnews (by omega) (by omega) (by rw [hby]; exact growslice_fits (by omega) (by omega))
    refine fin _ _ _ hr hal.size ?_ (grownCap_ge _ _ _ _) ?_
    · intro j hj
      have h1 := heap_alloc_new (W'.drew) (.cells (((bytesOf str).map (Value.int .u8)).toArray ++ [Value.int .u8 b].toArray ++ Builtin.zeroCells (Value.int .u8 0).cells (grownCap W' (str.size + 1) cap e - (str.size + 1))) e)
      unfold World.cell?
      simp only at h1 ⊢
      rw [show W'.drew.heap.size = W'.heap.size from rfl] at h1
      rw [h1]
      simp only
      have e2 : ((bytesOf str).map (Value.int .u8)).toArray ++ [Value.int .u8 b].toArray = (l.map (Value.int .u8)).toArray := by rw [hl]; simp
      have hjl : j < l.length := by omega
      rw [e2, Array.getElem?_append_left (by rw [List.size_toArray, List.length_map]; exact hjl), List.getElem?_toArray, List.getElem?_map, List.getD_eq_getElem?_getD, List.getElem?_eq_getElem hjl]
      rfl
    · exact Below.alloc (below_drew hal) (by have := hal.size; exact this) _
end Go.Proofs.YtpaodfhhnhbacaaO
