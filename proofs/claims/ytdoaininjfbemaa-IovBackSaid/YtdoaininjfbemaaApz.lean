/- What a string's bytes with one more behind them are. -/
import Derived.Test.YtdoaininjfbemaaOwn
import Derived.Lib.ConvBytes
import Derived.Lib.FrozenHead2
namespace Go.Proofs.YtdoaininjfbemaaO
open Go.RowKit Go.Proofs.YtdoaininjfbemaaW.PrintWords Go.Proofs.YtdoaininjfbemaaW.PrintLast Go.Proofs.YtdoaininjfbemaaW.PrintMore
set_option linter.unusedVariables false
/-- append([]byte(s), b): a row that is read; whatever was there stays. -/
theorem bytes_append {P : Program} {ops : Array Oper} {rest : List Oper} {o : Oper} {a : Act} {Q : Exit → Act → World → Prop} {W : World} (hgd : o.guard = none) (s x : Operand) (t e : TypeId)
    (ho : o.op = .call { callee := .builtin .append, args := #[s, x], argTypes := #[t, t] }) (ht : P.underlying t = some (.slice e)) (hinfo : (P.info? e).map (fun i => (i.zero, i.size, i.bytes)) = some (some (.int .u8 0), 1, 1))
    {str : ByteArray} {b : Int} {l : List Int} (hl : l = bytesOf str ++ [b]) (hz : str.size + 1 ≤ 140737488355328)
    (hs : a.eval s = .slice (some ⟨W.heap.size, 0, none⟩) str.size (grownCap W str.size 0 e)) (hx : a.eval x = .slice (some ⟨(Lib.bytesWorld W e str).heap.size, 0, none⟩) 1 1)
    (h : ∀ (A : Option Addr) (c : Nat) (w1 : World), (∀ W2 : World, (∀ k, W.heap.size ≤ k → k < w1.heap.size → W2.heap[k]? = w1.heap[k]?) → Kd.C (Kd.int .u8) W2 A l.length l) → l.length ≤ c → Below W.heap.size W w1 → wpList P ops Q rest (a.put o.dst (.slice A l.length c)) w1) :
    wpList P ops Q (o :: rest) a ((Lib.bytesWorld W e str).alloc (.cells #[.int .u8 b] e)) := by
  obtain ⟨i, hi, hi2⟩ := Option.map_eq_some_iff.1 hinfo
  injection hi2 with hz0 hi2
  injection hi2 with hsz hby
  have hbl := bytes_below (Below.refl W.heap.size W) (Nat.le_refl _) e str
  have hal : Below W.heap.size W ((Lib.bytesWorld W e str).alloc (.cells #[.int .u8 b] e)) := hbl.alloc hbl.size _
  have hlen0 : (bytesOf str).length = str.size := (bytes_reads W e str (by omega)).1
  have hlen : l.length = str.size + 1 := by rw [hl, List.length_append, hlen0]; rfl
  have hsw : (Lib.bytesWorld W e str).heap.size = W.heap.size + 1 := Lib.bytesWorld_size W e str
  have hge := grownCap_ge W str.size 0 e
  have hcells : ∀ j, j < str.size → ((Lib.bytesWorld W e str).alloc (.cells #[.int .u8 b] e)).cell? ⟨W.heap.size, j, none⟩ = some (.int .u8 ((bytesOf str).getD j 0)) := by
    intro j hj
    have h1 := (bytes_reads W e str (by omega)).2.2 (by omega)
    obtain ⟨ad, ha, hc⟩ := h1
    injection ha with ha
    subst ha
    have h2 := hc j hj
    rw [add_plain] at h2
    exact (World.cell?_alloc_lt _ _ _ (World.block_lt_of_cell? _ _ h2)).trans h2
  have hnew : ((Lib.bytesWorld W e str).alloc (.cells #[.int .u8 b] e)).cell? ⟨(Lib.bytesWorld W e str).heap.size, 0, none⟩ = some (.int .u8 b) := by
    have h1 := heap_alloc_new (Lib.bytesWorld W e str) (.cells #[.int .u8 b] e)
    unfold World.cell?
    simp only [h1]
    rfl
  have fin : ∀ g c w1, (Builtin.append_ #[t, t] o.type #[.slice (some ⟨W.heap.size, 0, none⟩) str.size (grownCap W str.size 0 e), .slice (some ⟨(Lib.bytesWorld W e str).heap.size, 0, none⟩) 1 1]).run P ((Lib.bytesWorld W e str).alloc (.cells #[.int .u8 b] e)) = .ok (.slice (some ⟨g, 0, none⟩) (str.size + 1) c) w1 → W.heap.size ≤ g →
      (∀ j, j < str.size + 1 → w1.cell? ⟨g, j, none⟩ = some (.int .u8 (l.getD j 0))) → str.size + 1 ≤ c → Below W.heap.size W w1 → wpList P ops Q (o :: rest) a ((Lib.bytesWorld W e str).alloc (.cells #[.int .u8 b] e)) := by
    intro g c w1 hr hge hc hle hb
    refine wpList_plain hgd fun K hK => ?_
    unfold Oper.wp execOp
    simp only [ho, resolve, invoke, builtin, Sem.run_bind, Sem.run_pure, Result.andThen_ok, List.map_toArray, List.map_cons, List.map_nil, hs, hx, hr]
    have := h (some ⟨g, 0, none⟩) c w1 ?_ (by omega) hb
    · rw [hlen] at this
      exact hK _ _ this
    · intro W2 hW
      have hlt : g < w1.heap.size := World.block_lt_of_cell? _ _ (hc 0 (by omega))
      refine Kd.C_of_reads (h1 := fun _ => rfl) (d := (0 : Int)) ⟨rfl, by omega, fun _ => ⟨_, rfl, fun j hj => ?_⟩⟩
      have h2 := hc j (by omega)
      rw [add_plain]
      unfold World.cell? at h2 ⊢
      simp only [hW g hge hlt]
      exact h2
  have hget : ∀ j, j < str.size → l.getD j 0 = (bytesOf str).getD j 0 := by
    intro j hj
    rw [hl, List.getD_eq_getElem?_getD, List.getD_eq_getElem?_getD, List.getElem?_append_left (by omega)]
  have hlast : l.getD str.size 0 = b := by
    rw [hl, List.getD_eq_getElem?_getD, List.getElem?_append_right (by omega), hlen0, Nat.sub_self]
    rfl
  have hnews : ∀ j u, [Value.int .u8 b][j]? = some u → ((Lib.bytesWorld W e str).alloc (.cells #[.int .u8 b] e)).cell? ((⟨(Lib.bytesWorld W e str).heap.size, 0, none⟩ : Addr).add j) = some u := by
    intro j u hu
    cases j with
    | zero =>
      injection hu with hu
      subst hu
      rw [add_plain]
      exact hnew
    | succ j => simp at hu
  by_cases hroom : str.size + 1 ≤ grownCap W str.size 0 e
  · have hf := run_firstCells_some (P := P) ((Lib.bytesWorld W e str).alloc (.cells #[.int .u8 b] e)) 1 1 ⟨(Lib.bytesWorld W e str).heap.size, 0, none⟩ 1 1 [.int .u8 b] rfl hnews
    have hblk : ((Lib.bytesWorld W e str).alloc (.cells #[.int .u8 b] e)).heap[W.heap.size]? = some (.cells (Lib.bytesCells W e str) e ((Lib.bytesCells W e str).size, (Lib.bytesCells W e str).size + 1)) := by
      rw [heap_alloc_old _ _ (by omega)]
      exact Lib.bytesWorld_at_new W e str
    have hbs : (Lib.bytesCells W e str).size = grownCap W str.size 0 e := by
      have : str.data.size = str.size := rfl
      simp only [Lib.bytesCells, Array.size_append, Array.size_map, Array.size_replicate, this]
      omega
    have hcell : ((Lib.bytesWorld W e str).alloc (.cells #[.int .u8 b] e)).cell? ⟨W.heap.size, str.size, none⟩ = some ((Lib.bytesCells W e str)[str.size]'(by omega)) := by
      have : str.size < (Lib.bytesCells W e str).size := by omega
      simp [World.cell?, hblk, this]
    have hfro : ((Lib.bytesWorld W e str).alloc (.cells #[.int .u8 b] e)).frozen? ⟨W.heap.size, str.size, none⟩ = false := by
      simp only [World.frozen?, hblk, Bool.and_eq_false_iff, decide_eq_false_iff_not]
      left
      omega
    have hst : (storeCells ⟨W.heap.size, str.size, none⟩ [.int .u8 b]).run P ((Lib.bytesWorld W e str).alloc (.cells #[.int .u8 b] e)) = .ok () (((Lib.bytesWorld W e str).alloc (.cells #[.int .u8 b] e)).setCell ⟨W.heap.size, str.size, none⟩ (.int .u8 b)) := by
      simp only [storeCells, Sem.run_bind]
      rw [show (⟨W.heap.size, str.size, none⟩ : Addr).add 0 = ⟨W.heap.size, str.size, none⟩ from by simp [Addr.add]]
      rw [run_store P _ _ _ _ rfl, hcell]
      simp [hfro]
    refine fin W.heap.size (grownCap W str.size 0 e) _ ?_ (Nat.le_refl _) ?_ hroom (Below.setCell hal (p := ⟨W.heap.size, str.size, none⟩) (Nat.le_refl _) (.int .u8 b))
    · simp [Builtin.append_, run_underlying ht, sizeOf, typeInfo, hi, hsz, Builtin.lenOf, hroom, hf, Addr.add_lit, hst]
    · intro j hj
      by_cases hjs : j < str.size
      · rw [hget j hjs, ← hcells j hjs]
        apply World.cell?_setCell_other
        intro he
        injection he with _ he2 _
        omega
      · rw [show j = str.size by omega, hlast]
        exact World.cell?_setCell_same _ _ _ hcell
  · have holds : ∀ j u, ((bytesOf str).map (Value.int .u8))[j]? = some u → ((Lib.bytesWorld W e str).alloc (.cells #[.int .u8 b] e)).cell? ((⟨W.heap.size, 0, none⟩ : Addr).add j) = some u := by
      intro j u hu
      rw [List.getElem?_map] at hu
      obtain ⟨y, hy, rfl⟩ := Option.map_eq_some_iff.1 hu
      have hj : j < str.size := by
        obtain ⟨hj, _⟩ := List.getElem?_eq_some_iff.1 hy
        omega
      rw [add_plain, hcells j hj, List.getD_eq_getElem?_getD, hy]
      rfl
    have hr := run_append_grow (P := P) ((Lib.bytesWorld W e str).alloc (.cells #[.int .u8 b] e)) t o.type e i (.int .u8 0) ht hi hz0 ⟨W.heap.size, 0, none⟩ str.size (grownCap W str.size 0 e) ((bytesOf str).map (Value.int .u8)) (by rw [List.length_map, hlen0, hsz, Nat.mul_one]) holds ⟨(Lib.bytesWorld W e str).heap.size, 0, none⟩ 1 1 [.int .u8 b] (by rw [hsz]; rfl) hnews (by omega) (by omega) (by rw [hby]; exact growslice_fits (by omega) (by omega))
    refine fin _ _ _ hr hal.size ?_ (grownCap_ge _ _ _ _) ?_
    · intro j hj
      have h1 := heap_alloc_new (((Lib.bytesWorld W e str).alloc (.cells #[.int .u8 b] e)).drew) (.cells (((bytesOf str).map (Value.int .u8)).toArray ++ [Value.int .u8 b].toArray ++ Builtin.zeroCells (Value.int .u8 0).cells (grownCap ((Lib.bytesWorld W e str).alloc (.cells #[.int .u8 b] e)) (str.size + 1) (grownCap W str.size 0 e) e - (str.size + 1))) e)
      unfold World.cell?
      simp only at h1 ⊢
      rw [show ((Lib.bytesWorld W e str).alloc (.cells #[.int .u8 b] e)).drew.heap.size = ((Lib.bytesWorld W e str).alloc (.cells #[.int .u8 b] e)).heap.size from rfl] at h1
      rw [h1]
      simp only
      have e2 : ((bytesOf str).map (Value.int .u8)).toArray ++ [Value.int .u8 b].toArray = (l.map (Value.int .u8)).toArray := by rw [hl]; simp
      have hjl : j < l.length := by omega
      rw [e2, Array.getElem?_append_left (by rw [List.size_toArray, List.length_map]; exact hjl), List.getElem?_toArray, List.getElem?_map, List.getD_eq_getElem?_getD, List.getElem?_eq_getElem hjl]
      rfl
    · exact Below.alloc (below_drew hal) (by have := hal.size; exact this) _
/-- A call through a method value, in a region that draws. -/
theorem goesRM_ {P : Program} {ops : Array Oper} {Q : Exit → Act → World → Prop} {oi : Oper} {N : Option Tmp} {a : Act} {w : World} {K : Act → World → Prop} {f : FuncId} {fn : Func} {F : Operand} {first cap : Array Value} {as : Array Operand} {ts : Array TypeId} (hf : P.funcs[f]? = some fn) (hname : (fn.name == "runtime.NumGoroutine") = false) (hb : fn.body.isSome = true) (args : Array Value)
    (hw : Region.wanted oi (yielded ops a.tmps) = true) (hN : oi.dst = N) (hop : oi.op = .call { callee := .value F, args := as, argTypes := ts }) (hF : a.eval F = .func (.func f) first cap) (hargs : first ++ as.map a.eval ++ cap = args)
    (h : Calls P f args w fun e w' => ∃ v, e = .returned v ∧ K (a.put N v) w') : if Region.wanted oi (yielded ops a.tmps) = true then Oper.wp P oi a w K Q else K (a.put N undef) w := by
  refine call_ f args hw hN ?_ h
  have he := enters_ hf hname hb args w
  unfold execOp
  simp [hop, resolve, Deferred.ofValue, invoke, hF, hargs, he]
end Go.Proofs.YtdoaininjfbemaaO
