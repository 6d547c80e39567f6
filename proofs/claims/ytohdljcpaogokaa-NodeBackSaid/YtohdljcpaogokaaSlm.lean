/-
  Maps whose keys are integers of one kind, as steps of a walk over separation lists: made, an entry put, looked up. Conditions: none; plain lemmas over any program.
-/
import Derived.Test.YtohdljcpaogokaaSlh
import Derived.MapKept
namespace Go.SL
section
variable {P : Program} {ops : Array Oper} {rest : List Oper} {o : Oper} {a : Act} {Q : Exit → Act → World → Prop} {w : World} {l : List HProp}

abbrev mEnt (k v : Value) (b : Nat) : MapEntry := { key := k, val := v, born := b }
/-- an empty map is made -/
theorem wpl_makeMap (hE : Ent l w) {t : TypeId} (ho : o.op = .makeMap t none) (hw : Region.wanted o (yielded ops a.tmps) = true)
    (h : ∀ r w', Ent (pt r (.map #[] 0) :: l) w' → wpList P ops Q rest (a.put o.dst (.map (some r))) w') : wpList P ops Q (o :: rest) a w := by
  refine wpl_run hw (w' := w.alloc (.map #[] 0)) (v := .map (some w.heap.size)) ?_ (h _ _ (hE.alloc _))
  simp [execOp, ho, Instr.makeMap, newObj, Sem.run]

theorem Ent.setMap (hE : Ent l w) (i : Nat) {r : Nat} {ob ob' : Obj} (hi : l[i]? = some (pt r ob)) : Ent (l.set i (pt r ob')) { w with heap := w.heap.setIfInBounds r ob' } := by
  refine hE.turn i hi ⟨rfl, rfl, rfl⟩ (by simp) ?_ (fun k _ hk => ?_)
  · have := hE.size i hi
    simp [this]
  · simp [Array.getElem?_setIfInBounds, Ne.symm hk]

/-- an entry with a new key is put -/
theorem wpl_insert (hE : Ent l w) (i : Nat) {r : Nat} {es : List MapEntry} {clock : Nat} (hi : l[i]? = some (pt r (.map es.toArray clock)))
    {t kt et : TypeId} {x y z : Operand} (ho : o.op = .insert t x y z) (hw : Region.wanted o (yielded ops a.tmps) = true) (hx : a.eval x = .map (some r)) {ik : IntKind} {n : Int} (hy : a.eval y = .int ik n) {v : Value} (hz : a.eval z = v)
    (ht : P.underlying t = some (.map kt et)) (hk : P.underlying kt = some (.int ik)) (hnew : Instr.findNow (.int ik) (.int ik n) es 0 = some none)
    (h : ∀ w', Ent (l.set i (pt r (.map (es ++ [mEnt (.int ik n) v clock]).toArray (clock + 1)))) w' → wpList P ops Q rest (a.put o.dst undef) w') : wpList P ops Q (o :: rest) a w := by
  have hb := hE.at i hi
  have hc : ∀ m, (Instr.checkKey false (m + 1) kt (.int ik n)).run P w = .ok () w := fun m => by
    unfold Instr.checkKey
    simp [run_underlying hk]
  have hf : (Instr.findKey kt (.int ik n) es).run P w = .ok none w := by
    unfold Instr.findKey
    simp [run_underlying hk, hnew]
  refine wpl_run_skip hw (w' := { w with heap := w.heap.setIfInBounds r (.map (es ++ [mEnt (.int ik n) v clock]).toArray (clock + 1)) }) ?_ (h _ (hE.setMap i hi))
  have hg := MapKept.run_getObj_map (P := P) hb
  have hs := MapKept.run_setObj_map (P := P) (.map (es.toArray.push (mEnt (.int ik n) v clock)) (clock + 1)) hb
  have e : es.toArray.push (mEnt (.int ik n) v clock) = (es ++ [mEnt (.int ik n) v clock]).toArray := by simp
  rw [e] at hs
  simp [execOp, ho, hx, hy, hz, Instr.mapUpdate, run_underlying ht, hg, hc 9999, hf, e, hs]

/-- a key is looked up -/
theorem wpl_lookup (hE : Ent l w) (i : Nat) {r : Nat} {es : List MapEntry} {clock : Nat} (hi : l[i]? = some (pt r (.map es.toArray clock)))
    {t kt et : TypeId} {x y : Operand} (ho : o.op = .lookup t x y false) (hw : Region.wanted o (yielded ops a.tmps) = true) (hx : a.eval x = .map (some r)) {ik : IntKind} {n : Int} (hy : a.eval y = .int ik n)
    (ht : P.underlying t = some (.map kt et)) (hk : P.underlying kt = some (.int ik)) {v : Value} {j : Nat} (hfind : Instr.findNow (.int ik) (.int ik n) es 0 = some (some (j, v)))
    (h : wpList P ops Q rest (a.put o.dst v) w) : wpList P ops Q (o :: rest) a w := by
  have hb := hE.at i hi
  have hc : ∀ e m, (Instr.checkKey e (m + 1) kt (.int ik n)).run P w = .ok () w := fun e m => by
    unfold Instr.checkKey
    simp [run_underlying hk]
  have hf : (Instr.findKey kt (.int ik n) es).run P w = .ok (some (j, v)) w := by
    unfold Instr.findKey
    simp [run_underlying hk, hfind]
  have hg := MapKept.run_getObj_map (P := P) hb
  refine wpl_run hw (w' := w) (v := v) ?_ h
  simp [execOp, ho, hx, hy, Instr.lookup, run_underlying ht, hg, hc _ 9999, hf]
/-- a key that is not there -/
theorem wpl_lookupNot (hE : Ent l w) (i : Nat) {r : Nat} {es : List MapEntry} {clock : Nat} (hi : l[i]? = some (pt r (.map es.toArray clock)))
    {t kt et : TypeId} {x y : Operand} (ho : o.op = .lookup t x y false) (hw : Region.wanted o (yielded ops a.tmps) = true) (hx : a.eval x = .map (some r)) {ik : IntKind} {n : Int} (hy : a.eval y = .int ik n)
    (ht : P.underlying t = some (.map kt et)) (hk : P.underlying kt = some (.int ik)) {v : Value} (hz : ∀ w, (zeroValue et).run P w = .ok v w) (hfind : Instr.findNow (.int ik) (.int ik n) es 0 = some none)
    (h : wpList P ops Q rest (a.put o.dst v) w) : wpList P ops Q (o :: rest) a w := by
  have hb := hE.at i hi
  have hc : ∀ e m, (Instr.checkKey e (m + 1) kt (.int ik n)).run P w = .ok () w := fun e m => by
    unfold Instr.checkKey
    simp [run_underlying hk]
  have hf : (Instr.findKey kt (.int ik n) es).run P w = .ok none w := by
    unfold Instr.findKey
    simp [run_underlying hk, hfind]
  have hg := MapKept.run_getObj_map (P := P) hb
  refine wpl_run hw (w' := w) (v := v) ?_ h
  simp [execOp, ho, hx, hy, Instr.lookup, run_underlying ht, hg, hc _ 9999, hf, hz]

theorem run_buildSlice2 {t e : TypeId} {size : Nat} (ht : P.underlying t = some (.slice e)) (hI : zeroSize P e = some size) (hn : ∀ w, (Go.sizeOf e).run P w = .ok size w) (h0 : 0 < size) (h24 : 2 * size ≤ 16777216) (xs ys : List Value) (hx : xs.length = size) (hy : ys.length = size) :
    (Instr.buildSlice t 2 #[(0, .agg xs.toArray), (1, .agg ys.toArray)]).run P w = .ok (.slice (some ⟨w.heap.size, 0, none⟩) 2 2) (w.alloc (.cells (xs ++ ys).toArray e)) := by
  obtain ⟨z, hz, hzr⟩ := run_zero hI
  have hf := fill_two (place := fun i => some (i * size, size)) ((Array.range (2 * size)).map (fun i => z.cells[i % z.cells.size]!)) xs ys (.agg xs.toArray) (.agg ys.toArray) rfl rfl (by simp [hx]) (by simp [hx, hy]) (by simp [hx, hy]; omega)
  have h2 : ¬ 2 * size = 0 := by omega
  have h3 : ¬ 2 ^ 24 < 2 * size := by omega
  simp only [Instr.buildSlice, Sem.run_bind, run_underlying ht, Result.andThen_ok, hn, hzr, if_neg h2, gt_iff_lt, if_neg h3, Sem.run_pure, hf, newRow]
  simp

/-- a slice of two structs -/
theorem wpl_build2 (hE : Ent l w) {t e : TypeId} {x y : Operand} (ho : o.op = .buildSlice t 2 #[(0, x), (1, y)]) (hw : Region.wanted o (yielded ops a.tmps) = true) {xs ys : List Value} (hx : a.eval x = .agg xs.toArray) (hy : a.eval y = .agg ys.toArray)
    (ht : P.underlying t = some (.slice e)) {size : Nat} (hI : zeroSize P e = some size) (hn : ∀ w, (Go.sizeOf e).run P w = .ok size w) (h0 : 0 < size) (h24 : 2 * size ≤ 16777216) (hxl : xs.length = size) (hyl : ys.length = size)
    (h : ∀ b w', Ent (pt b (.cells (xs ++ ys).toArray e) :: l) w' → wpList P ops Q rest (a.put o.dst (.slice (some ⟨b, 0, none⟩) 2 2)) w') : wpList P ops Q (o :: rest) a w := by
  refine wpl_run hw (w' := w.alloc (.cells (xs ++ ys).toArray e)) (v := .slice (some ⟨w.heap.size, 0, none⟩) 2 2) ?_ (h _ _ (hE.alloc _))
  have hr := run_buildSlice2 (P := P) (w := w) ht hI hn h0 h24 xs ys hxl hyl
  simp [execOp, ho, hx, hy, hr]
/-- a slice of one struct -/
theorem wpl_build1 (hE : Ent l w) {t e : TypeId} {x : Operand} (ho : o.op = .buildSlice t 1 #[(0, x)]) (hw : Region.wanted o (yielded ops a.tmps) = true) {xs : List Value} (hx : a.eval x = .agg xs.toArray)
    (ht : P.underlying t = some (.slice e)) {size : Nat} (hI : zeroSize P e = some size) (hn : ∀ w, (Go.sizeOf e).run P w = .ok size w) (h0 : 0 < size) (h24 : size ≤ 16777216) (hxl : xs.length = size)
    (h : ∀ b w', Ent (pt b (.cells xs.toArray e) :: l) w' → wpList P ops Q rest (a.put o.dst (.slice (some ⟨b, 0, none⟩) 1 1)) w') : wpList P ops Q (o :: rest) a w := by
  refine wpl_run hw (w' := w.alloc (.cells xs.toArray e)) (v := .slice (some ⟨w.heap.size, 0, none⟩) 1 1) ?_ (h _ _ (hE.alloc _))
  have hr := run_buildSlice1 (P := P) (w := w) ht hI hn h0 h24 xs hxl
  simp [execOp, ho, hx, hr]
end
end Go.SL
