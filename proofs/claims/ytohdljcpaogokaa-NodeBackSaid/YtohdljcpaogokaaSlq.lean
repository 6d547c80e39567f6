/-
  Facts about a world out of a separation list, wherever the assertion stands in it. Conditions: none; plain lemmas over any program.
-/
import Derived.Test.YtohdljcpaogokaaRg
import Derived.Test.YtohdljcpaogokaaSlo
import Derived.Test.YtohdljcpaogokaaSln
import Derived.Test.YtohdljcpaogokaaSli
namespace Go.SL
section
variable {P : Program} {w : World} {l : List HProp}

/-- a cell's value -/
theorem cellM {b : Nat} {cs : Array Value} {T : TypeId} {fz : Nat × Nat} (h : Ent l w) (hm : pt b (.cells cs T fz) ∈ l) (off : Nat) : w.cell? ⟨b, off, none⟩ = cs[off]? := by
  obtain ⟨i, hi⟩ := List.getElem?_of_mem hm
  exact h.cell i hi off
theorem cellV {b : Nat} {cs : Array Value} {T : TypeId} {fz : Nat × Nat} (h : Ent l w) (hm : pt b (.cells cs T fz) ∈ l) {off : Nat} {v : Value} (hv : cs[off]? = some v) : w.cell? ⟨b, off, none⟩ = some v := (cellM h hm off).trans hv
theorem frozenM {b : Nat} {cs : Array Value} {T : TypeId} (h : Ent l w) (hm : pt b (.cells cs T (0, 0)) ∈ l) (off : Nat) : w.frozen? ⟨b, off, none⟩ = false := by
  obtain ⟨i, hi⟩ := List.getElem?_of_mem hm
  exact h.frozen i hi off
theorem atVm {b : Nat} {cs : Array Value} {T : TypeId} {fz : Nat × Nat} (h : Ent l w) (hm : pt b (.cells cs T fz) ∈ l) {t : TypeId} (hA : ∀ w, (isAgg t).run P w = .ok false w) {off : Nat} {v : Value} (hv : cs[off]? = some v) :
    (Instr.loadAt t (.pointer (some ⟨b, off, none⟩))).run P w = .ok v w := by
  obtain ⟨i, hi⟩ := List.getElem?_of_mem hm
  exact run_load1 h i hi hA hv
theorem atAm {b : Nat} {cs : Array Value} {T : TypeId} {fz : Nat × Nat} (h : Ent l w) (hm : pt b (.cells cs T fz) ∈ l) {t : TypeId} (hA : ∀ w, (isAgg t).run P w = .ok true w) {n : Nat} (hn : ∀ w, (Go.sizeOf t).run P w = .ok n w) {off : Nat} {vs : List Value} (hl : vs.length = n) (hv : ∀ j, j < n → cs[off + j]? = vs[j]?) :
    (Instr.loadAt t (.pointer (some ⟨b, off, none⟩))).run P w = .ok (.agg vs.toArray) w := by
  obtain ⟨i, hi⟩ := List.getElem?_of_mem hm
  exact run_loadA h i hi hA hn hl hv
/-- the whole of a block -/
theorem atWm {b : Nat} {vs : List Value} {T : TypeId} {fz : Nat × Nat} (h : Ent l w) (hm : pt b (.cells vs.toArray T fz) ∈ l) {t : TypeId} (hA : ∀ w, (isAgg t).run P w = .ok true w) {n : Nat} (hn : ∀ w, (Go.sizeOf t).run P w = .ok n w) (hl : vs.length = n) :
    (Instr.loadAt t (.pointer (some ⟨b, 0, none⟩))).run P w = .ok (.agg vs.toArray) w := atAm h hm hA hn hl (fun j _ => by simp)
/-- one cell of memory that is known by a fact on cells -/
theorem atCell {ad : Addr} {v : Value} (h : w.cell? ad = some v) {t : TypeId} (hA : ∀ w, (isAgg t).run P w = .ok false w) : (Instr.loadAt t (.pointer (some ad))).run P w = .ok v w := by
  simp [Instr.loadAt, Instr.sureAddr, loadVar, hA, h]
/-- some cells of memory that are known by facts on cells -/
theorem atCells {t : TypeId} (hA : ∀ w, (isAgg t).run P w = .ok true w) {n : Nat} (hn : ∀ w, (Go.sizeOf t).run P w = .ok n w) {ad : Addr} (vs : List Value) (hl : vs.length = n) (hc : ∀ j v, vs[j]? = some v → w.cell? (ad.add j) = some v) :
    (Instr.loadAt t (.pointer (some ad))).run P w = .ok (.agg vs.toArray) w := by
  have hr := run_loadCells_list (P := P) w ad vs hc
  subst hl
  simp [Instr.loadAt, Instr.sureAddr, loadVar, hA, hn, hr]
/-- what stands behind -/
theorem Ent.suf {l' : List HProp} (h : Ent l w) (hs : l' <:+ l) : Ent l' w := by
  obtain ⟨m, rfl⟩ := hs
  exact h.drop
theorem Knows.suf {l' : List HProp} {p : World → Prop} (h : Knows l' p) (hs : l' <:+ l) : Knows l p := fun _ hw => h _ (hw.suf hs)
section
variable {ops : Array Oper} {o : Oper} {a : Act} {K : Act → World → Prop} {Q : Exit → Act → World → Prop} {E : Prop}
/-- a cell loaded, as one step of a region that draws -/
theorem step_load1 (hE : Ent l w) (i : Nat) {b : Nat} {cs : Array Value} {T : TypeId} {fz : Nat × Nat} (hi : l[i]? = some (pt b (.cells cs T fz))) {t : TypeId} {x : Operand} (ho : o.op = .load t x) (hw : Region.wanted o (yielded ops a.tmps) = true)
    {off : Nat} (hx : a.eval x = .pointer (some ⟨b, off, none⟩)) (hA : ∀ w, (isAgg t).run P w = .ok false w) {v : Value} (hv : cs[off]? = some v) (h : K (a.put o.dst v) w) : if Region.wanted o (yielded ops a.tmps) = true then Oper.wp P o a w K Q else E := by
  rw [if_pos hw]
  have hr : (execOp a.eval o).run P w = .ok (.value v) w := by simp [execOp, ho, hx, run_load1 hE i hi hA hv]
  simp only [Oper.wp, hr, Oper.upon]
  exact h
/-- a whole value written over the whole of a block, as one step of a region that draws -/
theorem step_storeW (hE : Ent l w) (i : Nat) {b : Nat} {cs : Array Value} {T : TypeId} (hi : l[i]? = some (pt b (.cells cs T (0, 0))))
    {t : TypeId} {x y : Operand} (ho : o.op = .store t x y) (hw : Region.wanted o (yielded ops a.tmps) = true)
    (hx : a.eval x = .pointer (some ⟨b, 0, none⟩)) {xs : List Value} (hy : a.eval y = .agg xs.toArray) {n : Nat} (hn : ∀ w, (Go.sizeOf t).run P w = .ok n w) (hc : xs.length = n)
    (h1 : ∀ u ∈ xs, u.oneCell' = true) (hfit : cs.size = n)
    (h : ∀ w', Ent (l.set i (pt b (.cells xs.toArray T (0, 0)))) w' → K (a.put o.dst undef) w') : if Region.wanted o (yielded ops a.tmps) = true then Oper.wp P o a w K Q else E := by
  rw [if_pos hw]
  have hr := run_storeV (P := P) hE i hi (t := t) (v := .agg xs.toArray) hn (by simpa [Value.cells] using hc) (by simpa [Value.cells] using h1) (off := 0) (by omega)
  have e : (cs.toList.take 0 ++ (Value.agg xs.toArray).cells.toList ++ cs.toList.drop (0 + (Value.agg xs.toArray).cells.toList.length)).toArray = xs.toArray := by
    simp [Value.cells, hc, ← hfit]
  rw [e] at hr
  have hx2 : (execOp a.eval o).run P w = .ok .skip (w.setRow b xs.toArray) := by simp [execOp, ho, hx, hy, hr]
  simp only [Oper.wp, hx2, Oper.upon]
  exact h _ (hE.setRow i hi xs.toArray)
end
/-- a counter of a loop -/
def CntRel (n : Nat) (l : List HProp) (i : Value) (wr : World) : Prop := ∃ k : Nat, k ≤ n ∧ i = .int .i64 k ∧ Ent l wr
theorem cat2 (a b : List UInt8) (h : a.length + b.length ≤ 1099511627776) : ∃ p : List UInt8, p = a ++ b ∧ (⟨a.toArray⟩ : ByteArray) ++ ⟨b.toArray⟩ = ⟨p.toArray⟩ ∧ ¬ (9223372036854775807 < a.length + b.length) :=
  ⟨a ++ b, rfl, bytes_join a b, by omega⟩
end
end Go.SL
