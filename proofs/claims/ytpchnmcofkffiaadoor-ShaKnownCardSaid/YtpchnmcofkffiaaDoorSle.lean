/-
  Steps inside a region that draws its order, over separation lists: the load of a whole value, the comparison of two arrays of bytes. Conditions: none; plain lemmas over any program.
-/
import Derived.Test.YtpchnmcofkffiaaDoorSld
namespace Go.SL
section
variable {P : Program} {w : World} {l : List HProp} {ops : Array Oper} {o : Oper} {a : Act} {K : Act → World → Prop} {Q : Exit → Act → World → Prop} {E : Prop}

theorem step_run (hw : Region.wanted o (yielded ops a.tmps) = true) {v : Value} {w' : World} (hr : (execOp a.eval o).run P w = .ok (.value v) w') (h : K (a.put o.dst v) w') :
    if Region.wanted o (yielded ops a.tmps) = true then Oper.wp P o a w K Q else E := by
  rw [if_pos hw]
  simp only [Oper.wp, hr, Oper.upon]
  exact h

theorem step_loadW (hE : Ent l w) (i : Nat) {b : Nat} {xs : List Value} {T : TypeId} {fz : Nat × Nat} (hi : l[i]? = some (pt b (.cells xs.toArray T fz)))
    {t : TypeId} {x : Operand} (ho : o.op = .load t x) (hw : Region.wanted o (yielded ops a.tmps) = true)
    (hx : a.eval x = .pointer (some ⟨b, 0, none⟩)) (hA : ∀ w, (isAgg t).run P w = .ok true w) {n : Nat} (hn : ∀ w, (Go.sizeOf t).run P w = .ok n w) (hl : xs.length = n)
    (h : K (a.put o.dst (.agg xs.toArray)) w) : if Region.wanted o (yielded ops a.tmps) = true then Oper.wp P o a w K Q else E := by
  refine step_run hw (w' := w) (v := .agg xs.toArray) ?_ h
  simp [execOp, ho, hx, run_loadA hE i hi hA hn hl (off := 0) (fun j _ => by simp)]

theorem step_neA {t e t' : TypeId} {x y : Operand} (ho : o.op = .binOp .neq t x y t') (hw : Region.wanted o (yielded ops a.tmps) = true) {ys zs : List UInt8} {n : Nat}
    (hx : a.eval x = .agg (ys.map fun b => Value.int .u8 b.toNat).toArray) (hy : a.eval y = .agg (zs.map fun b => Value.int .u8 b.toNat).toArray)
    (hm : P.eqGuardType P.depth t = false) (hu : P.underlying t = some (.array n e)) (hi : (P.info? e).isSome = true) (h1 : P.cellsOf e = 1) (he : P.underlying e = some (.int .u8)) (ha : ys.length = n) (hb : zs.length = n)
    (h : K (a.put o.dst (.bool (!(ys == zs)))) w) : if Region.wanted o (yielded ops a.tmps) = true then Oper.wp P o a w K Q else E := by
  obtain ⟨i, hi⟩ := Option.isSome_iff_exists.1 hi
  refine step_run hw (w' := w) (v := .bool (!(ys == zs))) ?_ h
  simp [execOp, ho, hx, hy, run_eqGuard_agg _ _ _ _ _ _ _ hm, run_neq_struct, run_equalA 9998 hu hi h1 he ys zs ha hb]
end
end Go.SL
