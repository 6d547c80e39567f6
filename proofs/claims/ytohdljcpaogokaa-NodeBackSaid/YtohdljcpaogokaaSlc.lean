/-
  Equality of two arrays of bytes, as one step of a walk over separation lists. Conditions: none; plain lemmas over any program.
-/
import Derived.Test.YtohdljcpaogokaaSlb
import Derived.ChangeKeysEq
namespace Go.SL
section
variable {P : Program} {w : World}

theorem run_part_byte {e : TypeId} (he : P.underlying e = some (.int .u8)) {xs : Array Value} {off : Nat} {v : Value} (hx : xs[off]? = some v) : (part e xs off).run P w = .ok v w := by
  simp [part, isAgg, run_underlying he, hx]

theorem run_eqItems_bytes (d : Nat) {e : TypeId} (he : P.underlying e = some (.int .u8)) (as bs : List UInt8) (hl : as.length = bs.length) : ∀ is : List Nat, (∀ i ∈ is, i < as.length) →
    (Op.eqItems (d + 1) e 1 (as.map fun b => Value.int .u8 b.toNat).toArray (bs.map fun b => Value.int .u8 b.toNat).toArray is).run P w = .ok (is.all fun i => as[i]? == bs[i]?) w
  | [], _ => by simp [Op.eqItems]
  | i :: is, h => by
    have ha : i < as.length := h i (by simp)
    have hb : i < bs.length := by omega
    have e1 : (as.map fun b => Value.int .u8 (b.toNat : Int)).toArray[i * 1]? = some (.int .u8 (as[i].toNat : Int)) := by simp [ha]
    have e2 : (bs.map fun b => Value.int .u8 (b.toNat : Int)).toArray[i * 1]? = some (.int .u8 (bs[i].toNat : Int)) := by simp [hb]
    have ih := run_eqItems_bytes d he as bs hl is (fun j hj => h j (by simp [hj]))
    simp only [Op.eqItems, Sem.run_bind, run_part_byte he e1, run_part_byte he e2, Result.andThen_ok, run_equalIn_int w d e .u8 .u8 _ _ he]
    have e3 : ((as[i].toNat : Int) == (bs[i].toNat : Int)) = (as[i]? == bs[i]?) := by
      rw [List.getElem?_eq_getElem ha, List.getElem?_eq_getElem hb, Bool.eq_iff_iff]
      simp [← UInt8.toNat_inj]
      omega
    cases hc : ((as[i].toNat : Int) == (bs[i].toNat : Int)) with
    | false => simp [List.all_cons, ← e3, hc]
    | true =>
      simp only [Bool.not_true, Bool.false_eq_true, if_false, ih, List.all_cons, ← e3, hc, Bool.true_and]

theorem all_range_eq (as bs : List UInt8) (hl : as.length = bs.length) : ((List.range as.length).all fun i => as[i]? == bs[i]?) = (as == bs) := by
  rw [Bool.eq_iff_iff]
  simp only [List.all_eq_true, List.mem_range, beq_iff_eq]
  constructor
  · intro h
    apply List.ext_getElem?
    intro i
    by_cases hi : i < as.length
    · exact h i hi
    · rw [List.getElem?_eq_none (by omega), List.getElem?_eq_none (by omega)]
  · rintro rfl i _
    rfl

theorem run_equalA (d : Nat) {t e : TypeId} {n : Nat} {i : TypeInfo} (hu : P.underlying t = some (.array n e)) (hi : P.info? e = some i) (h1 : P.cellsOf e = 1) (he : P.underlying e = some (.int .u8)) (as bs : List UInt8) (ha : as.length = n) (hb : bs.length = n) :
    (Op.equalIn (d + 2) t (.agg (as.map fun b => Value.int .u8 b.toNat).toArray) (.agg (bs.map fun b => Value.int .u8 b.toNat).toArray)).run P w = .ok (as == bs) w := by
  rw [run_equalIn_array w (d + 1) _ _ hu hi, h1, run_eqItems_bytes d he as bs (by omega) _ (by simp [ha]), ← ha, all_range_eq as bs (by omega)]

section
variable {ops : Array Oper} {rest : List Oper} {o : Oper} {a : Act} {Q : Exit → Act → World → Prop}
theorem wpl_eqA {t e t' : TypeId} {x y : Operand} (ho : o.op = .binOp .eql t x y t') (hw : Region.wanted o (yielded ops a.tmps) = true) {ys zs : List UInt8} {n : Nat}
    (hx : a.eval x = .agg (ys.map fun b => Value.int .u8 b.toNat).toArray) (hy : a.eval y = .agg (zs.map fun b => Value.int .u8 b.toNat).toArray)
    (hm : P.eqGuardType P.depth t = false) (hu : P.underlying t = some (.array n e)) (hi : (P.info? e).isSome = true) (h1 : P.cellsOf e = 1) (he : P.underlying e = some (.int .u8)) (ha : ys.length = n) (hb : zs.length = n)
    (h : wpList P ops Q rest (a.put o.dst (.bool (ys == zs))) w) : wpList P ops Q (o :: rest) a w := by
  obtain ⟨i, hi⟩ := Option.isSome_iff_exists.1 hi
  refine wpl_run hw (w' := w) (v := .bool (ys == zs)) ?_ h
  simp [execOp, ho, hx, hy, run_eqGuard_agg _ _ _ _ _ _ _ hm, run_eql_struct, run_equalA 9998 hu hi h1 he ys zs ha hb]

theorem wpl_neA {t e t' : TypeId} {x y : Operand} (ho : o.op = .binOp .neq t x y t') (hw : Region.wanted o (yielded ops a.tmps) = true) {ys zs : List UInt8} {n : Nat}
    (hx : a.eval x = .agg (ys.map fun b => Value.int .u8 b.toNat).toArray) (hy : a.eval y = .agg (zs.map fun b => Value.int .u8 b.toNat).toArray)
    (hm : P.eqGuardType P.depth t = false) (hu : P.underlying t = some (.array n e)) (hi : (P.info? e).isSome = true) (h1 : P.cellsOf e = 1) (he : P.underlying e = some (.int .u8)) (ha : ys.length = n) (hb : zs.length = n)
    (h : wpList P ops Q rest (a.put o.dst (.bool (!(ys == zs)))) w) : wpList P ops Q (o :: rest) a w := by
  obtain ⟨i, hi⟩ := Option.isSome_iff_exists.1 hi
  refine wpl_run hw (w' := w) (v := .bool (!(ys == zs))) ?_ h
  simp [execOp, ho, hx, hy, run_eqGuard_agg _ _ _ _ _ _ _ hm, run_neq_struct, run_equalA 9998 hu hi h1 he ys zs ha hb]
end
end
end Go.SL
