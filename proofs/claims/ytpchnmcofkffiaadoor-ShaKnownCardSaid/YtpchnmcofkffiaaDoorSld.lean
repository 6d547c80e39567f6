/-
  The copy of a string's bytes into a block of bytes, as one step of a walk over separation lists. Conditions: none; plain lemmas over any program.
-/
import Derived.Test.YtpchnmcofkffiaaDoorSlc
namespace Go.SL
section
variable {P : Program} {w : World} {l : List HProp}

theorem run_copyS (dT sT ty elem : TypeId) (g dLen dCap : Nat) (ys : List UInt8) (cur : Array Value) (t : TypeId)
    (hu : P.underlying dT = some (.slice elem)) (hs : (P.info? elem).map (·.size) = some 1) (hg : w.heap[g]? = some (.cells cur t (0, 0))) (hfit : dLen ≤ cur.size) :
    (Builtin.copy_ #[dT, sT] ty #[.slice (some ⟨g, 0, none⟩) dLen dCap, .string ⟨ys.toArray⟩]).run P w =
      .ok (goInt (min ys.length dLen : Nat)) (w.setRow g (((ys.take dLen).map fun b => Value.int .u8 b.toNat) ++ cur.toList.drop (min ys.length dLen)).toArray) := by
  have hlen : ((ys.take dLen).map fun b => Value.int .u8 (b.toNat : Int)).length = min ys.length dLen := by rw [List.length_map, List.length_take, Nat.min_comm]
  have h1 : ∀ u ∈ ((ys.take dLen).map fun b => Value.int .u8 (b.toNat : Int)), u.oneCell' = true := by
    intro v hv
    simp only [List.mem_map] at hv
    obtain ⟨b, _, rfl⟩ := hv
    rfl
  have hst := run_storeCells_at P g 0 t ((ys.take dLen).map fun b => Value.int .u8 (b.toNat : Int)) 0 cur w hg (by rw [hlen]; omega) h1
  rw [hlen] at hst
  simp only [Nat.add_zero, Nat.zero_add, List.take_zero, List.nil_append] at hst
  have hsz : (ByteArray.mk ys.toArray).size = ys.length := by simp [ByteArray.size]
  have hmin : Nat.min ys.length dLen = min ys.length dLen := rfl
  have htk : List.take (min ys.length dLen) (List.map (fun b : UInt8 => Value.int IntKind.u8 (b.toNat : Int)) ys) = (ys.take dLen).map fun b => Value.int .u8 (b.toNat : Int) := by
    rw [← List.map_take]
    congr 1
    rw [Nat.min_comm, List.take_eq_take_iff]
    omega
  cases hq : P.info? elem with
  | none => simp [hq] at hs
  | some i =>
    simp [Builtin.copy_, run_underlying hu, Builtin.lenOf, Builtin.firstCells, sizeOf, typeInfo, hq, hsz, hmin]
    rw [htk, hst]
    simp [Result.andThen]

theorem step_copyS {ops : Array Oper} {o : Oper} {a : Act} {K : Act → World → Prop} {Q : Exit → Act → World → Prop} {E : Prop} (hE : Ent l w) (i : Nat) {g : Nat} {cur : Array Value} {T : TypeId} (hi : l[i]? = some (pt g (.cells cur T (0, 0))))
    {d s : Operand} {dT sT elem : TypeId} (ho : o.op = .call { callee := .builtin .copy, args := #[d, s], argTypes := #[dT, sT] }) (hw : Region.wanted o (yielded ops a.tmps) = true)
    {dLen dCap : Nat} (hd : a.eval d = .slice (some ⟨g, 0, none⟩) dLen dCap) {ys : List UInt8} (hy : a.eval s = .string ⟨ys.toArray⟩)
    (hu : P.underlying dT = some (.slice elem)) (hs : (P.info? elem).map (·.size) = some 1) (hfit : dLen ≤ cur.size)
    (h : ∀ w', Ent (l.set i (pt g (.cells (((ys.take dLen).map fun b => Value.int .u8 b.toNat) ++ cur.toList.drop (min ys.length dLen)).toArray T (0, 0)))) w' → K (a.put o.dst (goInt (min ys.length dLen : Nat))) w') :
    if Region.wanted o (yielded ops a.tmps) = true then Oper.wp P o a w K Q else E := by
  rw [if_pos hw]
  have hr := run_copyS (P := P) (w := w) dT sT o.type elem g dLen dCap ys cur T hu hs (hE.at i hi) hfit
  unfold Oper.wp execOp
  simp only [ho, resolve, invoke, builtin, Sem.run_bind, Sem.run_pure, Result.andThen_ok, List.map_toArray, List.map_cons, List.map_nil, hd, hy, hr]
  exact h _ (hE.setRow i hi _)
end
end Go.SL
