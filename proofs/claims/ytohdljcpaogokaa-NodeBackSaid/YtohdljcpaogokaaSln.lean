/-
  The copy of a string's bytes into a part of a block, as one step of a walk over separation lists. Conditions: none; plain lemmas over any program.
-/
import Derived.Test.YtohdljcpaogokaaSlh
namespace Go.SL
section
variable {P : Program} {w : World} {l : List HProp}

theorem run_copyAt (dT sT ty elem : TypeId) (g off dLen dCap : Nat) (ys : List UInt8) (cur : Array Value) (t : TypeId)
    (hu : P.underlying dT = some (.slice elem)) (hs : (P.info? elem).map (·.size) = some 1) (hg : w.heap[g]? = some (.cells cur t (0, 0))) (hy : ys.length ≤ dLen) (hfit : off + dLen ≤ cur.size) :
    (Builtin.copy_ #[dT, sT] ty #[.slice (some ⟨g, off, none⟩) dLen dCap, .string ⟨ys.toArray⟩]).run P w =
      .ok (goInt (ys.length : Nat)) (w.setRow g (cur.toList.take off ++ (ys.map fun b => Value.int .u8 b.toNat) ++ cur.toList.drop (off + ys.length)).toArray) := by
  have h1 : ∀ u ∈ (ys.map fun b => Value.int .u8 (b.toNat : Int)), u.oneCell' = true := by
    intro v hv
    simp only [List.mem_map] at hv
    obtain ⟨b, _, rfl⟩ := hv
    rfl
  have hst := run_storeCells_at P g off t (ys.map fun b => Value.int .u8 (b.toNat : Int)) 0 cur w hg (by rw [List.length_map]; omega) h1
  rw [List.length_map] at hst
  simp only [Nat.add_zero] at hst
  have hsz : (ByteArray.mk ys.toArray).size = ys.length := by simp [ByteArray.size]
  have hmin : Nat.min ys.length dLen = ys.length := Nat.min_eq_left hy
  cases hq : P.info? elem with
  | none => simp [hq] at hs
  | some i =>
    have htk : List.take ys.length (List.map (fun b : UInt8 => Value.int IntKind.u8 (b.toNat : Int)) ys) = ys.map fun b => Value.int .u8 (b.toNat : Int) := List.take_of_length_le (by simp)
    simp [Builtin.copy_, run_underlying hu, Builtin.lenOf, Builtin.firstCells, sizeOf, typeInfo, hq, hsz, hmin]
    rw [htk, hst]
    simp [Result.andThen]

theorem wpl_copyAt {ops : Array Oper} {rest : List Oper} {o : Oper} {a : Act} {Q : Exit → Act → World → Prop} (hE : Ent l w) (i : Nat) {g off : Nat} {cur : List Value} {T : TypeId} (hi : l[i]? = some (pt g (.cells cur.toArray T (0, 0))))
    {d s : Operand} {dT sT elem : TypeId} (ho : o.op = .call { callee := .builtin .copy, args := #[d, s], argTypes := #[dT, sT] }) (hw : Region.wanted o (yielded ops a.tmps) = true)
    {dLen dCap : Nat} (hd : a.eval d = .slice (some ⟨g, off, none⟩) dLen dCap) {ys : List UInt8} (hy : a.eval s = .string ⟨ys.toArray⟩)
    (hu : P.underlying dT = some (.slice elem)) (hs : (P.info? elem).map (·.size) = some 1) (hle : ys.length ≤ dLen) (hfit : off + dLen ≤ cur.length)
    {xs : List Value} (hx : cur.take off ++ (ys.map fun b => Value.int .u8 b.toNat) ++ cur.drop (off + ys.length) = xs)
    (h : ∀ w', Ent (l.set i (pt g (.cells xs.toArray T (0, 0)))) w' → wpList P ops Q rest (a.put o.dst (goInt ys.length)) w') : wpList P ops Q (o :: rest) a w := by
  have hr := run_copyAt (P := P) (w := w) dT sT o.type elem g off dLen dCap ys cur.toArray T hu hs (hE.at i hi) hle (by simpa using hfit)
  simp only [List.toList_toArray, hx] at hr
  refine wpl_run hw (w' := w.setRow g xs.toArray) (v := goInt ys.length) ?_ (h _ (hE.setRow i hi _))
  simp [execOp, ho, resolve, invoke, builtin, hd, hy, hr]
end
end Go.SL
