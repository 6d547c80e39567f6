/-
  Proved here, with no condition but the lengths that are named: an owned row of bytes and the append of bytes onto it.
-/
import Derived.Test.YtohdljcpaogokaaChecked
import Derived.Test.YtohdljcpaogokaaSlb
namespace Go.Proofs.Ytohdljcpaogokaa
open Go.RowKit Go.SL

def bval (u : UInt8) : Value := .int .u8 u.toNat
def bvals (l : List UInt8) : List Value := l.map bval

abbrev rowB (ao : Option Addr) (c : Nat) (bs : List UInt8) : HProp := row 5 1 (.slice ao bs.length c) bs.length (bvals bs)
theorem infoB : (Try.prog.info? 5).map (fun i => (i.zero, i.size, i.bytes)) = some (some (.int .u8 0), 1, 1) := by kernel_rfl
theorem bvals_append (a b : List UInt8) : bvals (a ++ b) = bvals a ++ bvals b := by simp [bvals]
theorem bvals_length (a : List UInt8) : (bvals a).length = a.length := by simp [bvals]
theorem bvals_one (a : List UInt8) : ∀ u ∈ bvals a, u.oneCell' = true := by
  intro u hu
  obtain ⟨_, _, rfl⟩ := List.mem_map.1 hu
  rfl

/-- append of bytes onto an owned row -/
theorem wpl_appendB {ops : Array Oper} {rest : List Oper} {o : Oper} {a : Act} {Q : Exit → Act → World → Prop} {w : World} {l : List HProp} (hE : Ent l w) (k : Nat) {ao : Option Addr} {c : Nat} {bs : List UInt8}
    (hk : l[k]? = some (rowB ao c bs)) {s y : Operand} (ho : o.op = .call { callee := .builtin .append, args := #[s, y], argTypes := #[42, 42] }) (hw : Region.wanted o (yielded ops a.tmps) = true)
    (hs : a.eval s = .slice ao bs.length c) {x : Value} (hy : a.eval y = x) {ys : List UInt8} (hx : reads x ys.length (bvals ys) w) (hb : bs.length + ys.length ≤ 1099511627776)
    (h : ∀ ao' c' w', Ent (l.set k (rowB ao' c' (bs ++ ys))) w' → wpList Try.prog ops Q rest (a.put o.dst (.slice ao' (bs ++ ys).length c')) w') : wpList Try.prog ops Q (o :: rest) a w := by
  obtain ⟨i, hi, hz0, hz1, hz2⟩ := info_parts infoB
  refine wpl_append hE k hk ho hw hs hy Try.underlying42 hi hz0 hz1 hz2 rfl (by decide) hx (by simp [bvals_length]) (bvals_one ys) (by unfold maxLen; omega) (by omega) ?_
  intro ao' c' w' hE'
  have h' := h ao' c' w'
  rw [rowB, bvals_append, List.length_append] at h'
  exact h' hE'

theorem step_appendB {ops : Array Oper} {o : Oper} {a : Act} {K : Act → World → Prop} {Q : Exit → Act → World → Prop} {E : Prop} {w : World} {l : List HProp} (hE : Ent l w) (k : Nat) {ao : Option Addr} {c : Nat} {bs : List UInt8}
    (hk : l[k]? = some (rowB ao c bs)) {s y : Operand} (ho : o.op = .call { callee := .builtin .append, args := #[s, y], argTypes := #[42, 42] }) (hw : Region.wanted o (yielded ops a.tmps) = true)
    (hs : a.eval s = .slice ao bs.length c) {x : Value} (hy : a.eval y = x) {ys : List UInt8} (hx : reads x ys.length (bvals ys) w) (hb : bs.length + ys.length ≤ 1099511627776)
    (h : ∀ ao' c' w', Ent (l.set k (rowB ao' c' (bs ++ ys))) w' → K (a.put o.dst (.slice ao' (bs ++ ys).length c')) w') : if Region.wanted o (yielded ops a.tmps) = true then Oper.wp Try.prog o a w K Q else E := by
  obtain ⟨i, hi, hz0, hz1, hz2⟩ := info_parts infoB
  rw [if_pos hw]
  obtain ⟨ao', c', w', hr, hE'⟩ := hE.append (P := Try.prog) o.type k hk Try.underlying42 hi hz0 hz1 hz2 rfl (by decide) hx (by simp [bvals_length]) (bvals_one ys) (by unfold maxLen; omega) (by omega)
  unfold Oper.wp execOp
  simp only [ho, resolve, invoke, builtin, Sem.run_bind, Sem.run_pure, Result.andThen_ok, List.map_toArray, List.map_cons, List.map_nil, hs, hy, hr]
  have h' := h ao' c' w'
  rw [rowB, bvals_append, List.length_append] at h'
  exact h' hE'

/-- one byte in a new block, as an owned row -/
theorem Ent.rowB1 {w : World} {l : List HProp} (hE : Ent l w) (x : UInt8) (v : Value) (hv : v = bval x) : Ent (rowB (some ⟨w.heap.size, 0, none⟩) 1 [x] :: l) (w.alloc (.cells #[v] 5)) :=
  (hE.alloc _).toRow 0 rfl (by simp [bvals]) (by simp) (by unfold maxLen; omega) (by simp) (by simp [bvals, hv])

def Ret (Φ : Value → World → Prop) (e : Ending) (w : World) : Prop := ∃ v, e = .returned v ∧ Φ v w
end Go.Proofs.Ytohdljcpaogokaa
