/-
  What a shape and a node among the arguments of a law hold when a call begins; the laws of nodes in the form in which the frames want them.
-/
import Derived.Test.YtohdljcpaogokaaNdb
import Derived.Test.YtohdljcpaogokaaFr
import Derived.Lib.SmallJoins
namespace Go.Proofs.Ytohdljcpaogokaa
open Go.RowKit Go.SL Go.ChangeShapes Go.WideShapes Go.Deep
section
variable {H : Type} {enc : TypeId × Value → H} {w : World} {held : Bool}

/-- a slice of things of one cell in a struct that came in -/
theorem open_col {fuel : Nat} {v : Value} {y : DataW H × List MemPlace} {t e : TypeId} (ht : Try.prog.underlying t = some (.slice e)) (hC : Try.prog.cellsOf e = 1) {α : Type} (encv : α → Value)
    (hel : ∀ (m : Nat) (cs : List Value) (y : DataW H × List MemPlace), DataW.trod enc Try.prog w 0 (fun _ => true) held m e cs = some y → ∃ x, cs = [encv x]) (h : DataW.trod enc Try.prog w 0 (fun _ => true) held fuel t [v] = some y) :
    ∃ (ao : Option Addr) (c : Nat) (xs : List α), v = .slice ao xs.length c ∧ reads v xs.length (xs.map encv) w := by
  rcases open_slice ht h with ⟨hcs, _⟩ | ⟨a, len, c, m, n, D, Pl, hcs, _, hl, hm, hmm, _, hi⟩
  · simp only [List.cons.injEq, and_true] at hcs
    subst hcs
    exact ⟨none, 0, [], rfl, reads_nil 0 0 rfl w⟩
  · simp only [List.cons.injEq, and_true] at hcs
    subst hcs
    simp at hmm
    subst hmm
    obtain ⟨xs, h1, h2⟩ := choose_list (fun i (x : α) => w.cell? (a.add i) = some (encv x)) len (fun i hil => by
      obtain ⟨cs', hc, htr⟩ := hi i (by omega)
      rw [hC] at hc
      obtain ⟨_, hcl, hat⟩ := World.cells?_some hc
      obtain ⟨x, rfl⟩ := hel _ _ _ htr
      refine ⟨x, ?_⟩
      have := hat 0 (by omega)
      rw [Nat.mul_one, Go.Deep.add_add, Nat.add_zero] at this
      exact this)
    subst h1
    refine ⟨some a, _, xs, rfl, some a, _, rfl, fun h => (by cases h), fun ad had j u hu => ?_⟩
    cases had
    obtain ⟨hj, rfl⟩ := List.getElem?_eq_some_iff.1 hu
    rw [List.getElem_map]
    exact h2 j _ (List.getElem?_eq_getElem (by simpa using hj))
set_option maxRecDepth 100000 in
theorem open_colS {fuel : Nat} {v : Value} {y : DataW H × List MemPlace} (h : DataW.trod enc Try.prog w 0 (fun _ => true) held fuel 63 [v] = some y) :
    ∃ (ao : Option Addr) (c : Nat) (xs : List (List UInt8)), v = .slice ao xs.length c ∧ reads v xs.length (xs.map strv) w :=
  open_col Try.underlying63 (by kernel_rfl) strv (fun m cs y hy => by
    obtain ⟨s, e0, _, _⟩ := DataW.trod_string Try.underlying9 hy
    exact ⟨s.data.toList, e0⟩) h
set_option maxRecDepth 100000 in
theorem open_colI {fuel : Nat} {v : Value} {y : DataW H × List MemPlace} (h : DataW.trod enc Try.prog w 0 (fun _ => true) held fuel 64 [v] = some y) :
    ∃ (ao : Option Addr) (c : Nat) (xs : List Int), v = .slice ao xs.length c ∧ reads v xs.length (xs.map intv) w :=
  open_col Try.underlying64 (by kernel_rfl) intv (fun m cs y hy => by
    obtain ⟨n, e0, _, _⟩ := DataW.trod_int Try.underlying3 hy
    exact ⟨n, e0⟩) h

set_option maxRecDepth 100000 in
theorem open_shapeR {r : Reach} {b0 : Nat} {v : Value} {d : DataW H} {ps : List MemPlace} (hval : Value.okWide Try.prog w r b0 62 v) (h : DataW.Trod enc Try.prog w 0 (fun _ => true) held 62 v d ps) :
    ∃ kw vw : Int, v = .agg #[.int .i64 kw, .int .i64 vw] := by
  obtain ⟨v0, v1, y0, y1, n, rfl, _, _, h0, h1⟩ := Go.Joins.open_agg2 Try.underlying62 (by kernel_rfl) (by kernel_rfl) hval h
  obtain ⟨a, q0, _, _⟩ := DataW.trod_int Try.underlying3 h0
  obtain ⟨b, q1, _, _⟩ := DataW.trod_int Try.underlying3 h1
  simp only [List.cons.injEq, and_true] at q0 q1
  subst q0 q1
  exact ⟨a, b, rfl⟩
set_option maxRecDepth 100000 in
theorem open_shapeP {r : Reach} {b0 : Nat} {v : Value} {d : DataW H} {ps : List MemPlace} (hval : Value.okWide Try.prog w r b0 68 v) (h : DataW.Trod enc Try.prog w 0 (fun _ => true) held 68 v d ps) :
    ∃ kw vw : Int, v = .agg #[.int .i64 kw, .int .i64 vw] := by
  obtain ⟨v0, v1, y0, y1, n, rfl, _, _, h0, h1⟩ := Go.Joins.open_agg2 Try.underlying68 (by kernel_rfl) (by kernel_rfl) hval h
  obtain ⟨a, q0, _, _⟩ := DataW.trod_int Try.underlying3 h0
  obtain ⟨b, q1, _, _⟩ := DataW.trod_int Try.underlying3 h1
  simp only [List.cons.injEq, and_true] at q0 q1
  subst q0 q1
  exact ⟨a, b, rfl⟩
set_option maxRecDepth 100000 in
theorem open_node {r : Reach} {b0 : Nat} {v : Value} {d : DataW H} {ps : List MemPlace} (hval : Value.okWide Try.prog w r b0 66 v) (h : DataW.Trod enc Try.prog w 0 (fun _ => true) held 66 v d ps) :
    ∃ (leaf : Bool) (ka va ia : Option Addr) (kc vc ic : Nat) (keys vals : List (List UInt8)) (kids : List Int), v = .agg #[.bool leaf, .slice ka keys.length kc, .slice va vals.length vc, .slice ia kids.length ic] ∧
      reads (.slice ka keys.length kc) keys.length (keys.map strv) w ∧ reads (.slice va vals.length vc) vals.length (vals.map strv) w ∧ reads (.slice ia kids.length ic) kids.length (kids.map intv) w := by
  obtain ⟨v0, v1, v2, v3, y0, y1, y2, y3, n, rfl, _, _, h0, h1, h2, h3⟩ := Go.Joins.open_agg4 Try.underlying66 (by kernel_rfl) (by kernel_rfl) hval h
  obtain ⟨leaf, q0, _, _⟩ := DataW.trod_bool Try.underlying4 h0
  obtain ⟨ka, kc, keys, rfl, Rk⟩ := open_colS h1
  obtain ⟨va, vc, vals, rfl, Rv⟩ := open_colS h2
  obtain ⟨ia, ic, kids, rfl, Ri⟩ := open_colI h3
  simp only [List.cons.injEq, and_true] at q0
  subst q0
  exact ⟨leaf, ka, va, ia, kc, vc, ic, keys, vals, kids, rfl, Rk, Rv, Ri⟩
end
end Go.Proofs.Ytohdljcpaogokaa
