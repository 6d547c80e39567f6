/-
  Maps whose keys are integers, as lists of keys and values: made, an entry put, looked up. Conditions: none; plain lemmas over any program.
-/
import Derived.Test.YtcpgelpajppgdaaDoorDiffUF1
import Derived.Shelf.Strings.Count
import Derived.Deep.RegionHeld
import Derived.Shelf.Lay
import Derived.Lib.Strings
import Derived.Lib.Walk
import Derived.Lib.Bytealg
namespace Go.SL
section
variable {P : Program} {ops : Array Oper} {rest : List Oper} {o : Oper} {a : Act} {Q : Exit → Act → World → Prop} {w : World} {l : List HProp}

/-- entries with these keys and values -/
def entsOf (ik : IntKind) (kvs : List (Int × Value)) (es : List MapEntry) : Prop := es.map (fun e => (e.key, e.val)) = kvs.map fun p => (.int ik p.1, p.2)
def mapI (r : Nat) (ik : IntKind) (kvs : List (Int × Value)) : HProp := ex fun x : { x : List MapEntry × Nat // entsOf ik kvs x.1 } => [pt r (.map x.1.1.toArray x.1.2)]
def lookI (kvs : List (Int × Value)) (n : Int) (z : Value) : Value := match kvs.find? (fun p => n == p.1) with | some p => p.2 | none => z

theorem findNow_new (ik : IntKind) (n : Int) : ∀ (kvs : List (Int × Value)) (es : List MapEntry) (i : Nat), entsOf ik kvs es → (kvs.all fun p => !(n == p.1)) = true → Instr.findNow (.int ik) (.int ik n) es i = some none
  | [], es, i, h, _ => by
    have : es = [] := by simpa [entsOf] using h
    subst this
    rfl
  | p :: kvs, [], i, h, _ => by simp [entsOf] at h
  | p :: kvs, e :: es, i, h, hn => by
    simp only [entsOf, List.map_cons, List.cons.injEq, Prod.mk.injEq] at h
    simp only [List.all_cons, Bool.and_eq_true, Bool.not_eq_true'] at hn
    unfold Instr.findNow
    rw [h.1.1]
    simp only [Instr.sameNow, if_true, hn.1]
    exact findNow_new ik n kvs es (i + 1) h.2 hn.2
theorem findNow_old (ik : IntKind) (n : Int) : ∀ (kvs : List (Int × Value)) (es : List MapEntry) (i : Nat) (p : Int × Value), entsOf ik kvs es → kvs.find? (fun p => n == p.1) = some p → ∃ j, Instr.findNow (.int ik) (.int ik n) es i = some (some (j, p.2))
  | [], es, i, p, h, hf => by simp at hf
  | q :: kvs, [], i, p, h, _ => by simp [entsOf] at h
  | q :: kvs, e :: es, i, p, h, hf => by
    simp only [entsOf, List.map_cons, List.cons.injEq, Prod.mk.injEq] at h
    unfold Instr.findNow
    rw [h.1.1]
    simp only [Instr.sameNow, if_true]
    cases hq : (n == q.1) with
    | true =>
      simp only [List.find?_cons, hq] at hf
      cases hf
      exact ⟨i, by rw [h.1.2]⟩
    | false =>
      simp only [List.find?_cons, hq] at hf
      exact findNow_old ik n kvs es (i + 1) p h.2 hf

theorem wpl_makeMapI (hE : Ent l w) {t : TypeId} (ik : IntKind) (ho : o.op = .makeMap t none) (hw : Region.wanted o (yielded ops a.tmps) = true)
    (h : ∀ r w', Ent (mapI r ik [] :: l) w' → wpList P ops Q rest (a.put o.dst (.map (some r))) w') : wpList P ops Q (o :: rest) a w :=
  wpl_makeMap hE ho hw fun r w' hE' => h r w' (Ent.pack ⟨([], 0), rfl⟩ hE')

theorem wpl_insertI (hE : Ent l w) (i : Nat) {r : Nat} {ik : IntKind} {kvs : List (Int × Value)} (hi : l[i]? = some (mapI r ik kvs))
    {t kt et : TypeId} {x y z : Operand} (ho : o.op = .insert t x y z) (hw : Region.wanted o (yielded ops a.tmps) = true) (hx : a.eval x = .map (some r)) {n : Int} (hy : a.eval y = .int ik n) {v : Value} (hz : a.eval z = v)
    (ht : P.underlying t = some (.map kt et)) (hk : P.underlying kt = some (.int ik)) (hnew : (kvs.all fun p => !(n == p.1)) = true)
    (h : ∀ w', Ent (l.set i (mapI r ik (kvs ++ [(n, v)]))) w' → wpList P ops Q rest (a.put o.dst undef) w') : wpList P ops Q (o :: rest) a w := by
  obtain ⟨⟨⟨es, c⟩, he⟩, hE1⟩ := Ent.unpack (hE.front i hi)
  refine wpl_insert hE1 0 rfl ho hw hx hy hz ht hk (findNow_new ik n kvs es 0 he hnew) fun w' hE' => h w' ?_
  refine Ent.put ?_ (List.getElem?_eq_some_iff.1 hi).1
  refine Ent.pack ⟨(es ++ [mEnt (.int ik n) v c], c + 1), ?_⟩ hE'
  unfold entsOf at he ⊢
  simp only [List.map_append, he, List.map_cons, List.map_nil]

theorem wpl_lookupI (hE : Ent l w) (i : Nat) {r : Nat} {ik : IntKind} {kvs : List (Int × Value)} (hi : l[i]? = some (mapI r ik kvs))
    {t kt et : TypeId} {x y : Operand} (ho : o.op = .lookup t x y false) (hw : Region.wanted o (yielded ops a.tmps) = true) (hx : a.eval x = .map (some r)) {n : Int} (hy : a.eval y = .int ik n)
    (ht : P.underlying t = some (.map kt et)) (hk : P.underlying kt = some (.int ik)) {z : Value} (hz : ∀ w, (zeroValue et).run P w = .ok z w)
    (h : wpList P ops Q rest (a.put o.dst (lookI kvs n z)) w) : wpList P ops Q (o :: rest) a w := by
  obtain ⟨⟨⟨es, c⟩, he⟩, hE1⟩ := Ent.unpack (hE.front i hi)
  unfold lookI at h
  cases hf : kvs.find? (fun p => n == p.1) with
  | some p =>
    rw [hf] at h
    obtain ⟨j, hj⟩ := findNow_old ik n kvs es 0 p he hf
    exact wpl_lookup hE1 0 rfl ho hw hx hy ht hk hj h
  | none =>
    rw [hf] at h
    refine wpl_lookupNot hE1 0 rfl ho hw hx hy ht hk hz (findNow_new ik n kvs es 0 he ?_) h
    rw [List.all_eq_true]
    intro p hp
    have := List.find?_eq_none.1 hf p hp
    simpa using this
end
attribute [irreducible] mapI
end Go.SL
namespace Go.SL
section
variable {P : Program} {w : World} {l : List HProp}

/-- a cell's value -/
theorem cellM {b : Nat} {cs : Array Value} {T : TypeId} {fz : Nat × Nat} (h : Ent l w) (hm : pt b (.cells cs T fz) ∈ l) (off : Nat) : w.cell? ⟨b, off, none⟩ = cs[off]? := by
  obtain ⟨i, hi⟩ := List.getElem?_of_mem hm
  exact h.cell i hi off
theorem cellV {b : Nat} {cs : Array Value} {T : TypeId} {fz : Nat × Nat} (h : Ent l w) (hm : pt b (.cells cs T fz) ∈ l) {off : Nat} {v : Value} (hv : cs[off]? = some v) : w.cell? ⟨b, off, none⟩ = some v := (cellM h hm off).trans hv
theorem frozenM {b : Nat} {cs : Array Value} {T : TypeId} (h : Ent l w) (hm : pt b (.cells cs T (0, 0)) ∈ l) (off : Nat) : w.frozen? ⟨b, off, none⟩ = false := by
  obtain ⟨i, hi⟩ := List.getElem?_of_mem hm
  exact h.frozen i hi off
theorem atVm {b : Nat} {cs : Array Value} {T : TypeId} {fz : Nat × Nat} (h : Ent l w) (hm : pt b (.cells cs T fz) ∈ l) {t : TypeId} (hA : ∀ w, (isAgg t).run P w = .ok false w) {off : Nat} {v : Value} (hv : cs[off]? = some v) :
    (Instr.loadAt t (.pointer (some ⟨b, off, none⟩))).run P w = .ok v w := by
  obtain ⟨i, hi⟩ := List.getElem?_of_mem hm
  exact run_load1 h i hi hA hv
theorem atAm {b : Nat} {cs : Array Value} {T : TypeId} {fz : Nat × Nat} (h : Ent l w) (hm : pt b (.cells cs T fz) ∈ l) {t : TypeId} (hA : ∀ w, (isAgg t).run P w = .ok true w) {n : Nat} (hn : ∀ w, (Go.sizeOf t).run P w = .ok n w) {off : Nat} {vs : List Value} (hl : vs.length = n) (hv : ∀ j, j < n → cs[off + j]? = vs[j]?) :
    (Instr.loadAt t (.pointer (some ⟨b, off, none⟩))).run P w = .ok (.agg vs.toArray) w := by
  obtain ⟨i, hi⟩ := List.getElem?_of_mem hm
  exact run_loadA h i hi hA hn hl hv
/-- the whole of a block -/
theorem atWm {b : Nat} {vs : List Value} {T : TypeId} {fz : Nat × Nat} (h : Ent l w) (hm : pt b (.cells vs.toArray T fz) ∈ l) {t : TypeId} (hA : ∀ w, (isAgg t).run P w = .ok true w) {n : Nat} (hn : ∀ w, (Go.sizeOf t).run P w = .ok n w) (hl : vs.length = n) :
    (Instr.loadAt t (.pointer (some ⟨b, 0, none⟩))).run P w = .ok (.agg vs.toArray) w := atAm h hm hA hn hl (fun j _ => by simp)
/-- one cell of memory that is known by a fact on cells -/
theorem atCell {ad : Addr} {v : Value} (h : w.cell? ad = some v) {t : TypeId} (hA : ∀ w, (isAgg t).run P w = .ok false w) : (Instr.loadAt t (.pointer (some ad))).run P w = .ok v w := by
  simp [Instr.loadAt, Instr.sureAddr, loadVar, hA, h]
/-- some cells of memory that are known by facts on cells -/
theorem atCells {t : TypeId} (hA : ∀ w, (isAgg t).run P w = .ok true w) {n : Nat} (hn : ∀ w, (Go.sizeOf t).run P w = .ok n w) {ad : Addr} (vs : List Value) (hl : vs.length = n) (hc : ∀ j v, vs[j]? = some v → w.cell? (ad.add j) = some v) :
    (Instr.loadAt t (.pointer (some ad))).run P w = .ok (.agg vs.toArray) w := by
  have hr := run_loadCells_list (P := P) w ad vs hc
  subst hl
  simp [Instr.loadAt, Instr.sureAddr, loadVar, hA, hn, hr]
/-- what stands behind -/
theorem Ent.suf {l' : List HProp} (h : Ent l w) (hs : l' <:+ l) : Ent l' w := by
  obtain ⟨m, rfl⟩ := hs
  exact h.drop
theorem Knows.suf {l' : List HProp} {p : World → Prop} (h : Knows l' p) (hs : l' <:+ l) : Knows l p := fun _ hw => h _ (hw.suf hs)
/-- a suffix, found by the shape of the list -/
instance sfxC {l m n : List HProp} [h : Nonempty (l <:+ m)] : Nonempty (l <:+ n ++ m) := h.elim fun h => ⟨h.trans (List.suffix_append _ _)⟩
instance sfxB {l m : List HProp} {a : HProp} [h : Nonempty (l <:+ m)] : Nonempty (l <:+ a :: m) := h.elim fun h => ⟨h.trans (List.suffix_cons _ _)⟩
instance sfxA {l : List HProp} : Nonempty (l <:+ l) := ⟨List.suffix_refl _⟩
theorem sfx {l m : List HProp} [h : Nonempty (l <:+ m)] : l <:+ m := h.elim fun h => h
section
variable {ops : Array Oper} {o : Oper} {a : Act} {K : Act → World → Prop} {Q : Exit → Act → World → Prop} {E : Prop}
/-- a cell loaded, as one step of a region that draws -/
theorem step_load1 (hE : Ent l w) (i : Nat) {b : Nat} {cs : Array Value} {T : TypeId} {fz : Nat × Nat} (hi : l[i]? = some (pt b (.cells cs T fz))) {t : TypeId} {x : Operand} (ho : o.op = .load t x) (hw : Region.wanted o (yielded ops a.tmps) = true)
    {off : Nat} (hx : a.eval x = .pointer (some ⟨b, off, none⟩)) (hA : ∀ w, (isAgg t).run P w = .ok false w) {v : Value} (hv : cs[off]? = some v) (h : K (a.put o.dst v) w) : if Region.wanted o (yielded ops a.tmps) = true then Oper.wp P o a w K Q else E := by
  rw [if_pos hw]
  have hr : (execOp a.eval o).run P w = .ok (.value v) w := by simp [execOp, ho, hx, run_load1 hE i hi hA hv]
  simp only [Oper.wp, hr, Oper.upon]
  exact h
/-- a whole value written over the whole of a block, as one step of a region that draws -/
theorem step_storeW (hE : Ent l w) (i : Nat) {b : Nat} {cs : Array Value} {T : TypeId} (hi : l[i]? = some (pt b (.cells cs T (0, 0))))
    {t : TypeId} {x y : Operand} (ho : o.op = .store t x y) (hw : Region.wanted o (yielded ops a.tmps) = true)
    (hx : a.eval x = .pointer (some ⟨b, 0, none⟩)) {xs : List Value} (hy : a.eval y = .agg xs.toArray) {n : Nat} (hn : ∀ w, (Go.sizeOf t).run P w = .ok n w) (hc : xs.length = n)
    (h1 : ∀ u ∈ xs, u.oneCell' = true) (hfit : cs.size = n)
    (h : ∀ w', Ent (l.set i (pt b (.cells xs.toArray T (0, 0)))) w' → K (a.put o.dst undef) w') : if Region.wanted o (yielded ops a.tmps) = true then Oper.wp P o a w K Q else E := by
  rw [if_pos hw]
  have hr := run_storeV (P := P) hE i hi (t := t) (v := .agg xs.toArray) hn (by simpa [Value.cells] using hc) (by simpa [Value.cells] using h1) (off := 0) (by omega)
  have e : (cs.toList.take 0 ++ (Value.agg xs.toArray).cells.toList ++ cs.toList.drop (0 + (Value.agg xs.toArray).cells.toList.length)).toArray = xs.toArray := by
    simp [Value.cells, hc, ← hfit]
  rw [e] at hr
  have hx2 : (execOp a.eval o).run P w = .ok .skip (w.setRow b xs.toArray) := by simp [execOp, ho, hx, hy, hr]
  simp only [Oper.wp, hx2, Oper.upon]
  exact h _ (hE.setRow i hi xs.toArray)
end
/-- a counter of a loop -/
def CntRel (n : Nat) (l : List HProp) (i : Value) (wr : World) : Prop := ∃ k : Nat, k ≤ n ∧ i = .int .i64 k ∧ Ent l wr
theorem cat2 (a b : List UInt8) (h : a.length + b.length ≤ 1099511627776) : ∃ p : List UInt8, p = a ++ b ∧ (⟨a.toArray⟩ : ByteArray) ++ ⟨b.toArray⟩ = ⟨p.toArray⟩ ∧ ¬ (9223372036854775807 < a.length + b.length) :=
  ⟨a ++ b, rfl, bytes_join a b, by omega⟩
end
end Go.SL

namespace Go.Proofs.YtcpgelpajppgdaaDoor
open Go.RowKit Go.SL
section
variable {P : Program} {md : Region.Mode} {ops : Array Oper} {Q : Exit → Act → World → Prop} {S : World → Prop}
/-- taken, its value found by a walk's simp -/
theorem tV (i : Nat) (oi : Oper) {v : Value} {fuel : Nat} {listed : Array Bool} {a a' : Act} {w : World} (hS : S w) (h : wpAnyH P md ops Q S fuel (listed.setIfInBounds i true) a' w)
    (hw : Region.wanted oi (yielded ops a.tmps) = true := by rfl)
    (hy : ∀ w, S w → (execOp a.eval oi).run P w = .ok (.value v) w := by intro _ _; go_simp; (try with_reducible rfl))
    (ha : a.put oi.dst v = a' := by first | (simp only [Act.put, sb, s0, sz]; rfl) | rfl)
    (hi : ops[i]? = some oi := by rfl) (hs : Region.noSelect ops = true := by kernel_rfl) (hf : Region.free md ops listed i = true := by kernel_rfl) (hr : (Region.ready md ops listed).contains i = true := by kernel_rfl)
    (hQ : ∀ c a w, Q (.panic c) (a.put oi.dst v) w → Q (.panic c) a w := by exact fun _ _ _ h => h) : wpAnyH P md ops Q S (fuel + 1) listed a w := by
  subst ha
  exact takeW i oi v (.inl ⟨hw, hy⟩) hS h hi hs hf hr hQ
/-- taken, its value found by what is held of the world -/
theorem tL (i : Nat) (oi : Oper) {v : Value} {fuel : Nat} {listed : Array Bool} {a a' : Act} {w : World} (hS : S w) (h : wpAnyH P md ops Q S fuel (listed.setIfInBounds i true) a' w)
    (hw : Region.wanted oi (yielded ops a.tmps) = true := by rfl)
    (hy : ∀ w, S w → (execOp a.eval oi).run P w = .ok (.value v) w := by intro w hSw; (try dsimp only at hSw); go_simp; (try with_reducible rfl))
    (ha : a.put oi.dst v = a' := by first | (simp only [Act.put, sb, s0, sz]; rfl) | rfl)
    (hi : ops[i]? = some oi := by rfl) (hs : Region.noSelect ops = true := by kernel_rfl) (hf : Region.free md ops listed i = true := by kernel_rfl) (hr : (Region.ready md ops listed).contains i = true := by kernel_rfl)
    (hQ : ∀ c a w, Q (.panic c) (a.put oi.dst v) w → Q (.panic c) a w := by exact fun _ _ _ h => h) : wpAnyH P md ops Q S (fuel + 1) listed a w := by
  subst ha
  exact takeW i oi v (.inl ⟨hw, hy⟩) hS h hi hs hf hr hQ
/-- passed over -/
theorem tU (i : Nat) (oi : Oper) {fuel : Nat} {listed : Array Bool} {a a' : Act} {w : World} (hS : S w) (h : wpAnyH P md ops Q S fuel (listed.setIfInBounds i true) a' w)
    (hw : Region.wanted oi (yielded ops a.tmps) = false := by rfl)
    (ha : a.put oi.dst undef = a' := by first | (simp only [Act.put, sb, s0, sz]; rfl) | rfl)
    (hi : ops[i]? = some oi := by rfl) (hs : Region.noSelect ops = true := by kernel_rfl) (hf : Region.free md ops listed i = true := by kernel_rfl) (hr : (Region.ready md ops listed).contains i = true := by kernel_rfl)
    (hQ : ∀ c a w, Q (.panic c) (a.put oi.dst undef) w → Q (.panic c) a w := by exact fun _ _ _ h => h) : wpAnyH P md ops Q S (fuel + 1) listed a w := by
  subst ha
  exact takeW i oi undef (.inr ⟨hw, rfl⟩) hS h hi hs hf hr hQ
end
end Go.Proofs.YtcpgelpajppgdaaDoor
namespace Go.Proofs.YtcpgelpajppgdaaDoor
open Go.RowKit Go.SL

def ordB (a b : List UInt8) : Int := if Op.bytesLess a b = true then -1 else if Op.bytesLess b a = true then 1 else 0
def ordL (a b : List (List UInt8)) : Int := if lessL a b = true then -1 else if lessL b a = true then 1 else 0
theorem nan_any (a : List UInt8) (w : World) : Calls Tryd.prog 74 #[.string ⟨a.toArray⟩] w fun e w' => e = .returned (.bool false) ∧ w' = w := by
  go_enter Tryd.func74, Tryd.ntmps74
  go_wp2
  go_ret
  exact ⟨rfl, rfl⟩
theorem cmpS_any (a b : List UInt8) (w : World) : Calls Tryd.prog 61 #[.string ⟨a.toArray⟩, .string ⟨b.toArray⟩] w fun e w' => e = .returned (.int .i64 (ordB a b)) ∧ w' = w := by
  have hN := SL.hid nan_any
  cases h1 : Op.bytesLess a b with
  | true =>
    have R := SL.hid (show ordB a b = -1 by rw [ordB, if_pos h1])
    go_enter Tryd.func61, Tryd.ntmps61
    go_wp2_with (first | go_skip | (go_at_call 74; refine (hN.out _ _).mono ?_; rintro e w2 ⟨rfl, rfl⟩))
    go_ret
    exact ⟨by rw [R.out]; rfl, rfl⟩
  | false =>
    cases h2 : (a == b) with
    | true =>
      have R := SL.hid (show ordB a b = 0 by
        have e : a = b := by simpa using h2
        subst e
        rw [ordB, bl_irrefl]; rfl)
      go_enter Tryd.func61, Tryd.ntmps61
      go_wp2_with (first | go_skip | (go_at_call 74; refine (hN.out _ _).mono ?_; rintro e w2 ⟨rfl, rfl⟩))
      go_ret
      exact ⟨by rw [R.out]; rfl, rfl⟩
    | false =>
      have R := SL.hid (show ordB a b = 1 by
        have hne : a ≠ b := by intro e; rw [e] at h2; simp at h2
        rw [ordB, if_neg (by rw [h1]; simp), if_pos (bl_total hne h1)])
      go_enter Tryd.func61, Tryd.ntmps61
      go_wp2_with (first | go_skip | (go_at_call 74; refine (hN.out _ _).mono ?_; rintro e w2 ⟨rfl, rfl⟩))
      go_ret
      exact ⟨by rw [R.out]; rfl, rfl⟩
theorem ordL_nil {a b : List (List UInt8)} {k : Nat} (h : a.take k = b.take k) (ha : k < a.length) (hb : k = b.length) : ordL a b = 1 := by
  subst hb
  have e : b.take (min b.length a.length) = a.take (min b.length a.length) := by rw [Nat.min_eq_left (by omega)]; exact h.symm
  have h1 := lessL_end e
  rw [decide_eq_true ha] at h1
  have h2 : lessL a b = false := by
    cases h3 : lessL a b with
    | false => rfl
    | true => have := lessL_trans h1 h3; rw [lessL_irrefl] at this; cases this
  rw [ordL, if_neg (by rw [h2]; simp), if_pos h1]
theorem ordL_at {a b : List (List UInt8)} {k : Nat} (h : a.take k = b.take k) (ha : k < a.length) (hb : k < b.length) (hc : ordB a[k] b[k] ≠ 0) : ordL a b = ordB a[k] b[k] := by
  have h1 := lessL_at h ha hb
  have h2 := lessL_at h.symm hb ha
  unfold ordB at hc ⊢
  by_cases e1 : Op.bytesLess a[k] b[k] = true
  · rw [if_pos e1]
    rw [e1, Bool.true_or] at h1
    rw [ordL, if_pos h1]
  · rw [if_neg e1] at hc ⊢
    by_cases e2 : Op.bytesLess b[k] a[k] = true
    · rw [if_pos e2]
      rw [e2, Bool.true_or] at h2
      have h3 : lessL a b = false := by
        cases h4 : lessL a b with
        | false => rfl
        | true => have := lessL_trans h2 h4; rw [lessL_irrefl] at this; cases this
      rw [ordL, if_neg (by rw [h3]; simp), if_pos h2]
    · rw [if_neg e2] at hc
      exact absurd rfl hc
theorem ordB_zero {a b : List UInt8} (h : ordB a b = 0) : a = b := by
  unfold ordB at h
  split at h
  · cases h
  · next h1 =>
    split at h
    · cases h
    · next h2 =>
      apply Classical.byContradiction
      intro hne
      exact h2 (bl_total hne (by simpa using h1))
theorem ordL_all {a b : List (List UInt8)} (h : a.take a.length = b.take a.length) (hl : a.length ≤ b.length) : ordL a b = if a.length < b.length then -1 else 0 := by
  have e : a.take (min a.length b.length) = b.take (min a.length b.length) := by rw [Nat.min_eq_left hl]; exact h
  have h1 := lessL_end e
  by_cases hlt : a.length < b.length
  · rw [if_pos hlt]
    rw [decide_eq_true hlt] at h1
    rw [ordL, if_pos h1]
  · rw [if_neg hlt]
    have : a = b := by
      rw [List.take_length] at h
      rw [h, List.take_of_length_le (by omega)]
    subst this
    rw [ordL, lessL_irrefl]
    rfl
def ScRel (a b : List (List UInt8)) (l : List HProp) (i : Value) (wr : World) : Prop := ∃ k : Nat, k ≤ a.length ∧ k ≤ b.length ∧ i = .int .i64 k ∧ a.take k = b.take k ∧ Ent l wr
theorem str_at2 {w : World} {ao : Option Addr} {c : Nat} {xs : List (List UInt8)} (h : reads (.slice ao xs.length c) xs.length (xs.map strv) w) {k : Nat} (hk : k < xs.length) : ∃ b o, ao = some ⟨b, o, none⟩ ∧ w.cell? ⟨b, o + k, none⟩ = some (strv xs[k]) := by
  obtain ⟨b, o, rfl, hc⟩ := reads_form h (by omega) (by rw [List.length_map]; omega)
  exact ⟨b, o, rfl, hc k _ (by rw [List.getElem?_map, List.getElem?_eq_getElem hk]; rfl)⟩
set_option maxRecDepth 100000 in
set_option maxHeartbeats 2000000 in
theorem cmpL_any {a b : List (List UInt8)} (hla : a.length ≤ 1000000) (hlb : b.length ≤ 1000000) {ao bo : Option Addr} {c d : Nat} {l : List HProp} {w : World} (ha : Knows l (reads (.slice ao a.length c) a.length (a.map strv))) (hb : Knows l (reads (.slice bo b.length d) b.length (b.map strv))) (hE : Ent l w) :
    Calls Tryd.prog 39 #[.slice ao a.length c, .slice bo b.length d] w (Ret fun v w' => v = .int .i64 (ordL a b) ∧ Ent l w') := by
  have hC := SL.hid cmpS_any
  go_enter Tryd.func39, Tryd.ntmps39
  go_wp2
  go_loopw [11] (fun i wr => ScRel a b l i wr) (fun i _ => a.length - (intOf i).toNat)
  case atStart => exact ⟨0, Nat.zero_le _, Nat.zero_le _, rfl, rfl, hE⟩
  case round =>
    clear hE
    obtain ⟨k, hka, hkb, rfl, hpre, hE⟩ := hrel
    by_cases hlt : k < a.length
    · obtain ⟨ba, oa, rfl, hca⟩ := str_at2 (ha _ hE) hlt
      by_cases hltb : k < b.length
      · obtain ⟨bb, ob, rfl, hcb⟩ := str_at2 (hb _ hE) hltb
        have Hat := SL.hid (ordL_at hpre hlt hltb)
        have hst : a.take (k + 1) = b.take (k + 1) ∨ ordB a[k] b[k] ≠ 0 := by
          by_cases h0 : ordB a[k] b[k] = 0
          · left
            rw [List.take_succ_eq_append_getElem hlt, List.take_succ_eq_append_getElem hltb, hpre, ordB_zero h0]
          · exact .inr h0
        have Hst := SL.hid hst
        have hlbi : decide ((b.length : Int) ≤ (k : Int)) = false := decide_eq_false (by omega)
        have HC := SL.hid (cmpS_any a[k] b[k])
        simp only [strv] at hca hcb
        clear hst hpre
        generalize a[k] = x at *
        generalize b[k] = y at *
        obtain ⟨o, ho⟩ : ∃ o, ordB x y = o := ⟨_, rfl⟩
        rw [ho] at HC Hst Hat
        clear ho
        cases h0 : (o != 0) with
        | true =>
          have R := SL.hid (Hat.out (by simpa using h0))
          go_wp2_with (first | go_skip | (go_at_call 61; refine (HC.out _).mono ?_; rintro e w2 ⟨rfl, rfl⟩))
          go_ret
          exact ⟨_, rfl, by rw [R.out]; rfl, hE⟩
        | false =>
          go_wp2_with (first | go_skip | (go_at_call 61; refine (HC.out _).mono ?_; rintro e w2 ⟨rfl, rfl⟩))
          go_roundw
          case rel => exact ⟨k + 1, hlt, hltb, by first | rfl | simp, Hst.out.resolve_right (by simpa using h0), hE⟩
          case measure => simp [intOf] <;> omega
      · have R := SL.hid (ordL_nil hpre hlt (by omega))
        have hlbi : decide ((b.length : Int) ≤ (k : Int)) = true := decide_eq_true (by omega)
        go_wp2
        go_ret
        exact ⟨_, rfl, by rw [R.out]; rfl, hE⟩
    · obtain rfl : k = a.length := by omega
      have R := SL.hid (ordL_all hpre hkb)
      by_cases hl : a.length < b.length
      · rw [if_pos hl] at R
        go_wp2
        go_ret
        exact ⟨_, rfl, by rw [R.out]; rfl, hE⟩
      · rw [if_neg hl] at R
        go_wp2
        go_ret
        exact ⟨_, rfl, by rw [R.out]; rfl, hE⟩
end Go.Proofs.YtcpgelpajppgdaaDoor
namespace Go.Proofs
open Go.Shelf
shelf_lay Lays.n138 Nm 138 at Tryd as Tryd.lays138
end Go.Proofs
namespace Go.Proofs.YtcpgelpajppgdaaDoor
open Go.RowKit Go.SL

theorem count_any (s : List UInt8) (w : World) : Calls Tryd.prog 76 #[.string ⟨s.toArray⟩, .string ⟨#[47]⟩] w fun e w' => e = .returned (.int .i64 ((s.count 47 : Nat) : Int)) ∧ w' = w := Any.strings_Count_one Tryd.lays138 ⟨s.toArray⟩ 47 w
theorem cuts_count : ∀ s : List UInt8, (cuts s).length = s.count 47 + 1
  | [] => rfl
  | c :: s => by
    have ih := cuts_count s
    rw [cuts_cons]
    by_cases h : c = 47
    · subst h
      simp [ih]
    · have : (c == 47) = false := by simpa using h
      rw [this]
      have hne := cuts_ne s
      cases hc : cuts s with
      | nil => exact absurd hc hne
      | cons x r =>
        rw [hc] at ih
        simp only [List.count_cons, this]
        simpa using ih
theorem splice_at1 {A B : List Value} {z y : Value} : splice (A ++ z :: B) A.length [y] = A ++ y :: B := by simp [splice]
abbrev emptyS : Value := .string ⟨#[]⟩
abbrev rowG (g N : Nat) (pre : List (List UInt8)) : HProp := row 9 1 (.slice (some ⟨g, 0, none⟩) N N) N (pre.map strv ++ List.replicate (N - pre.length) emptyS)
def GsRel (p : List UInt8) (g N : Nat) (l : List HProp) (s i : Value) (wr : World) : Prop :=
  ∃ (pre : List (List UInt8)) (r : List UInt8), s = .string ⟨r.toArray⟩ ∧ i = .int .i64 pre.length ∧ cuts p = pre ++ cuts r ∧ r.length ≤ p.length ∧ Ent (rowG g N pre :: l) wr
set_option maxRecDepth 100000 in
set_option maxHeartbeats 4000000 in
theorem genSplit_any {p : List UInt8} (hp : p.length ≤ 1000000) {l : List HProp} {w : World} (hE : Ent l w) :
    Calls Tryd.prog 62 #[.string ⟨p.toArray⟩, .string ⟨#[47]⟩, .int .i64 0, .int .i64 (-1)] w (Ret fun v w' => ∃ ao c, v = .slice ao (cuts p).length c ∧ Ent (rowS ao c (cuts p) :: l) w') := by
  have hcn := cuts_count p
  have hC := SL.hid (count_any p)
  have hle : p.count 47 ≤ p.length := List.count_le_length
  generalize p.count 47 = cn at *
  have hmin : min ((cn : Int) + 1) ((p.length : Int) + 1) = (cn : Int) + 1 := by omega
  have Hcn := SL.hid hcn
  clear hcn
  go_enter Tryd.func62, Tryd.ntmps62
  go_wp2_with (first
    | go_skip
    | (go_at_call 76; refine (hC.out _).mono ?_; rintro e w2 ⟨rfl, rfl⟩)
    | ((with_reducible (show Go.wpList _ _ _ (Go.Oper.mk _ (.makeSlice _ _ _) _ _ _ _ :: _) _ _)); refine wpl_make hE rfl rfl Tryd.underlying75 (zs := [emptyS]) (size := 1) (bytes := 16) (by kernel_rfl) rfl (by decide) (cn + 1) rfl rfl (by omega) (by omega) ?_; clear hE; intro g w3 hE))
  have e0 : ∀ n : Nat, (List.replicate n [emptyS]).flatten = List.replicate n emptyS := by
    intro n
    induction n with
    | zero => rfl
    | succ n ih => rw [List.replicate_succ, List.flatten_cons, ih]; rfl
  rw [e0] at hE
  clear e0
  go_loopw [0, 10] (fun s i wr => GsRel p g (cn + 1) l s i wr) (fun _ i _ => cn - (intOf i).toNat)
  case atStart => exact ⟨[], p, rfl, rfl, rfl, Nat.le_refl _, hE⟩
  case round =>
    clear hE hmin
    obtain ⟨pre, r, rfl, rfl, hc, hrl, hE⟩ := hrel
    have hlen := congrArg List.length hc
    rw [List.length_append, Hcn.out] at hlen
    have hix := index_one ⟨r.toArray⟩ 47
    have Hc := SL.hid hc
    clear hc
    by_cases hlt : pre.length < cn
    · rcases idx_cuts r with ⟨_, he⟩ | ⟨k, hk, hi, he⟩
      · rw [he] at hlen; simp at hlen; omega
      · simp only [List.toList_toArray] at hix
        rw [hi] at hix
        have HI := SL.hid hix
        have hkn : decide ((k : Int) < 0) = false := decide_eq_false (by omega)
        have hkl : (k : Int) ≤ (r.length : Int) := by omega
        have hkl1 : (k : Int) + 1 ≤ (r.length : Int) := by omega
        have hex : (⟨r.toArray⟩ : ByteArray).extract 0 k = ⟨(r.take k).toArray⟩ := by rw [extract_mk]; simp
        have hex2 : (⟨r.toArray⟩ : ByteArray).extract (k + 1) r.length = ⟨(r.drop (k + 1)).toArray⟩ := by rw [extract_mk, List.take_of_length_le (by simp)]
        have Hst := SL.hid (show cuts p = (pre ++ [r.take k]) ++ cuts (r.drop (k + 1)) by rw [Hc.out, he]; simp)
        have hsp : splice (pre.map strv ++ List.replicate (cn + 1 - pre.length) emptyS) pre.length [strv (r.take k)] = (pre ++ [r.take k]).map strv ++ List.replicate (cn + 1 - (pre.length + 1)) emptyS := by
          rw [show cn + 1 - pre.length = (cn + 1 - (pre.length + 1)) + 1 by omega, List.replicate_succ]
          have := splice_at1 (A := pre.map strv) (B := List.replicate (cn + 1 - (pre.length + 1)) emptyS) (z := emptyS) (y := strv (r.take k))
          rw [List.length_map] at this
          rw [this]
          simp
        have Hsp := SL.hid hsp
        have hdl : (r.drop (k + 1)).length ≤ p.length := by rw [List.length_drop]; omega
        have Hdl := SL.hid hdl
        clear hsp hdl hix hi he hlen
        have hpi : (pre.length : Int) < ((cn + 1 : Nat) : Int) := by omega
        generalize r.take k = x at *
        generalize r.drop (k + 1) = r2 at *
        go_wp2_with (first
          | go_skip
          | (go_at_call 77; refine (HI.out _).mono ?_; rintro e w2 ⟨rfl, rfl⟩)
          | ((with_reducible (show Go.wpList _ _ _ (Go.Oper.mk _ (.store _ _ _) _ _ _ _ :: _) _ _)); refine wpl_storeRow hE 0 rfl (off := pre.length) (ys := [strv x]) rfl rfl rfl rfl (k := 1) (by simp [go_sem]) rfl rfl (by simp [strv, Value.oneCell']) (by omega) ?_; clear hE; intro w5 hE; simp only [List.set_cons_zero] at hE))
        go_roundw
        case rel => exact ⟨pre ++ [x], r2, rfl, by simp, Hst.out, Hdl.out, by have := hE; rw [Hsp.out] at this; simpa [rowG] using this⟩
        case measure => simp [intOf] <;> omega
    · have hpl : pre.length = cn := by
        have := List.length_pos_iff.2 (cuts_ne r)
        omega
      have hr : cuts r = [r] := by
        rcases idx_cuts r with ⟨_, he⟩ | ⟨k, hk, hi, he⟩
        · exact he
        · rw [he] at hlen
          have := List.length_pos_iff.2 (cuts_ne (r.drop (k + 1)))
          simp at hlen
          omega
      have hcu : cuts p = pre ++ [r] := by rw [Hc.out, hr]
      have hsp : splice (pre.map strv ++ List.replicate (cn + 1 - pre.length) emptyS) pre.length [strv r] = (cuts p).map strv := by
        rw [show cn + 1 - pre.length = 0 + 1 by omega, List.replicate_succ, List.replicate_zero]
        have := splice_at1 (A := pre.map strv) (B := []) (z := emptyS) (y := strv r)
        rw [List.length_map] at this
        rw [this, hcu]
        simp
      have Hsp := SL.hid hsp
      have Hpl := SL.hid hpl
      clear hsp hr hcu hlen hix
      have hpi : (pre.length : Int) < (cn : Int) + 1 := by omega
      have hpj : (pre.length : Int) + 1 ≤ (cn : Int) + 1 := by omega
      have hge : decide ((pre.length : Int) < (cn : Int)) = false := decide_eq_false (by omega)
      have hfit : pre.length + 1 ≤ (cn + 1) * 1 := by omega
      clear hpl
      go_wp2_with (first
        | go_skip
        | ((with_reducible (show Go.wpList _ _ _ (Go.Oper.mk _ (.store _ _ _) _ _ _ _ :: _) _ _)); refine wpl_storeRow hE 0 rfl (off := pre.length) (ys := [strv r]) rfl rfl rfl rfl (k := 1) (by simp [go_sem]) rfl rfl (by simp [strv, Value.oneCell']) hfit ?_; clear hE; intro w5 hE; simp only [List.set_cons_zero] at hE))
      go_ret
      refine ⟨_, rfl, some ⟨g, 0, none⟩, cn + 1, by rw [Hcn.out, ← Hpl.out]; rfl, ?_⟩
      have hF : Ent (row 9 1 (.slice (some ⟨g, 0, none⟩) (cn + 1) (cn + 1)) (cn + 1) (splice (pre.map strv ++ List.replicate (cn + 1 - pre.length) emptyS) pre.length [strv r]) :: l) w5 := hE
      rw [Hsp.out] at hF
      rw [rowS, Hcn.out]
      exact hF
set_option maxRecDepth 100000 in
theorem SplitT_any {p : List UInt8} (hp : p.length ≤ 1000000) {l : List HProp} {w : World} (hE : Ent l w) :
    Calls Tryd.prog 40 #[.string ⟨p.toArray⟩, .string ⟨#[47]⟩] w (Ret fun v w' => ∃ ao c, v = .slice ao (cuts p).length c ∧ Ent (rowS ao c (cuts p) :: l) w') := by
  have hG := SL.hid (genSplit_any hp hE)
  go_enter Tryd.func40, Tryd.ntmps40
  go_wp2_with (first
    | go_skip
    | (go_at_call 62; refine hG.out.mono ?_; clear hE; rintro e w2 ⟨v, rfl, ao, c, rfl, hE⟩))
  go_ret
  exact ⟨_, rfl, ao, c, rfl, hE⟩
set_option maxRecDepth 100000 in
theorem Order_any {p q : List UInt8} (hp : p.length ≤ 100000) (hq : q.length ≤ 100000) {l : List HProp} {w : World} (hE : Ent l w) :
    Calls Tryd.prog 17 #[.string ⟨p.toArray⟩, .string ⟨q.toArray⟩] w (Ret fun v w' => v = .int .i64 (ordP p q) ∧ Ent l w') := by
  have hlp := (cuts_len p).1
  have hlq := (cuts_len q).1
  have hS1 := SL.hid (fun (L : List HProp) (w : World) (h : Ent L w) => SplitT_any (p := p) (by omega) h)
  have hS2 := SL.hid (fun (L : List HProp) (w : World) (h : Ent L w) => SplitT_any (p := q) (by omega) h)
  have hC := SL.hid (fun (a : Option Addr) (c : Nat) (b : Option Addr) (d : Nat) (w : World) (h : Ent (rowS b d (cuts q) :: rowS a c (cuts p) :: l) w) =>
    show Calls Tryd.prog 39 #[.slice a (cuts p).length c, .slice b (cuts q).length d] w (Ret fun v w' => v = .int .i64 (ordP p q) ∧ Ent (rowS b d (cuts q) :: rowS a c (cuts p) :: l) w') from
      cmpL_any (by omega) (by omega) (fun w h => reads_row h 1 rfl) (fun w h => reads_row h 0 rfl) h)
  clear hlp hlq
  generalize ordP p q = o at *
  generalize cuts p = cp at *
  generalize cuts q = cq at *
  go_enter Tryd.func17, Tryd.ntmps17
  go_wp2_with (first
    | go_skip
    | (go_at_call 40; refine (hS1.out _ _ hE).mono ?_; clear hE hS1; rintro e w2 ⟨v, rfl, a, c, rfl, hE⟩)
    | (go_at_call 40; refine (hS2.out _ _ hE).mono ?_; clear hE; rintro e w3 ⟨v, rfl, b, d, rfl, hE⟩)
    | (go_at_call 39; refine (hC.out _ _ _ _ _ hE).mono ?_; clear hE; rintro e w4 ⟨v, rfl, rfl, hE⟩))
  go_ret
  exact ⟨_, rfl, rfl, hE.tail.tail⟩
end Go.Proofs.YtcpgelpajppgdaaDoor
namespace Go.Proofs.YtcpgelpajppgdaaDoor
open Go.RowKit Go.SL

def RsRel (p : List UInt8) (l : List HProp) (o fr i : Value) (wr : World) : Prop :=
  ∃ (pre : List (List UInt8)) (f k : Nat) (ao : Option Addr) (c : Nat), o = .slice ao pre.length c ∧ fr = .int .i64 f ∧ i = .int .i64 k ∧ pre.all isName = true ∧ pre.length ≤ k ∧ k ≤ p.length + 1 ∧
    ((f ≤ k ∧ k ≤ p.length ∧ cuts p = pre ++ cuts (p.drop f) ∧ ∀ b ∈ (p.drop f).take (k - f), b ≠ 47) ∨ (k = p.length + 1 ∧ cuts p = pre)) ∧ Ent (rowS ao c pre :: l) wr
theorem slash_next {p : List UInt8} {f k : Nat} (hf : f ≤ k) (hk : k < p.length) : (p.drop f).take (k + 1 - f) = (p.drop f).take (k - f) ++ [p.getD k 0] := by
  have h : k - f < (p.drop f).length := by rw [List.length_drop]; omega
  rw [show k + 1 - f = (k - f) + 1 by omega, List.take_succ_eq_append_getElem h, List.getElem_drop]
  congr 2
  rw [List.getD_eq_getElem?_getD, List.getElem?_eq_getElem hk]
  simp [show f + (k - f) = k by omega]
theorem slash_cut {p : List UInt8} {f k : Nat} (hf : f ≤ k) (hk : k < p.length) (h : p.getD k 0 = 47) (ha : ∀ b ∈ (p.drop f).take (k - f), b ≠ 47) : cuts (p.drop f) = (p.drop f).take (k - f) :: cuts (p.drop (k + 1)) := by
  have e : p.drop f = (p.drop f).take (k - f) ++ 47 :: p.drop (k + 1) := by
    have h2 := slash_next hf hk
    rw [h] at h2
    have h3 := (List.take_append_drop (k + 1 - f) (p.drop f)).symm
    rw [List.drop_drop, show f + (k + 1 - f) = k + 1 by omega, h2, List.append_assoc] at h3
    exact h3
  conv => lhs; rw [e]
  exact cuts_app _ ha
theorem slash_last {p : List UInt8} {f : Nat} (hf : f ≤ p.length) (ha : ∀ b ∈ (p.drop f).take (p.length - f), b ≠ 47) : (p.drop f).take (p.length - f) = p.drop f ∧ cuts (p.drop f) = [p.drop f] := by
  have e : (p.drop f).take (p.length - f) = p.drop f := List.take_of_length_le (by rw [List.length_drop]; omega)
  rw [e] at ha
  exact ⟨e, cuts_free ha⟩

set_option maxRecDepth 100000 in
set_option maxHeartbeats 4000000 in
theorem rSplit_any {p : List UInt8} (hp : p.length ≤ 1000000) {l : List HProp} {w : World} (hE : Ent l w) :
    Calls Tryd.prog 64 #[.string ⟨p.toArray⟩] w (Ret fun v w' => ∃ ao c, v = .tuple #[.slice ao (splitL p).length c, .int .i64 (splitE p)] ∧ Ent (rowS ao c (splitL p) :: l) w') := by
  by_cases h0 : p = []
  · subst h0
    go_enter Tryd.func64, Tryd.ntmps64
    go_wp2
    go_ret2
    exact ⟨_, rfl, none, 0, rfl, hE.nil _ _⟩
  have hne : (p == []) = false := by simpa using h0
  go_enter Tryd.func64, Tryd.ntmps64
  go_wp2
  go_loopw [4, 5, 6] (fun o fr i wr => RsRel p l o fr i wr) (fun _ _ i _ => p.length + 1 - (intOf i).toNat)
  case atStart => exact ⟨[], 0, 0, none, 0, rfl, rfl, rfl, rfl, Nat.le_refl _, Nat.zero_le _, .inl ⟨Nat.le_refl _, Nat.zero_le _, rfl, by simp⟩, hE.nil _ _⟩
  case round =>
    clear hE
    obtain ⟨pre, f, k, ao, c, rfl, rfl, rfl, hall, hpk, hkl, hst, hE⟩ := hrel
    have Hall := SL.hid hall
    clear hall
    by_cases hlt : k ≤ p.length
    · obtain ⟨hf, _, hc, ha⟩ := hst.resolve_right (by rintro ⟨h, _⟩; omega)
      clear hst
      have hwk : wrap64 ((k : Int) + 1) = ((k + 1 : Nat) : Int) := by unfold wrap64; omega
      have hex : (⟨p.toArray⟩ : ByteArray).extract f k = ⟨((p.drop f).take (k - f)).toArray⟩ := extract_mk p f k
      have hN := fun w => rName_any ((p.drop f).take (k - f)) (by rw [List.length_take, List.length_drop]; omega) w
      by_cases hi : k < p.length
      · have hix := str_at p k (by rw [bytes_size]; exact hi)
        have Hnx := SL.hid (slash_next hf hi)
        have Hct := SL.hid (slash_cut hf hi)
        cases h47 : (((p.getD k 0).toNat : Int) != 47) with
        | true =>
          have H1 := SL.hid (show p.getD k 0 ≠ 47 by intro e; rw [e] at h47; simp at h47)
          have Hc := SL.hid hc
          have Ha := SL.hid ha
          clear hc ha hex hN
          generalize p.getD k 0 = b at *
          go_wp2
          go_roundw
          case rel =>
            refine ⟨pre, f, k + 1, ao, c, rfl, rfl, by first | rfl | simp, Hall.out, by omega, by omega, .inl ⟨by omega, by omega, Hc.out, ?_⟩, hE⟩
            rw [Hnx.out]
            intro d hd
            simp only [List.mem_append, List.mem_singleton] at hd
            rcases hd with hd | rfl
            · exact Ha.out d hd
            · exact H1.out
          case measure => simp [intOf] <;> omega
        | false =>
          have e47 : p.getD k 0 = 47 := by
            have : (p.getD k 0).toNat = 47 := by
              have h : ((p.getD k 0).toNat : Int) = 47 := by simpa using h47
              omega
            rw [← UInt8.toNat_inj, this]; rfl
          have Hcc := SL.hid (show cuts p = (pre ++ [(p.drop f).take (k - f)]) ++ cuts (p.drop (k + 1)) by rw [hc, Hct.out e47 ha]; simp)
          have hlx : ((p.drop f).take (k - f)).length ≤ 1000000 := by rw [List.length_take, List.length_drop]; omega
          clear hc ha Hct Hnx
          generalize (p.drop f).take (k - f) = x at *
          generalize p.getD k 0 = b at *
          cases hn : isName x with
          | false =>
            rw [hn] at hN
            have R := SL.hid (split_bad h0 (x := x) (by rw [Hcc.out]; simp) hn)
            clear hn
            go_wp2_with (first
              | go_skip
              | (go_at_call 78; refine (hN _).mono ?_; rintro e w2 ⟨rfl, rfl⟩))
            go_ret2
            exact ⟨_, rfl, none, 0, by rw [R.out.1, R.out.2]; rfl, by rw [R.out.1]; exact hE.tail.nil _ _⟩
          | true =>
            rw [hn] at hN
            have Hn := SL.hid (show (pre ++ [x]).all isName = true by rw [List.all_append, Hall.out]; simp [hn])
            clear hn
            go_wp2_with (first
              | go_skip
              | (go_at_call 78; refine (hN _).mono ?_; rintro e w2 ⟨rfl, rfl⟩)
              | ((with_reducible (show Go.wpList _ _ _ (Go.Oper.mk _ (.call { callee := .builtin .append, args := _, argTypes := _ }) _ _ _ _ :: _) _ _)); have hE9 := hE.alloc (.cells #[.string ⟨x.toArray⟩] 9); refine wpl_appendG hE9 1 rfl rfl rfl rfl rfl Tryd.underlying75 info_str (by decide) (m := 1) (news := [strv x]) (reads_pt hE9 0 rfl (off := 0) (fun j u hu => by rw [Nat.zero_add, List.getElem?_toArray]; exact hu)) rfl (by simp [strv, Value.oneCell']) (by omega) (by omega) ?_; clear hE9 hE; intro ao' c' w6 hE10; simp only [List.set_cons_zero, List.set_cons_succ] at hE10))
            go_roundw
            case measure => simp [intOf] <;> omega
            case rel =>
              have hF := hE10.tail
              have e1 : (pre ++ [x]).length = pre.length + 1 := by simp
              have e2 : (pre ++ [x]).map strv = pre.map strv ++ [strv x] := by simp
              refine ⟨pre ++ [x], k + 1, k + 1, ao', c', by rw [e1], by first | rfl | simp, by first | rfl | simp, Hn.out, by rw [e1]; omega, by omega, .inl ⟨Nat.le_refl _, by omega, Hcc.out, by simp⟩, by simp only [rowS, e1, e2]; exact hF⟩
      · obtain rfl : k = p.length := by omega
        obtain ⟨ex, ec⟩ := slash_last hf ha
        have Hcc := SL.hid (show cuts p = pre ++ [(p.drop f).take (p.length - f)] by rw [hc, ec, ex])
        have hlx : ((p.drop f).take (p.length - f)).length ≤ 1000000 := by rw [List.length_take, List.length_drop]; omega
        clear hc ha ex ec
        generalize (p.drop f).take (p.length - f) = x at *
        cases hn : isName x with
        | false =>
          rw [hn] at hN
          have R := SL.hid (split_bad h0 (x := x) (by rw [Hcc.out]; simp) hn)
          clear hn
          go_wp2_with (first
            | go_skip
            | (go_at_call 78; refine (hN _).mono ?_; rintro e w2 ⟨rfl, rfl⟩))
          go_ret2
          exact ⟨_, rfl, none, 0, by rw [R.out.1, R.out.2]; rfl, by rw [R.out.1]; exact hE.tail.nil _ _⟩
        | true =>
          rw [hn] at hN
          have Hn := SL.hid (show (pre ++ [x]).all isName = true by rw [List.all_append, Hall.out]; simp [hn])
          clear hn
          go_wp2_with (first
            | go_skip
            | (go_at_call 78; refine (hN _).mono ?_; rintro e w2 ⟨rfl, rfl⟩)
            | ((with_reducible (show Go.wpList _ _ _ (Go.Oper.mk _ (.call { callee := .builtin .append, args := _, argTypes := _ }) _ _ _ _ :: _) _ _)); have hE9 := hE.alloc (.cells #[.string ⟨x.toArray⟩] 9); refine wpl_appendG hE9 1 rfl rfl rfl rfl rfl Tryd.underlying75 info_str (by decide) (m := 1) (news := [strv x]) (reads_pt hE9 0 rfl (off := 0) (fun j u hu => by rw [Nat.zero_add, List.getElem?_toArray]; exact hu)) rfl (by simp [strv, Value.oneCell']) (by omega) (by omega) ?_; clear hE9 hE; intro ao' c' w6 hE10; simp only [List.set_cons_zero, List.set_cons_succ] at hE10))
          go_roundw
          case measure => simp [intOf] <;> omega
          case rel =>
            have hF := hE10.tail
            have e1 : (pre ++ [x]).length = pre.length + 1 := by simp
            have e2 : (pre ++ [x]).map strv = pre.map strv ++ [strv x] := by simp
            refine ⟨pre ++ [x], p.length + 1, p.length + 1, ao', c', by rw [e1], by first | rfl | simp, by first | rfl | simp, Hn.out, by rw [e1]; omega, by omega, .inr ⟨by omega, by rw [Hcc.out]⟩, by simp only [rowS, e1, e2]; exact hF⟩
    · obtain ⟨_, hc⟩ := hst.resolve_left (by rintro ⟨_, h, _⟩; omega)
      have hall := Hall.out
      rw [← hc] at hall hE ⊢
      by_cases h6 : (cuts p).length ≤ 6
      · have R := SL.hid (split_good h0 hall h6)
        have hd : decide ((6 : Int) < ((cuts p).length : Int)) = false := decide_eq_false (by omega)
        clear h6 hall hc hst
        go_wp2
        go_ret2
        exact ⟨_, rfl, ao, c, by rw [R.out.1, R.out.2]; rfl, by rw [R.out.1]; exact hE⟩
      · have R := SL.hid (split_many h0 hall h6)
        have hd : (6 : Int) < ((cuts p).length : Int) := by omega
        clear h6 hall hc hst
        go_wp2
        go_ret2
        exact ⟨_, rfl, none, 0, by rw [R.out.1, R.out.2]; rfl, by rw [R.out.1]; exact hE.tail.nil _ _⟩
end Go.Proofs.YtcpgelpajppgdaaDoor
namespace Go.Proofs.YtcpgelpajppgdaaDoor
open Go.RowKit Go.SL

def PcRel (p : List UInt8) (l : List HProp) (o fr i : Value) (wr : World) : Prop :=
  ∃ (pre : List (List UInt8)) (f k : Nat) (ao : Option Addr) (c : Nat), o = .slice ao pre.length c ∧ fr = .int .i64 f ∧ i = .int .i64 k ∧ pre.length ≤ k ∧ k ≤ p.length + 1 ∧
    ((f ≤ k ∧ k ≤ p.length ∧ cuts p = pre ++ cuts (p.drop f) ∧ ∀ b ∈ (p.drop f).take (k - f), b ≠ 47) ∨ (k = p.length + 1 ∧ cuts p = pre)) ∧ Ent (rowS ao c pre :: l) wr
set_option maxRecDepth 100000 in
set_option maxHeartbeats 4000000 in
theorem pieces_any {p : List UInt8} (hp : p.length ≤ 1000000) {l : List HProp} {w : World} (hE : Ent l w) :
    Calls Tryd.prog 41 #[.string ⟨p.toArray⟩] w (Ret fun v w' => ∃ ao c, v = .slice ao (cuts p).length c ∧ Ent (rowS ao c (cuts p) :: l) w') := by
  go_enter Tryd.func41, Tryd.ntmps41
  go_wp2
  go_loopw [3, 4, 5] (fun o fr i wr => PcRel p l o fr i wr) (fun _ _ i _ => p.length + 1 - (intOf i).toNat)
  case atStart => exact ⟨[], 0, 0, none, 0, rfl, rfl, rfl, Nat.le_refl _, Nat.zero_le _, .inl ⟨Nat.le_refl _, Nat.zero_le _, rfl, by simp⟩, hE.nil _ _⟩
  case round =>
    clear hE
    obtain ⟨pre, f, k, ao, c, rfl, rfl, rfl, hpk, hkl, hst, hE⟩ := hrel
    by_cases hlt : k ≤ p.length
    · obtain ⟨hf, _, hc, ha⟩ := hst.resolve_right (by rintro ⟨h, _⟩; omega)
      clear hst
      have hwk : wrap64 ((k : Int) + 1) = ((k + 1 : Nat) : Int) := by unfold wrap64; omega
      have hex : (⟨p.toArray⟩ : ByteArray).extract f k = ⟨((p.drop f).take (k - f)).toArray⟩ := extract_mk p f k
      by_cases hi : k < p.length
      · have hix := str_at p k (by rw [bytes_size]; exact hi)
        have Hnx := SL.hid (slash_next hf hi)
        have Hct := SL.hid (slash_cut hf hi)
        cases h47 : (((p.getD k 0).toNat : Int) == 47) with
        | false =>
          have H1 := SL.hid (show p.getD k 0 ≠ 47 by intro e; rw [e] at h47; simp at h47)
          have Hc := SL.hid hc
          have Ha := SL.hid ha
          clear hc ha hex
          generalize p.getD k 0 = b at *
          go_wp2
          go_roundw
          case rel =>
            refine ⟨pre, f, k + 1, ao, c, rfl, rfl, by first | rfl | simp, by omega, by omega, .inl ⟨by omega, by omega, Hc.out, ?_⟩, hE⟩
            rw [Hnx.out]
            intro d hd
            simp only [List.mem_append, List.mem_singleton] at hd
            rcases hd with hd | rfl
            · exact Ha.out d hd
            · exact H1.out
          case measure => simp [intOf] <;> omega
        | true =>
          have e47 : p.getD k 0 = 47 := by
            have : (p.getD k 0).toNat = 47 := by
              have h : ((p.getD k 0).toNat : Int) = 47 := by simpa using h47
              omega
            rw [← UInt8.toNat_inj, this]; rfl
          have Hcc := SL.hid (show cuts p = (pre ++ [(p.drop f).take (k - f)]) ++ cuts (p.drop (k + 1)) by rw [hc, Hct.out e47 ha]; simp)
          clear hc ha Hct Hnx
          generalize (p.drop f).take (k - f) = x at *
          generalize p.getD k 0 = b at *
          go_wp2_with (first
            | go_skip
            | ((with_reducible (show Go.wpList _ _ _ (Go.Oper.mk _ (.call { callee := .builtin .append, args := _, argTypes := _ }) _ _ _ _ :: _) _ _)); have hE9 := hE.alloc (.cells #[.string ⟨x.toArray⟩] 9); refine wpl_appendG hE9 1 rfl rfl rfl rfl rfl Tryd.underlying75 info_str (by decide) (m := 1) (news := [strv x]) (reads_pt hE9 0 rfl (off := 0) (fun j u hu => by rw [Nat.zero_add, List.getElem?_toArray]; exact hu)) rfl (by simp [strv, Value.oneCell']) (by omega) (by omega) ?_; clear hE9 hE; intro ao' c' w6 hE10; simp only [List.set_cons_zero, List.set_cons_succ] at hE10))
          go_roundw
          case measure => simp [intOf] <;> omega
          case rel =>
            have hF := hE10.tail
            have e1 : (pre ++ [x]).length = pre.length + 1 := by simp
            have e2 : (pre ++ [x]).map strv = pre.map strv ++ [strv x] := by simp
            refine ⟨pre ++ [x], k + 1, k + 1, ao', c', by rw [e1], by first | rfl | simp, by first | rfl | simp, by rw [e1]; omega, by omega, .inl ⟨Nat.le_refl _, by omega, Hcc.out, by simp⟩, by simp only [rowS, e1, e2]; exact hF⟩
      · obtain rfl : k = p.length := by omega
        obtain ⟨ex, ec⟩ := slash_last hf ha
        have Hcc := SL.hid (show cuts p = pre ++ [(p.drop f).take (p.length - f)] by rw [hc, ec, ex])
        clear hc ha ex ec
        generalize (p.drop f).take (p.length - f) = x at *
        go_wp2_with (first
          | go_skip
          | ((with_reducible (show Go.wpList _ _ _ (Go.Oper.mk _ (.call { callee := .builtin .append, args := _, argTypes := _ }) _ _ _ _ :: _) _ _)); have hE9 := hE.alloc (.cells #[.string ⟨x.toArray⟩] 9); refine wpl_appendG hE9 1 rfl rfl rfl rfl rfl Tryd.underlying75 info_str (by decide) (m := 1) (news := [strv x]) (reads_pt hE9 0 rfl (off := 0) (fun j u hu => by rw [Nat.zero_add, List.getElem?_toArray]; exact hu)) rfl (by simp [strv, Value.oneCell']) (by omega) (by omega) ?_; clear hE9 hE; intro ao' c' w6 hE10; simp only [List.set_cons_zero, List.set_cons_succ] at hE10))
        go_roundw
        case measure => simp [intOf] <;> omega
        case rel =>
          have hF := hE10.tail
          have e1 : (pre ++ [x]).length = pre.length + 1 := by simp
          have e2 : (pre ++ [x]).map strv = pre.map strv ++ [strv x] := by simp
          refine ⟨pre ++ [x], p.length + 1, p.length + 1, ao', c', by rw [e1], by first | rfl | simp, by first | rfl | simp, by rw [e1]; omega, by omega, .inr ⟨by omega, by rw [Hcc.out]⟩, by simp only [rowS, e1, e2]; exact hF⟩
    · obtain ⟨_, hc⟩ := hst.resolve_left (by rintro ⟨_, h, _⟩; omega)
      clear hst
      subst hc
      go_wp2
      go_ret
      exact ⟨_, rfl, ao, c, rfl, hE⟩
def RoRel (a b : List (List UInt8)) (l : List HProp) (i : Value) (wr : World) : Prop := ∃ k : Nat, k ≤ a.length ∧ k ≤ b.length ∧ i = .int .i64 k ∧ a.take k = b.take k ∧ Ent l wr
theorem ordL_less {a b : List (List UInt8)} {k : Nat} (h : a.take k = b.take k) (ha : k < a.length) (hb : k < b.length) : (Op.bytesLess a[k] b[k] = true → ordL a b = -1) ∧ (Op.bytesLess a[k] b[k] = false → (a[k] == b[k]) = false → ordL a b = 1) ∧ ((a[k] == b[k]) = true → a.take (k + 1) = b.take (k + 1)) := by
  refine ⟨fun h1 => ?_, fun h1 h2 => ?_, fun h1 => ?_⟩
  · have e : ordB a[k] b[k] = -1 := by rw [ordB, if_pos h1]
    rw [ordL_at h ha hb (by rw [e]; decide), e]
  · have hne : a[k] ≠ b[k] := by intro e; rw [e] at h2; simp at h2
    have e : ordB a[k] b[k] = 1 := by rw [ordB, if_neg (by rw [h1]; simp), if_pos (bl_total hne h1)]
    rw [ordL_at h ha hb (by rw [e]; decide), e]
  · rw [List.take_succ_eq_append_getElem ha, List.take_succ_eq_append_getElem hb, h, beq_iff_eq.1 h1]
end Go.Proofs.YtcpgelpajppgdaaDoor
namespace Go.Proofs.YtcpgelpajppgdaaDoor
open Go.RowKit Go.SL

theorem ordL_short {a b : List (List UInt8)} {k : Nat} (h : a.take k = b.take k) (ha : k ≤ a.length) (hb : k ≤ b.length) (he : k = a.length ∨ k = b.length) : ordL a b = if a.length < b.length then -1 else if b.length < a.length then 1 else 0 := by
  by_cases hk : k = a.length
  · subst hk
    have := ordL_all h hb
    rw [this]
    by_cases h1 : a.length < b.length
    · rw [if_pos h1, if_pos h1]
    · rw [if_neg h1, if_neg h1, if_neg (by omega)]
  · have hkb : k = b.length := he.resolve_left hk
    have := ordL_nil h (by omega) hkb
    rw [this, if_neg (by omega), if_pos (by omega)]
set_option maxRecDepth 100000 in
set_option maxHeartbeats 4000000 in
attribute [-go_sem] Instr.loadAt in
theorem rOrder_any {p q : List UInt8} (hp : p.length ≤ 100000) (hq : q.length ≤ 100000) {l : List HProp} {w : World} (hE : Ent l w) :
    Calls Tryd.prog 18 #[.string ⟨p.toArray⟩, .string ⟨q.toArray⟩] w (Ret fun v w' => v = .int .i64 (ordP p q) ∧ Ent l w') := by
  have hlp := (cuts_len p).1
  have hlq := (cuts_len q).1
  have hS1 := SL.hid (fun (L : List HProp) (w : World) (h : Ent L w) => pieces_any (p := p) (by omega) h)
  have hS2 := SL.hid (fun (L : List HProp) (w : World) (h : Ent L w) => pieces_any (p := q) (by omega) h)
  have Ho := SL.hid (show ordP p q = ordL (cuts p) (cuts q) from rfl)
  have hla : (cuts p).length ≤ 1000000 := by omega
  have hlb : (cuts q).length ≤ 1000000 := by omega
  clear hlp hlq
  generalize cuts p = a at *
  generalize cuts q = b at *
  go_enter Tryd.func18, Tryd.ntmps18
  go_wp2_with (first
    | go_skip
    | (go_at_call 41; refine (hS1.out _ _ hE).mono ?_; clear hE hS1; rintro e w2 ⟨v, rfl, ao, c, rfl, hE⟩)
    | (go_at_call 41; refine (hS2.out _ _ hE).mono ?_; clear hE; rintro e w3 ⟨v, rfl, bo, d, rfl, hE⟩))
  obtain ⟨LL, hEL, ha, hb, hl⟩ : ∃ LL, Ent LL w3 ∧ Knows LL (reads (.slice ao a.length c) a.length (a.map strv)) ∧ Knows LL (reads (.slice bo b.length d) b.length (b.map strv)) ∧ ∀ w, Ent LL w → Ent l w := ⟨_, hE, fun w h => reads_row h 1 rfl, fun w h => reads_row h 0 rfl, fun w h => h.tail.tail⟩
  clear hE
  have hE := hEL
  clear hEL
  go_loopw [7] (fun i wr => RoRel a b LL i wr) (fun i _ => a.length - (intOf i).toNat)
  case atStart => exact ⟨0, Nat.zero_le _, Nat.zero_le _, rfl, rfl, hE⟩
  case round =>
    clear hE
    obtain ⟨k, hka, hkb, rfl, hpre, hE⟩ := hrel
    by_cases hlt : k < a.length
    · by_cases hltb : k < b.length
      · obtain ⟨ba, oa, rfl, hz⟩ := str_at2 (ha _ hE) hlt
        obtain ⟨bb, ob, rfl, hz2⟩ := str_at2 (hb _ hE) hltb
        clear hz hz2
        have f1 := SL.hid (show ∀ w, Ent LL w → w.cell? ⟨ba, oa + k, none⟩ = some (strv a[k]) from fun w h => by
          obtain ⟨b', o', e, h⟩ := str_at2 (ha w h) hlt
          cases e
          exact h)
        have f2 := SL.hid (show ∀ w, Ent LL w → w.cell? ⟨bb, ob + k, none⟩ = some (strv b[k]) from fun w h => by
          obtain ⟨b', o', e, h⟩ := str_at2 (hb w h) hltb
          cases e
          exact h)
        have Hst := SL.hid (ordL_less hpre hlt hltb)
        clear hpre
        simp only [strv] at f1 f2
        generalize a[k] = x at *
        generalize b[k] = y at *
        cases h1 : Op.bytesLess x y with
        | true =>
          have R := SL.hid (Hst.out.1 h1)
          go_wp2
          refine wp_region_held_drew (S := (fun w' => ((Instr.loadAt 9 (.pointer (some ⟨ba, oa + k, none⟩))).run Tryd.prog w' = .ok (.string ⟨x.toArray⟩) w') ∧ ((Instr.loadAt 9 (.pointer (some ⟨bb, ob + k, none⟩))).run Tryd.prog w' = .ok (.string ⟨y.toArray⟩) w'))) (by kernel_rfl) ⟨(atCell (f1.out _ hE.drew) (by simp [go_sem])), (atCell (f2.out _ hE.drew) (by simp [go_sem]))⟩ (fun hS => ?_)
          refine tV 0 ⟨some 24, .move (.tmp 5), _, _, _, none⟩ hS ?_
          refine tV 1 ⟨some 25, .move (.tmp 7), _, _, _, none⟩ hS ?_
          refine tV 2 ⟨some 26, .indexAddr 75 (.tmp 24) (.tmp 25), _, _, _, none⟩ hS ?_
          refine tL 3 ⟨some 27, .load 9 (.tmp 26), _, _, _, none⟩ hS ?_
          refine tV 4 ⟨some 28, .move (.tmp 6), _, _, _, none⟩ hS ?_
          refine tV 5 ⟨some 29, .move (.tmp 7), _, _, _, none⟩ hS ?_
          refine tV 6 ⟨some 30, .indexAddr 75 (.tmp 28) (.tmp 29), _, _, _, none⟩ hS ?_
          refine tL 7 ⟨some 31, .load 9 (.tmp 30), _, _, _, none⟩ hS ?_
          refine tV 8 ⟨some 32, .binOp .lss 9 (.tmp 27) (.tmp 31) 9, _, _, _, none⟩ hS ?_
          refine wpAnyH_done (by kernel_rfl) ?_ _
          all_goals
            clear hS
            go_wp2
            go_ret
            exact ⟨_, rfl, by rw [Ho.out, R.out]; rfl, hl _ hE.drew⟩
        | false =>
          cases h2 : (x == y) with
          | false =>
            have R := SL.hid (Hst.out.2.1 h1 h2)
            go_wp2
            refine wp_region_held_drew (S := (fun w' => ((Instr.loadAt 9 (.pointer (some ⟨ba, oa + k, none⟩))).run Tryd.prog w' = .ok (.string ⟨x.toArray⟩) w') ∧ ((Instr.loadAt 9 (.pointer (some ⟨bb, ob + k, none⟩))).run Tryd.prog w' = .ok (.string ⟨y.toArray⟩) w'))) (by kernel_rfl) ⟨(atCell (f1.out _ hE.drew) (by simp [go_sem])), (atCell (f2.out _ hE.drew) (by simp [go_sem]))⟩ (fun hS => ?_)
            refine tV 0 ⟨some 24, .move (.tmp 5), _, _, _, none⟩ hS ?_
            refine tV 1 ⟨some 25, .move (.tmp 7), _, _, _, none⟩ hS ?_
            refine tV 2 ⟨some 26, .indexAddr 75 (.tmp 24) (.tmp 25), _, _, _, none⟩ hS ?_
            refine tL 3 ⟨some 27, .load 9 (.tmp 26), _, _, _, none⟩ hS ?_
            refine tV 4 ⟨some 28, .move (.tmp 6), _, _, _, none⟩ hS ?_
            refine tV 5 ⟨some 29, .move (.tmp 7), _, _, _, none⟩ hS ?_
            refine tV 6 ⟨some 30, .indexAddr 75 (.tmp 28) (.tmp 29), _, _, _, none⟩ hS ?_
            refine tL 7 ⟨some 31, .load 9 (.tmp 30), _, _, _, none⟩ hS ?_
            refine tV 8 ⟨some 32, .binOp .lss 9 (.tmp 27) (.tmp 31) 9, _, _, _, none⟩ hS ?_
            refine wpAnyH_done (by kernel_rfl) ?_ _
            all_goals
              clear hS
              replace hE := hE.drew
              go_wp2
              refine wp_region_held_drew (S := (fun w' => ((Instr.loadAt 9 (.pointer (some ⟨ba, oa + k, none⟩))).run Tryd.prog w' = .ok (.string ⟨x.toArray⟩) w') ∧ ((Instr.loadAt 9 (.pointer (some ⟨bb, ob + k, none⟩))).run Tryd.prog w' = .ok (.string ⟨y.toArray⟩) w'))) (by kernel_rfl) ⟨(atCell (f1.out _ hE.drew) (by simp [go_sem])), (atCell (f2.out _ hE.drew) (by simp [go_sem]))⟩ (fun hS => ?_)
              refine tV 0 ⟨some 33, .move (.tmp 5), _, _, _, none⟩ hS ?_
              refine tV 1 ⟨some 34, .move (.tmp 7), _, _, _, none⟩ hS ?_
              refine tV 2 ⟨some 35, .indexAddr 75 (.tmp 33) (.tmp 34), _, _, _, none⟩ hS ?_
              refine tL 3 ⟨some 36, .load 9 (.tmp 35), _, _, _, none⟩ hS ?_
              refine tV 4 ⟨some 37, .move (.tmp 6), _, _, _, none⟩ hS ?_
              refine tV 5 ⟨some 38, .move (.tmp 7), _, _, _, none⟩ hS ?_
              refine tV 6 ⟨some 39, .indexAddr 75 (.tmp 37) (.tmp 38), _, _, _, none⟩ hS ?_
              refine tL 7 ⟨some 40, .load 9 (.tmp 39), _, _, _, none⟩ hS ?_
              refine tV 8 ⟨some 41, .binOp .gtr 9 (.tmp 36) (.tmp 40) 9, _, _, _, none⟩ hS ?_
              refine wpAnyH_done (by kernel_rfl) ?_ _
              all_goals
                clear hS
                go_wp2
                go_ret
                exact ⟨_, rfl, by rw [Ho.out, R.out]; rfl, hl _ hE.drew⟩
          | true =>
            have R := SL.hid (Hst.out.2.2 h2)
            go_wp2
            refine wp_region_held_drew (S := (fun w' => ((Instr.loadAt 9 (.pointer (some ⟨ba, oa + k, none⟩))).run Tryd.prog w' = .ok (.string ⟨x.toArray⟩) w') ∧ ((Instr.loadAt 9 (.pointer (some ⟨bb, ob + k, none⟩))).run Tryd.prog w' = .ok (.string ⟨y.toArray⟩) w'))) (by kernel_rfl) ⟨(atCell (f1.out _ hE.drew) (by simp [go_sem])), (atCell (f2.out _ hE.drew) (by simp [go_sem]))⟩ (fun hS => ?_)
            refine tV 0 ⟨some 24, .move (.tmp 5), _, _, _, none⟩ hS ?_
            refine tV 1 ⟨some 25, .move (.tmp 7), _, _, _, none⟩ hS ?_
            refine tV 2 ⟨some 26, .indexAddr 75 (.tmp 24) (.tmp 25), _, _, _, none⟩ hS ?_
            refine tL 3 ⟨some 27, .load 9 (.tmp 26), _, _, _, none⟩ hS ?_
            refine tV 4 ⟨some 28, .move (.tmp 6), _, _, _, none⟩ hS ?_
            refine tV 5 ⟨some 29, .move (.tmp 7), _, _, _, none⟩ hS ?_
            refine tV 6 ⟨some 30, .indexAddr 75 (.tmp 28) (.tmp 29), _, _, _, none⟩ hS ?_
            refine tL 7 ⟨some 31, .load 9 (.tmp 30), _, _, _, none⟩ hS ?_
            refine tV 8 ⟨some 32, .binOp .lss 9 (.tmp 27) (.tmp 31) 9, _, _, _, none⟩ hS ?_
            refine wpAnyH_done (by kernel_rfl) ?_ _
            all_goals
              clear hS
              replace hE := hE.drew
              go_wp2
              refine wp_region_held_drew (S := (fun w' => ((Instr.loadAt 9 (.pointer (some ⟨ba, oa + k, none⟩))).run Tryd.prog w' = .ok (.string ⟨x.toArray⟩) w') ∧ ((Instr.loadAt 9 (.pointer (some ⟨bb, ob + k, none⟩))).run Tryd.prog w' = .ok (.string ⟨y.toArray⟩) w'))) (by kernel_rfl) ⟨(atCell (f1.out _ hE.drew) (by simp [go_sem])), (atCell (f2.out _ hE.drew) (by simp [go_sem]))⟩ (fun hS => ?_)
              refine tV 0 ⟨some 33, .move (.tmp 5), _, _, _, none⟩ hS ?_
              refine tV 1 ⟨some 34, .move (.tmp 7), _, _, _, none⟩ hS ?_
              refine tV 2 ⟨some 35, .indexAddr 75 (.tmp 33) (.tmp 34), _, _, _, none⟩ hS ?_
              refine tL 3 ⟨some 36, .load 9 (.tmp 35), _, _, _, none⟩ hS ?_
              refine tV 4 ⟨some 37, .move (.tmp 6), _, _, _, none⟩ hS ?_
              refine tV 5 ⟨some 38, .move (.tmp 7), _, _, _, none⟩ hS ?_
              refine tV 6 ⟨some 39, .indexAddr 75 (.tmp 37) (.tmp 38), _, _, _, none⟩ hS ?_
              refine tL 7 ⟨some 40, .load 9 (.tmp 39), _, _, _, none⟩ hS ?_
              refine tV 8 ⟨some 41, .binOp .gtr 9 (.tmp 36) (.tmp 40) 9, _, _, _, none⟩ hS ?_
              refine wpAnyH_done (by kernel_rfl) ?_ _
              all_goals
                clear hS
                go_wp2
                go_roundw
                case rel => exact ⟨k + 1, hlt, hltb, by first | rfl | simp, R.out, hE.drew⟩
                case measure => simp [intOf] <;> omega
      · have R := SL.hid (ordL_short hpre hka hkb (.inr (by omega)))
        rw [if_neg (by omega), if_pos (by omega)] at R
        have g1 : ¬ a.length < b.length := by omega
        have g2 : b.length < a.length := by omega
        go_wp2
        go_ret
        exact ⟨_, rfl, by rw [Ho.out, R.out]; rfl, hl _ hE⟩
    · have R := SL.hid (ordL_short hpre hka hkb (.inl (by omega)))
      obtain rfl : k = a.length := by omega
      by_cases g1 : a.length < b.length
      · rw [if_pos g1] at R
        go_wp2
        go_ret
        exact ⟨_, rfl, by rw [Ho.out, R.out]; rfl, hl _ hE⟩
      · have g2 : ¬ b.length < a.length := by omega
        rw [if_neg g1, if_neg g2] at R
        go_wp2
        go_ret
        exact ⟨_, rfl, by rw [Ho.out, R.out]; rfl, hl _ hE⟩
end Go.Proofs.YtcpgelpajppgdaaDoor
namespace Go.Proofs.YtcpgelpajppgdaaDoor
open Go.RowKit Go.SL

section
variable {α β : Type} {f : α → List UInt8} {g : β → List UInt8}
theorem find_gt {l : List α} {k : List UInt8} (h : ∀ j ∈ l.map f, lessP k j = true) : l.find? (fun x => f x == k) = none := by
  refine List.find?_eq_none.2 fun x hx => ?_
  have := lessP_ne (h (f x) (List.mem_map_of_mem hx))
  simpa using fun e => this e.symm
theorem find_here {x : α} {l : List α} : (x :: l).find? (fun z => f z == f x) = some x := by simp
theorem find_past {x : α} {l : List α} {k : List UInt8} (h : lessP (f x) k = true) : (x :: l).find? (fun z => f z == k) = l.find? (fun z => f z == k) := by
  have : (f x == k) = false := by simpa using lessP_ne h
  rw [List.find?_cons, this]
def pairAt (f : α → List UInt8) (g : β → List UInt8) (l : List α) (m : List β) (k : List UInt8) : Option α × Option β := (l.find? (fun z => f z == k), m.find? (fun z => g z == k))
theorem both_spec : ∀ (n : Nat) (l : List α) (m : List β), l.length + m.length ≤ n → RiseP (l.map f) → RiseP (m.map g) →
    RiseP ((bothB f g n l m).map (keyB f g)) ∧ (∀ k, k ∈ (bothB f g n l m).map (keyB f g) ↔ k ∈ l.map f ∨ k ∈ m.map g) ∧ ∀ p ∈ bothB f g n l m, p = pairAt f g l m (keyB f g p)
  | 0, l, m, h, _, _ => by
    obtain rfl : l = [] := List.eq_nil_of_length_eq_zero (by omega)
    obtain rfl : m = [] := List.eq_nil_of_length_eq_zero (by omega)
    exact ⟨List.Pairwise.nil, fun k => by simp [bothB], fun p hp => absurd hp (by simp [bothB])⟩
  | n + 1, [], [], _, _, _ => ⟨List.Pairwise.nil, fun k => by simp [bothB], fun p hp => absurd hp (by simp [bothB])⟩
  | n + 1, [], y :: m, h, hl, hm => by
    obtain ⟨hm1, hm2⟩ := List.pairwise_cons.1 hm
    obtain ⟨i1, i2, i3⟩ := both_spec n [] m (by simpa using h) hl hm2
    have hgt : ∀ k ∈ (bothB f g n [] m).map (keyB f g), lessP (g y) k = true := fun k hk => by
      rcases (i2 k).1 hk with h | h
      · cases h
      · exact hm1 k h
    refine ⟨List.pairwise_cons.2 ⟨hgt, i1⟩, fun k => ?_, fun p hp => ?_⟩
    · rw [bothB, List.map_cons, List.mem_cons, i2]
      simp [keyB]
    · rw [bothB] at hp
      rcases List.mem_cons.1 hp with rfl | hp
      · simp [pairAt, keyB]
      · have e := i3 p hp
        have hk := hgt _ (List.mem_map_of_mem hp)
        rw [pairAt, find_past hk]
        exact e
  | n + 1, x :: l, [], h, hl, hm => by
    obtain ⟨hl1, hl2⟩ := List.pairwise_cons.1 hl
    obtain ⟨i1, i2, i3⟩ := both_spec n l [] (by simpa using h) hl2 hm
    have hgt : ∀ k ∈ (bothB f g n l []).map (keyB f g), lessP (f x) k = true := fun k hk => by
      rcases (i2 k).1 hk with h | h
      · exact hl1 k h
      · cases h
    refine ⟨List.pairwise_cons.2 ⟨hgt, i1⟩, fun k => ?_, fun p hp => ?_⟩
    · rw [bothB, List.map_cons, List.mem_cons, i2]
      simp [keyB]
    · rw [bothB] at hp
      rcases List.mem_cons.1 hp with rfl | hp
      · simp [pairAt, keyB]
      · have e := i3 p hp
        have hk := hgt _ (List.mem_map_of_mem hp)
        rw [pairAt, find_past hk]
        exact e
  | n + 1, x :: l, y :: m, h, hl, hm => by
    obtain ⟨hl1, hl2⟩ := List.pairwise_cons.1 hl
    obtain ⟨hm1, hm2⟩ := List.pairwise_cons.1 hm
    rw [bothB]
    by_cases hxy : lessP (f x) (g y) = true
    · rw [if_pos hxy]
      obtain ⟨i1, i2, i3⟩ := both_spec n l (y :: m) (by simp at h ⊢; omega) hl2 hm
      have hgy : ∀ k ∈ (y :: m).map g, lessP (f x) k = true := fun k hk => by
        rcases List.mem_cons.1 hk with rfl | hk
        · exact hxy
        · exact lessP_trans hxy (hm1 k hk)
      have hgt : ∀ k ∈ (bothB f g n l (y :: m)).map (keyB f g), lessP (f x) k = true := fun k hk => by
        rcases (i2 k).1 hk with h | h
        · exact hl1 k h
        · exact hgy k h
      refine ⟨List.pairwise_cons.2 ⟨hgt, i1⟩, fun k => ?_, fun p hp => ?_⟩
      · rw [List.map_cons, List.mem_cons, i2, List.map_cons, List.mem_cons]
        simp only [keyB]
        rw [List.map_cons, List.mem_cons, or_assoc]
      · rcases List.mem_cons.1 hp with rfl | hp
        · rw [pairAt]
          simp only [keyB]
          rw [find_here, find_gt hgy]
        · have e := i3 p hp
          have hk := hgt _ (List.mem_map_of_mem hp)
          rw [pairAt, find_past hk]
          exact e
    · rw [if_neg hxy]
      by_cases hyx : lessP (g y) (f x) = true
      · rw [if_pos hyx]
        obtain ⟨i1, i2, i3⟩ := both_spec n (x :: l) m (by simp at h ⊢; omega) hl hm2
        have hfx : ∀ k ∈ (x :: l).map f, lessP (g y) k = true := fun k hk => by
          rcases List.mem_cons.1 hk with rfl | hk
          · exact hyx
          · exact lessP_trans hyx (hl1 k hk)
        have hgt : ∀ k ∈ (bothB f g n (x :: l) m).map (keyB f g), lessP (g y) k = true := fun k hk => by
          rcases (i2 k).1 hk with h | h
          · exact hfx k h
          · exact hm1 k h
        refine ⟨List.pairwise_cons.2 ⟨hgt, i1⟩, fun k => ?_, fun p hp => ?_⟩
        · rw [List.map_cons, List.mem_cons, i2, List.map_cons (l := m), List.mem_cons]
          simp only [keyB]
          constructor
          · rintro (h | h | h)
            · exact .inr (.inl h)
            · exact .inl h
            · exact .inr (.inr h)
          · rintro (h | h | h)
            · exact .inr (.inl h)
            · exact .inl h
            · exact .inr (.inr h)
        · rcases List.mem_cons.1 hp with rfl | hp
          · rw [pairAt]
            simp only [keyB]
            rw [find_here, find_gt hfx]
          · have e := i3 p hp
            have hk := hgt _ (List.mem_map_of_mem hp)
            rw [pairAt, find_past (f := g) hk]
            exact e
      · rw [if_neg hyx]
        have hfg : f x = g y := by
          apply Classical.byContradiction
          intro hne
          exact hyx (lessP_total hne (by simpa using hxy))
        obtain ⟨i1, i2, i3⟩ := both_spec n l m (by simp at h ⊢; omega) hl2 hm2
        have hgt : ∀ k ∈ (bothB f g n l m).map (keyB f g), lessP (f x) k = true := fun k hk => by
          rcases (i2 k).1 hk with h | h
          · exact hl1 k h
          · rw [hfg]; exact hm1 k h
        refine ⟨List.pairwise_cons.2 ⟨hgt, i1⟩, fun k => ?_, fun p hp => ?_⟩
        · rw [List.map_cons, List.mem_cons, i2, List.map_cons, List.map_cons, List.mem_cons, List.mem_cons]
          simp only [keyB]
          rw [← hfg]
          constructor
          · rintro (h | h | h)
            · exact .inl (.inl h)
            · exact .inl (.inr h)
            · exact .inr (.inr h)
          · rintro ((h | h) | h | h)
            · exact .inl h
            · exact .inr (.inl h)
            · exact .inl h
            · exact .inr (.inr h)
        · rcases List.mem_cons.1 hp with rfl | hp
          · rw [pairAt]
            simp only [keyB]
            rw [find_here, hfg, find_here]
          · have e := i3 p hp
            have hk := hgt _ (List.mem_map_of_mem hp)
            rw [pairAt, find_past hk, find_past (f := g) (by rw [← hfg]; exact hk)]
            exact e
/-- two rising rows side by side: over their paths, each once, in order -/
theorem both_sorted {l : List α} {m : List β} {n : Nat} (h : l.length + m.length ≤ n) (hl : RiseP (l.map f)) (hm : RiseP (m.map g)) :
    bothB f g n l m = (sortK (l.map f ++ m.map g)).map (pairAt f g l m) := by
  obtain ⟨h1, h2, h3⟩ := both_spec n l m h hl hm
  have e : (bothB f g n l m).map (keyB f g) = sortK (l.map f ++ m.map g) := riseP_ext h1 (sortK_rise _) fun k => by rw [h2, sortK_mem, List.mem_append]
  rw [← e, List.map_map]
  exact (List.map_id _).symm.trans (List.map_congr_left fun p hp => h3 p hp)
end
end Go.Proofs.YtcpgelpajppgdaaDoor
namespace Go.Proofs.YtcpgelpajppgdaaDoor
open Go.RowKit Go.SL

/-- a file or a directory; its kids have names -/
inductive Tr : Type
  | nd (dir : Bool) (data : List UInt8) (kids : List (List UInt8 × Tr))
namespace Tr
def dir : Tr → Bool | nd d _ _ => d
def data : Tr → List UInt8 | nd _ x _ => x
def kids : Tr → List (List UInt8 × Tr) | nd _ _ k => k
def zero : Tr := nd false [] []
def names (t : Tr) : List (List UInt8) := t.kids.map Prod.fst
def leafOf (d : Bool) (x : List UInt8) : Tr := nd d x []
/-- the kid of a name -/
def kid? (t : Tr) (n : List UInt8) : Option Tr := (t.kids.find? fun k => k.1 == n).map Prod.snd
/-- what is at names -/
def get? : List (List UInt8) → Tr → Option Tr
  | [], t => some t
  | n :: r, t => match t.kid? n with
    | none => none
    | some k => get? r k
/-- a row in which something new stands -/
def insAt {α : Type} (i : Nat) (x : α) (l : List α) : List α := l.take i ++ x :: l.drop i
/-- a directory in which names lead to one more node; its error -/
def withT : List (List UInt8) → Bool → List UInt8 → Tr → Int × Tr
  | [], _, _, _ => (8, zero)
  | [n], xd, xb, t =>
    if t.dir && !isIn t.names n then
      (if 6 < t.kids.length + 1 ∨ 8192 < xb.length then (6, zero) else (0, nd true [] (insAt (placeOf t.names n) (n, leafOf xd xb) t.kids)))
    else (8, zero)
  | n :: m :: r, xd, xb, t =>
    if t.dir && isIn t.names n then
      (match withT (m :: r) xd xb ((t.kids.getD (placeOf t.names n) ([], zero)).2) with
       | (e, k) => if e = 0 then (0, nd true [] (t.kids.set (placeOf t.names n) (n, k))) else (e, zero))
    else (8, zero)
/-- what a tree is like, so deep -/
def Wf : Nat → Tr → Prop
  | 0, t => t.kids = [] ∧ (t.dir = true → t.data = []) ∧ t.data.length ≤ 8192
  | d + 1, t => (t.dir = false → t.kids = []) ∧ (t.dir = true → t.data = []) ∧ Rising t.names ∧ t.kids.length ≤ 6 ∧ t.data.length ≤ 8192 ∧ ∀ k ∈ t.kids, isName k.1 = true ∧ Wf d k.2

theorem kid_mem {t : Tr} {n : List UInt8} {k : Tr} (h : t.kid? n = some k) : (n, k) ∈ t.kids := by
  unfold kid? at h
  cases hf : t.kids.find? fun k => k.1 == n with
  | none => rw [hf] at h; cases h
  | some x =>
    rw [hf] at h
    have h1 := List.mem_of_find?_eq_some hf
    have h2 := List.find?_some hf
    obtain ⟨a, b⟩ := x
    cases h
    rw [beq_iff_eq] at h2
    exact h2 ▸ h1
theorem rising_inj {ks : List (List UInt8)} (h : Rising ks) {i j : Nat} (hi : i < ks.length) (hj : j < ks.length) (e : ks[i] = ks[j]) : i = j := by
  have h1 := (place_of_mem h hi).1
  have h2 := (place_of_mem h hj).1
  rw [e] at h1
  omega
/-- in a row that rises, the kid of a name is at its place -/
theorem kid_at {t : Tr} (h : Rising t.names) {i : Nat} (hi : i < t.kids.length) : t.kid? t.kids[i].1 = some t.kids[i].2 := by
  unfold kid?
  cases hf : t.kids.find? fun k => k.1 == t.kids[i].1 with
  | none =>
    have := List.find?_eq_none.1 hf _ (List.getElem_mem hi)
    simp at this
  | some x =>
    have h1 := List.mem_of_find?_eq_some hf
    have h2 := List.find?_some hf
    obtain ⟨j, hj, rfl⟩ := List.getElem_of_mem h1
    rw [beq_iff_eq] at h2
    have : j = i := rising_inj h (i := j) (j := i) (by simpa [names] using hj) (by simpa [names] using hi) (by simpa [names] using h2)
    subst this
    rfl
theorem kid_none {t : Tr} {n : List UInt8} : t.kid? n = none ↔ isIn t.names n = false := by
  unfold kid? isIn names
  rw [Option.map_eq_none_iff, List.find?_eq_none]
  constructor
  · intro h
    rw [← Bool.not_eq_true, List.contains_iff_mem]
    intro hm
    obtain ⟨x, hx, e⟩ := List.mem_map.1 hm
    exact absurd (beq_iff_eq.2 e) (h x hx)
  · intro h x hx
    rw [← Bool.not_eq_true, List.contains_iff_mem] at h
    intro e
    exact h (List.mem_map.2 ⟨x, hx, beq_iff_eq.1 e⟩)
/-- the place of a name that is there -/
theorem kid_place {t : Tr} (h : Rising t.names) {n : List UInt8} (hn : isIn t.names n = true) : ∃ hi : placeOf t.names n < t.kids.length, t.kids[placeOf t.names n].1 = n ∧ t.kid? n = some t.kids[placeOf t.names n].2 := by
  obtain ⟨_, _, _, h4⟩ := find_at h n
  obtain ⟨hi, e⟩ := h4.1 hn
  have hi' : placeOf t.names n < t.kids.length := by simpa [names] using hi
  have e' : t.kids[placeOf t.names n].1 = n := by simpa [names] using e
  refine ⟨hi', e', ?_⟩
  have := kid_at h hi'
  rwa [e'] at this
end Tr
end Go.Proofs.YtcpgelpajppgdaaDoor
namespace Go.Proofs.YtcpgelpajppgdaaDoor
open Go.RowKit Go.SL
namespace Tr

theorem insAt_len {α : Type} {i : Nat} {x : α} {l : List α} (h : i ≤ l.length) : (insAt i x l).length = l.length + 1 := by
  simp [insAt]; omega
theorem insAt_map {α β : Type} (f : α → β) (i : Nat) (x : α) (l : List α) : (insAt i x l).map f = insAt i (f x) (l.map f) := by
  simp [insAt, List.map_take, List.map_drop]
theorem insAt_mem {α : Type} {i : Nat} {x y : α} {l : List α} : y ∈ insAt i x l ↔ y = x ∨ y ∈ l := by
  rw [insAt, List.mem_append, List.mem_cons]
  constructor
  · rintro (h | h | h)
    · exact .inr (List.mem_of_mem_take h)
    · exact .inl h
    · exact .inr (List.mem_of_mem_drop h)
  · rintro (h | h)
    · exact .inr (.inl h)
    · rw [← List.take_append_drop i l, List.mem_append] at h
      rcases h with h | h
      · exact .inl h
      · exact .inr (.inr h)
theorem insAt_get {α : Type} {i : Nat} {x : α} {l : List α} (hi : i ≤ l.length) (j : Nat) (hj : j < (insAt i x l).length) : (insAt i x l)[j] = if h : j < i then l[j]'(by omega) else if h2 : j = i then x else l[j - 1]'(by rw [insAt_len hi] at hj; omega) := by
  have hl := insAt_len (x := x) hi
  unfold insAt at hj ⊢
  by_cases h1 : j < i
  · rw [dif_pos h1, List.getElem_append_left (by rw [List.length_take]; omega), List.getElem_take]
  · rw [dif_neg h1, List.getElem_append_right (by rw [List.length_take]; omega)]
    by_cases h2 : j = i
    · subst h2
      rw [dif_pos rfl]
      simp [List.length_take, Nat.min_eq_left hi]
    · rw [dif_neg h2]
      have e : j - (l.take i).length = (j - i - 1) + 1 := by rw [List.length_take]; omega
      simp only [e, List.getElem_cons_succ, List.getElem_drop]
      congr 1
      omega
theorem place_lt {ks : List (List UInt8)} (h : Rising ks) {n : List UInt8} (i : Nat) (hi : i < ks.length) : i < placeOf ks n ↔ Op.bytesLess ks[i] n = true := by
  obtain ⟨h1, h2, _, _⟩ := find_at h n
  have get : ∀ (i : Nat) (hi : i < ks.length), ks.getD i [] = ks[i] := fun i hi => by rw [List.getD_eq_getElem?_getD, List.getElem?_eq_getElem hi]; rfl
  have mono : ∀ i j, i ≤ j → j < ks.length → Op.bytesLess (ks.getD j []) n = true → Op.bytesLess (ks.getD i []) n = true := fun i j hij hj hl => by
    rcases Nat.lt_or_eq_of_le hij with h3 | rfl
    · rw [get i (by omega)]
      rw [get j hj] at hl
      exact bl_trans (h.of h3 hj) hl
    · exact hl
  obtain ⟨_, hb, hc, hd⟩ := bsGo_at (less := fun t => Op.bytesLess (ks.getD t []) n) ks.length 0 ks.length (by omega) (Nat.zero_le _) (Nat.le_refl _) mono (fun i hi => absurd hi (Nat.not_lt_zero _)) (fun i hi hn => by omega)
  rw [h1] at hc hd
  constructor
  · intro hlt
    have := hc i hlt
    rwa [get i hi] at this
  · intro hl
    rcases Nat.lt_or_ge i (placeOf ks n) with h3 | h3
    · exact h3
    · have := hd i h3 hi
      rw [get i hi, hl] at this
      cases this
theorem rising_ins {ks : List (List UInt8)} (h : Rising ks) {n : List UInt8} (hn : isIn ks n = false) : Rising (insAt (placeOf ks n) n ks) := by
  have hp : placeOf ks n ≤ ks.length := (find_at h n).2.1
  have hne : ∀ (i : Nat) (hi : i < ks.length), ks[i] ≠ n := fun i hi e => by
    rw [isIn, ← Bool.not_eq_true, List.contains_iff_mem] at hn
    exact hn (e ▸ List.getElem_mem hi)
  intro i hi
  rw [insAt_len hp] at hi
  rw [insAt_get hp i (by rw [insAt_len hp]; omega), insAt_get hp (i + 1) (by rw [insAt_len hp]; omega)]
  by_cases h1 : i + 1 < placeOf ks n
  · rw [dif_pos (by omega), dif_pos h1]
    exact h i (by omega)
  · by_cases h2 : i + 1 = placeOf ks n
    · rw [dif_pos (by omega), dif_neg h1, dif_pos h2]
      exact (place_lt h i (by omega)).1 (by omega)
    · by_cases h3 : i = placeOf ks n
      · rw [dif_neg (by omega), dif_pos h3, dif_neg h1, dif_neg h2]
        have h4 : ¬ Op.bytesLess (ks[i]'(by omega)) n = true := fun hl => by
          have := (place_lt h i (by omega)).2 hl
          omega
        exact bl_total (hne i (by omega)) (by simpa using h4)
      · rw [dif_neg (by omega), dif_neg h3, dif_neg h1, dif_neg h2]
        have := h (i - 1) (by omega)
        simpa [show i - 1 + 1 = i by omega] using this
theorem names_set {t : Tr} {i : Nat} {n : List UInt8} {k : Tr} (hi : i < t.kids.length) (e : t.kids[i].1 = n) : (t.kids.set i (n, k)).map Prod.fst = t.names := by
  rw [List.map_set, names]
  have : t.kids.map Prod.fst = (t.kids.map Prod.fst).set i n := by
    apply List.ext_getElem (by simp)
    intro j h1 h2
    rw [List.getElem_set]
    split
    · next h => subst h; simp [e]
    · rfl
  exact this.symm
end Tr
end Go.Proofs.YtcpgelpajppgdaaDoor
namespace Go.Proofs.YtcpgelpajppgdaaDoor
open Go.RowKit Go.SL
namespace Tr

def look? (q : List (List UInt8)) (t : Tr) : Option (Bool × List UInt8) := (get? q t).map fun k => (k.dir, k.data)
theorem kid_iff {t : Tr} (h : Rising t.names) {m : List UInt8} {k : Tr} : t.kid? m = some k ↔ (m, k) ∈ t.kids := by
  refine ⟨kid_mem, fun hm => ?_⟩
  obtain ⟨i, hi, e⟩ := List.getElem_of_mem hm
  have := kid_at h hi
  rwa [e] at this
theorem wf_rising {d : Nat} {t : Tr} (h : Wf d t) : Rising t.names := by
  cases d with
  | zero => rw [names, h.1]; intro i hi; simp at hi
  | succ d => exact h.2.2.1
theorem wf_data {d : Nat} {t : Tr} (h : Wf d t) (hd : t.dir = true) : t.data = [] := by
  cases d with
  | zero => exact h.2.1 hd
  | succ d => exact h.2.1 hd
theorem wf_size {d : Nat} {t : Tr} (h : Wf d t) : t.data.length ≤ 8192 ∧ t.kids.length ≤ 6 := by
  cases d with
  | zero => exact ⟨h.2.2, by rw [h.1]; simp⟩
  | succ d => exact ⟨h.2.2.2.2.1, h.2.2.2.1⟩
theorem wf_kid {d : Nat} {t : Tr} (h : Wf d t) {k : List UInt8 × Tr} (hk : k ∈ t.kids) : ∃ e, d = e + 1 ∧ Wf e k.2 := by
  cases d with
  | zero => rw [h.1] at hk; cases hk
  | succ d => exact ⟨d, rfl, (h.2.2.2.2.2 k hk).2⟩
theorem kid_ins {t : Tr} (h : Rising t.names) {n : List UInt8} (hn : isIn t.names n = false) (k : Tr) (m : List UInt8) :
    (nd true [] (insAt (placeOf t.names n) (n, k) t.kids)).kid? m = if m = n then some k else t.kid? m := by
  have hr : Rising (nd true [] (insAt (placeOf t.names n) (n, k) t.kids)).names := by
    show Rising ((insAt (placeOf t.names n) (n, k) t.kids).map Prod.fst)
    rw [insAt_map]
    exact rising_ins h hn
  split
  · next e => subst e; exact (kid_iff hr).2 (insAt_mem.2 (.inl rfl))
  · next e =>
    cases hk : t.kid? m with
    | some x => exact (kid_iff hr).2 (insAt_mem.2 (.inr (kid_mem hk)))
    | none =>
      cases hk2 : (nd true [] (insAt (placeOf t.names n) (n, k) t.kids)).kid? m with
      | none => rfl
      | some x =>
        rcases insAt_mem.1 (kid_mem hk2) with h1 | h1
        · exact absurd (congrArg Prod.fst h1) e
        · rw [(kid_iff h).2 h1] at hk; cases hk
theorem kid_set {t : Tr} (h : Rising t.names) {n : List UInt8} (hn : isIn t.names n = true) (k : Tr) (m : List UInt8) :
    (nd true [] (t.kids.set (placeOf t.names n) (n, k))).kid? m = if m = n then some k else t.kid? m := by
  obtain ⟨hi, e, _⟩ := kid_place h hn
  have hr : Rising (nd true [] (t.kids.set (placeOf t.names n) (n, k))).names := by
    show Rising ((t.kids.set (placeOf t.names n) (n, k)).map Prod.fst)
    rw [names_set hi e]; exact h
  have mem : ∀ x : Tr, m ≠ n → ((m, x) ∈ t.kids.set (placeOf t.names n) (n, k) ↔ (m, x) ∈ t.kids) := fun x hm => by
    constructor
    · intro h1
      obtain ⟨j, hj, e1⟩ := List.getElem_of_mem h1
      rw [List.getElem_set] at e1
      split at e1
      · exact absurd (congrArg Prod.fst e1).symm hm
      · exact e1 ▸ List.getElem_mem _
    · intro h1
      obtain ⟨j, hj, e1⟩ := List.getElem_of_mem h1
      have hji : placeOf t.names n ≠ j := fun h2 => by
        subst h2
        rw [e1] at e
        exact hm e
      have : (t.kids.set (placeOf t.names n) (n, k))[j]'(by simpa using hj) = (m, x) := by rw [List.getElem_set_ne hji]; exact e1
      exact this ▸ List.getElem_mem _
  split
  · next hm =>
    subst hm
    refine (kid_iff hr).2 ?_
    exact List.mem_iff_getElem.2 ⟨placeOf t.names m, by simpa [kids] using hi, by simp [kids]⟩
  · next hm =>
    cases hk : t.kid? m with
    | some x => exact (kid_iff hr).2 ((mem x hm).2 (kid_mem hk))
    | none =>
      cases hk2 : (nd true [] (t.kids.set (placeOf t.names n) (n, k))).kid? m with
      | none => rfl
      | some x =>
        have := (mem x hm).1 (kid_mem hk2)
        rw [(kid_iff h).2 this] at hk; cases hk
theorem look_nil (t : Tr) : look? [] t = some (t.dir, t.data) := rfl
theorem look_cons (n : List UInt8) (r : List (List UInt8)) (t : Tr) : look? (n :: r) t = match t.kid? n with
    | none => none
    | some k => look? r k := by
  rw [look?, get?]
  cases t.kid? n <;> rfl
theorem kid_leaf (xd : Bool) (xb n : List UInt8) : (leafOf xd xb).kid? n = none := rfl

theorem with_dir : ∀ {names : List (List UInt8)} {xd : Bool} {xb : List UInt8} {t : Tr}, (withT names xd xb t).1 = 0 → t.dir = true
  | [], _, _, _, h => by cases h
  | [n], xd, xb, t, h => by
    cases hd : t.dir with
    | true => rfl
    | false => rw [withT, hd] at h; cases h
  | n :: m :: r, xd, xb, t, h => by
    cases hd : t.dir with
    | true => rfl
    | false => rw [withT, hd] at h; cases h

theorem with_look : ∀ {ns : List (List UInt8)} {xd : Bool} {xb : List UInt8} {d : Nat} {t : Tr}, Wf d t → (withT ns xd xb t).1 = 0 →
    (withT ns xd xb t).2.dir = true ∧ (withT ns xd xb t).2.data = [] ∧ ∀ q, look? q (withT ns xd xb t).2 = if q = ns then some (xd, xb) else look? q t
  | [], _, _, _, _, _, h => by cases h
  | [n], xd, xb, d, t, hw, h => by
    have hd := with_dir h
    have hr := wf_rising hw
    have hda := wf_data hw hd
    rw [withT, hd] at h ⊢
    cases hn : isIn t.names n with
    | true => rw [hn] at h; cases h
    | false =>
      rw [hn] at h
      simp only [Bool.not_false, Bool.and_self, if_true] at h ⊢
      split at h
      · cases h
      · next hc =>
        rw [if_neg hc]
        refine ⟨rfl, rfl, fun q => ?_⟩
        rcases q with _ | ⟨m, r⟩
        · rw [if_neg (by simp), look_nil, look_nil, hd, hda]; rfl
        · rw [look_cons, look_cons, kid_ins hr hn]
          by_cases hm : m = n
          · subst hm
            rw [if_pos rfl, kid_none.2 hn]
            rcases r with _ | ⟨m2, r⟩
            · simp [look_nil, leafOf, dir, data]
            · simp [look_cons, kid_leaf]
          · rw [if_neg hm, if_neg (by simp [hm])]
  | n :: m :: r, xd, xb, d, t, hw, h => by
    have hd := with_dir h
    have hr := wf_rising hw
    have hda := wf_data hw hd
    rw [withT, hd] at h ⊢
    cases hn : isIn t.names n with
    | false => rw [hn] at h; cases h
    | true =>
      rw [hn] at h
      simp only [Bool.and_self, if_true] at h ⊢
      obtain ⟨hi, e1, e2⟩ := kid_place hr hn
      have hg : t.kids.getD (placeOf t.names n) ([], zero) = t.kids[placeOf t.names n] := by
        rw [List.getD_eq_getElem?_getD, List.getElem?_eq_getElem hi]; rfl
      rw [hg] at h ⊢
      obtain ⟨d', rfl, hwk⟩ := wf_kid hw (List.getElem_mem hi)
      by_cases h0 : (withT (m :: r) xd xb t.kids[placeOf t.names n].2).1 = 0
      · rw [if_pos h0]
        obtain ⟨_, _, ih⟩ := with_look hwk h0
        refine ⟨rfl, rfl, fun q => ?_⟩
        rcases q with _ | ⟨o, s⟩
        · rw [if_neg (by simp), look_nil, look_nil, hd, hda]; rfl
        · rw [look_cons, look_cons, kid_set hr hn]
          by_cases ho : o = n
          · subst ho
            rw [if_pos rfl, e2]
            show look? s _ = _
            rw [ih s]
            by_cases hs : s = m :: r
            · subst hs; rw [if_pos rfl, if_pos rfl]
            · rw [if_neg hs, if_neg (by simp [hs])]
          · rw [if_neg ho, if_neg (by simp [ho])]
      · simp only [if_neg h0] at h
        exact absurd h h0
end Tr
end Go.Proofs.YtcpgelpajppgdaaDoor
namespace Go.Proofs.YtcpgelpajppgdaaDoor
open Go.RowKit Go.SL
namespace Tr

/-- why there may be no such node, as the document tells it: of what is at the names but the last, and of the last -/
def errAt (p : Option Tr) (n : List UInt8) (xb : List UInt8) : Int := match p with
  | none => 8
  | some p => if p.dir && !isIn p.names n then (if 6 < p.kids.length + 1 ∨ 8192 < xb.length then 6 else 0) else 8
theorem wf_file {d : Nat} {t : Tr} (h : Wf d t) (hd : t.dir = false) : t.kids = [] := by
  cases d with
  | zero => exact h.1
  | succ d => exact h.1 hd
theorem with_err : ∀ {ns : List (List UInt8)} {n : List UInt8} {xd : Bool} {xb : List UInt8} {d : Nat} {t : Tr}, Wf d t →
    (withT (ns ++ [n]) xd xb t).1 = errAt (get? ns t) n xb
  | [], n, xd, xb, d, t, _ => by
    show (withT [n] xd xb t).1 = errAt (some t) n xb
    rw [withT, errAt]
    split
    · split <;> rfl
    · rfl
  | o :: ns, n, xd, xb, d, t, hw => by
    obtain ⟨m, r, hmr⟩ : ∃ m r, ns ++ [n] = m :: r := by
      cases ns with
      | nil => exact ⟨n, [], rfl⟩
      | cons m r => exact ⟨m, r ++ [n], rfl⟩
    have hr := wf_rising hw
    show (withT (o :: (ns ++ [n])) xd xb t).1 = _
    rw [hmr, withT, get?]
    cases hd : t.dir with
    | false =>
      have hk : t.kid? o = none := by rw [kid?, wf_file hw hd]; rfl
      rw [hk]; rfl
    | true =>
      cases ho : isIn t.names o with
      | false =>
        rw [kid_none.2 ho]; rfl
      | true =>
        obtain ⟨hi, e1, e2⟩ := kid_place hr ho
        obtain ⟨d', rfl, hwk⟩ := wf_kid hw (List.getElem_mem hi)
        have hg : t.kids.getD (placeOf t.names o) ([], zero) = t.kids[placeOf t.names o] := by
          rw [List.getD_eq_getElem?_getD, List.getElem?_eq_getElem hi]; rfl
        have ih := with_err (ns := ns) (n := n) (xd := xd) (xb := xb) hwk
        rw [hmr] at ih
        rw [e2, hg]
        show _ = errAt (get? ns _) n xb
        rw [← ih]
        simp only [Bool.and_self, if_true]
        split
        · next h0 => exact h0.symm
        · rfl
/-- the tree is as it should be -/
theorem with_wf : ∀ {ns : List (List UInt8)} {xd : Bool} {xb : List UInt8} {d : Nat} {t : Tr}, Wf d t → ns.length ≤ d → ns.all isName = true → (xd = true → xb = []) → (withT ns xd xb t).1 = 0 → Wf d (withT ns xd xb t).2
  | [], _, _, _, _, _, _, _, _, h => by cases h
  | [n], xd, xb, d, t, hw, hl, hn, hx, h => by
    obtain ⟨d, rfl⟩ : ∃ e, d = e + 1 := ⟨d - 1, by simp at hl; omega⟩
    have hd := with_dir h
    have hr := wf_rising hw
    obtain ⟨_, _, _, w4, w5, w6⟩ := hw
    rw [withT, hd] at h ⊢
    cases hi : isIn t.names n with
    | true => rw [hi] at h; cases h
    | false =>
      rw [hi] at h
      simp only [Bool.not_false, Bool.and_self, if_true] at h ⊢
      split at h
      · cases h
      · next hc =>
        rw [if_neg hc]
        have hp : placeOf t.names n ≤ t.kids.length := by have := (find_at hr n).2.1; simpa [names] using this
        refine ⟨fun h => Bool.noConfusion (show true = false from h), fun _ => rfl, ?_, ?_, Nat.zero_le _, fun k hk => ?_⟩
        · show Rising ((insAt (placeOf t.names n) (n, leafOf xd xb) t.kids).map Prod.fst)
          rw [insAt_map]
          exact rising_ins hr hi
        · show (insAt (placeOf t.names n) (n, leafOf xd xb) t.kids).length ≤ 6
          rw [insAt_len hp]; omega
        · rcases insAt_mem.1 hk with rfl | hk
          · refine ⟨by simpa using hn, ?_⟩
            cases d with
            | zero => exact ⟨rfl, hx, by show xb.length ≤ 8192; omega⟩
            | succ d => exact ⟨fun _ => rfl, hx, fun i hi => by simp [names, leafOf, kids] at hi, Nat.zero_le _, by show xb.length ≤ 8192; omega, fun k hk => by cases hk⟩
          · exact w6 k hk
  | n :: m :: r, xd, xb, d, t, hw, hl, hn, hx, h => by
    obtain ⟨d, rfl⟩ : ∃ e, d = e + 1 := ⟨d - 1, by simp at hl; omega⟩
    have hd := with_dir h
    have hr := wf_rising hw
    obtain ⟨_, _, _, w4, w5, w6⟩ := hw
    rw [withT, hd] at h ⊢
    cases hi : isIn t.names n with
    | false => rw [hi] at h; cases h
    | true =>
      rw [hi] at h
      simp only [Bool.and_self, if_true] at h ⊢
      obtain ⟨hp, e1, e2⟩ := kid_place hr hi
      have hg : t.kids.getD (placeOf t.names n) ([], zero) = t.kids[placeOf t.names n] := by
        rw [List.getD_eq_getElem?_getD, List.getElem?_eq_getElem hp]; rfl
      rw [hg] at h ⊢
      have hwk := w6 _ (List.getElem_mem hp)
      by_cases h0 : (withT (m :: r) xd xb t.kids[placeOf t.names n].2).1 = 0
      · rw [if_pos h0]
        have ih := with_wf hwk.2 (by simp at hl ⊢; omega) (by simp at hn ⊢; exact ⟨hn.2.1, hn.2.2⟩) hx h0
        refine ⟨fun h => Bool.noConfusion (show true = false from h), fun _ => rfl, ?_, ?_, Nat.zero_le _, fun k hk => ?_⟩
        · show Rising ((t.kids.set (placeOf t.names n) _).map Prod.fst)
          rw [names_set hp e1]; exact hr
        · show (t.kids.set _ _).length ≤ 6
          rw [List.length_set]; exact w4
        · rcases List.mem_or_eq_of_mem_set hk with hk | rfl
          · exact w6 k hk
          · exact ⟨by simp at hn; exact hn.1, ih⟩
      · simp only [if_neg h0] at h
        exact absurd h h0
theorem with_zero {ns : List (List UInt8)} {xd : Bool} {xb : List UInt8} {t : Tr} (h : (withT ns xd xb t).1 ≠ 0) : (withT ns xd xb t).2 = zero := by
  rcases ns with _ | ⟨n, _ | ⟨m, r⟩⟩
  · rfl
  · rw [withT] at h ⊢
    split
    · next hc =>
      rw [if_pos hc] at h
      split
      · rfl
      · next h2 => rw [if_neg h2] at h; exact absurd rfl h
    · rfl
  · rw [withT] at h ⊢
    split
    · next hc =>
      rw [if_pos hc] at h
      simp only at h ⊢
      split
      · next h2 => rw [if_pos h2] at h; exact absurd rfl h
      · rfl
    · rfl
end Tr
end Go.Proofs.YtcpgelpajppgdaaDoor
namespace Go.Proofs.YtcpgelpajppgdaaDoor
open Go.RowKit Go.SL
theorem joinP_len : ∀ xs : List (List UInt8), (∀ x ∈ xs, x.length ≤ 600) → (joinP xs).length ≤ xs.length * 601
  | [], _ => by simp [joinP, Lib.join_nil]
  | [a], h => by
    rw [joinP_one]
    have := h a (by simp)
    simp only [List.length_cons, List.length_nil]
    omega
  | a :: b :: t, h => by
    rw [joinP_cons a (by simp)]
    have h1 := joinP_len (b :: t) (fun x hx => h x (by simp [hx]))
    have h2 := h a (by simp)
    simp only [List.length_append, List.length_cons] at h1 ⊢
    omega
theorem joinP_snoc (x : List UInt8) : ∀ l : List (List UInt8), l ≠ [] → joinP (l ++ [x]) = joinP l ++ 47 :: x
  | [], h => absurd rfl h
  | [a], _ => by
    rw [joinP_one, List.cons_append, joinP_cons a (by simp), List.nil_append, joinP_one]
  | a :: b :: t, _ => by
    have ih := joinP_snoc x (b :: t) (by simp)
    rw [List.cons_append, joinP_cons a (by simp), ih, joinP_cons a (by simp)]
    simp
theorem splitL_names (p : List UInt8) : (splitL p).length ≤ 6 ∧ (splitL p).all isName = true := by
  unfold splitL
  split
  · simp
  · split
    · rename_i h
      split
      · rename_i h6
        exact ⟨h6, h⟩
      · simp
    · simp
theorem name_len {x : List UInt8} (h : isName x = true) : 1 ≤ x.length ∧ x.length ≤ 16 := by
  simp only [isName, Bool.and_eq_true, decide_eq_true_eq] at h
  exact h.2
theorem splitL_len (p : List UInt8) : ∀ x ∈ splitL p, x.length ≤ 600 := fun x hx => by
  have := (name_len (List.all_eq_true.1 (splitL_names p).2 x hx)).2
  omega
theorem split_ok {p : List UInt8} (h : splitE p = 0) : joinP (splitL p) = p := by
  unfold splitE at h
  unfold splitL
  split at h
  · rename_i h0
    rw [if_pos h0, h0]
    rfl
  · rename_i h0
    rw [if_neg h0]
    split at h
    · rename_i ha
      rw [if_pos ha]
      split at h
      · rename_i h6
        rw [if_pos h6]
        exact join_cuts p
      · simp at h
    · simp at h
theorem split_ne {p : List UInt8} (h : splitE p ≠ 0) : splitL p = [] := by
  unfold splitE at h
  unfold splitL
  split at h
  · simp at h
  · rename_i h0
    rw [if_neg h0]
    split at h
    · rename_i ha
      rw [if_pos ha]
      split at h
      · simp at h
      · rename_i h6
        rw [if_neg h6]
    · rename_i ha
      rw [if_neg ha]
theorem joinP_ne {xs : List (List UInt8)} (h0 : xs ≠ []) (h : xs.all isName = true) : joinP xs ≠ [] := by
  obtain ⟨a, t, rfl⟩ := List.exists_cons_of_ne_nil h0
  simp only [List.all_cons, Bool.and_eq_true] at h
  have ha := (name_len h.1).1
  intro e
  have : (joinP (a :: t)).length = 0 := by rw [e]; rfl
  cases t with
  | nil => rw [joinP_one] at this; omega
  | cons b t => rw [joinP_cons a (by simp), List.length_append] at this; omega
theorem join_split {xs : List (List UInt8)} (h0 : xs ≠ []) (h : xs.all isName = true) (h6 : xs.length ≤ 6) : splitL (joinP xs) = xs ∧ splitE (joinP xs) = 0 := by
  have hc := cuts_join xs h0 h
  have := split_good (joinP_ne h0 h) (by rw [hc]; exact h) (by rw [hc]; exact h6)
  rwa [hc] at this
theorem joins_many {xs : List (List UInt8)} (h0 : xs ≠ []) (h : xs.all isName = true) (h6 : ¬ xs.length ≤ 6) : splitL (joinP xs) = [] ∧ splitE (joinP xs) = 6 := by
  have hc := cuts_join xs h0 h
  exact split_many (joinP_ne h0 h) (by rw [hc]; exact h) (by rw [hc]; exact h6)
end Go.Proofs.YtcpgelpajppgdaaDoor
namespace Go.Proofs.YtcpgelpajppgdaaDoor
open Go.RowKit Go.SL

/-- an entry -/
structure En where
  path : List UInt8
  dir : Bool
  data : List UInt8
/-- the path of a path's directory, as the document reckons it -/
def parP (p : List UInt8) : List UInt8 := ((p.reverse.dropWhile fun c => c != 47).drop 1).reverse
theorem dropWhile_free : ∀ {s r : List UInt8}, (∀ c ∈ s, c ≠ 47) → (s ++ r).dropWhile (fun c => c != 47) = r.dropWhile fun c => c != 47
  | [], _, _ => rfl
  | c :: s, r, h => by
    have hc : (c != 47) = true := by simpa using h c (by simp)
    rw [List.cons_append, List.dropWhile_cons, if_pos hc]
    exact dropWhile_free fun d hd => h d (by simp [hd])
theorem parP_free {n : List UInt8} (h : ∀ c ∈ n, c ≠ 47) : parP n = [] := by
  have := dropWhile_free (s := n.reverse) (r := []) (fun c hc => h c (by simpa using hc))
  rw [List.append_nil] at this
  rw [parP, this]; rfl
theorem parP_app {a n : List UInt8} (h : ∀ c ∈ n, c ≠ 47) : parP (a ++ 47 :: n) = a := by
  have e : (a ++ 47 :: n).reverse = n.reverse ++ 47 :: a.reverse := by simp
  rw [parP, e, dropWhile_free (fun c hc => h c (by simpa using hc))]
  simp
theorem joinP_end : ∀ {q : List (List UInt8)} {n : List UInt8}, q ≠ [] → joinP (q ++ [n]) = joinP q ++ 47 :: n
  | [], _, h => absurd rfl h
  | [a], n, _ => by
    show joinP (a :: [n]) = _
    rw [joinP_cons a (by simp), joinP_one, joinP_one]
  | a :: b :: q, n, _ => by
    show joinP (a :: ((b :: q) ++ [n])) = _
    rw [joinP_cons a (by simp), joinP_end (by simp), joinP_cons a (by simp), List.append_assoc]; rfl
theorem parP_join {q : List (List UInt8)} {n : List UInt8} (h : isName n = true) : parP (joinP (q ++ [n])) = joinP q := by
  by_cases hq : q = []
  · subst hq
    rw [List.nil_append, joinP_one, parP_free (name_free h)]; rfl
  · rw [joinP_end hq, parP_app (name_free h)]
/-- of a path that is one: its names -/
theorem split_names {p : List UInt8} (h : splitE p = 0) : (splitL p).all isName = true ∧ (splitL p).length ≤ 6 ∧ joinP (splitL p) = p ∧ (splitL p = [] ↔ p = []) := by
  refine ⟨?_, ?_, split_ok h, ?_⟩
  · unfold splitL splitE at *
    split
    · rfl
    · next h0 =>
      rw [if_neg h0] at h
      split
      · next h1 =>
        rw [if_pos h1] at h
        split
        · exact h1
        · rfl
      · rfl
  · unfold splitL
    split
    · simp
    · split
      · split
        · assumption
        · simp
      · simp
  · constructor
    · intro e
      have := split_ok h
      rw [e] at this
      exact this.symm
    · rintro rfl; rfl

/-- the row says what is at any names -/
def Rel (t : Tr) (L : List En) : Prop :=
  (∀ x ∈ L, splitE x.path = 0 ∧ x.path ≠ []) ∧ (L.map En.path).Nodup ∧
  ∀ q, q ≠ [] → ∀ d b, Tr.look? q t = some (d, b) ↔ ∃ x ∈ L, splitL x.path = q ∧ x.dir = d ∧ x.data = b
def root : Tr := .nd true [] []
theorem Rel.start : Rel root [] := by
  refine ⟨fun x hx => (by cases hx), List.nodup_nil, fun q hq d b => ?_⟩
  rcases q with _ | ⟨n, r⟩
  · exact absurd rfl hq
  · constructor
    · intro h
      rw [Tr.look_cons] at h
      cases h
    · rintro ⟨x, hx, _⟩; cases hx
theorem root_wf (d : Nat) : Tr.Wf d root := by
  cases d with
  | zero => exact ⟨rfl, fun _ => rfl, Nat.zero_le _⟩
  | succ d => exact ⟨fun _ => rfl, fun _ => rfl, fun i hi => by simp [Tr.names, root, Tr.kids] at hi, Nat.zero_le _, Nat.zero_le _, fun k hk => by cases hk⟩
/-- one more -/
theorem Rel.add {t : Tr} {L : List En} {x : En} {d : Nat} (hR : Rel t L) (hw : Tr.Wf d t) (hp : splitE x.path = 0) (h : (Tr.withT (splitL x.path) x.dir x.data t).1 = 0) (hno : Tr.look? (splitL x.path) t = none) :
    Rel (Tr.withT (splitL x.path) x.dir x.data t).2 (L ++ [x]) := by
  obtain ⟨r1, r2, r3⟩ := hR
  obtain ⟨_, _, hl⟩ := Tr.with_look hw h
  obtain ⟨_, _, n3, n4⟩ := split_names hp
  have hne : x.path ≠ [] := fun e => by
    rw [n4.2 e] at h; cases h
  have hnew : ∀ y ∈ L, splitL y.path ≠ splitL x.path := fun y hy e => by
    have := (r3 (splitL x.path) (fun e2 => hne (n4.1 e2)) y.dir y.data).2 ⟨y, hy, e, rfl, rfl⟩
    rw [hno] at this; cases this
  refine ⟨fun y hy => ?_, ?_, fun q hq d b => ?_⟩
  · rcases List.mem_append.1 hy with hy | hy
    · exact r1 y hy
    · rw [List.mem_singleton.1 hy]; exact ⟨hp, hne⟩
  · rw [List.map_append, List.nodup_append]
    refine ⟨r2, by simp, fun a ha b hb => ?_⟩
    obtain ⟨y, hy, rfl⟩ := List.mem_map.1 ha
    simp only [List.map_cons, List.map_nil, List.mem_singleton] at hb
    subst hb
    exact fun e => hnew y hy (by rw [e])
  · rw [hl q]
    by_cases hqx : q = splitL x.path
    · subst hqx
      rw [if_pos rfl]
      constructor
      · intro e
        cases e
        exact ⟨x, by simp, rfl, rfl, rfl⟩
      · rintro ⟨y, hy, e1, rfl, rfl⟩
        rcases List.mem_append.1 hy with hy | hy
        · exact absurd e1 (hnew y hy)
        · rw [List.mem_singleton.1 hy]
    · rw [if_neg hqx, r3 q hq]
      constructor
      · rintro ⟨y, hy, e⟩
        exact ⟨y, by simp [hy], e⟩
      · rintro ⟨y, hy, e1, e2⟩
        rcases List.mem_append.1 hy with hy | hy
        · exact ⟨y, hy, e1, e2⟩
        · rw [List.mem_singleton.1 hy] at e1
          exact absurd e1.symm hqx
end Go.Proofs.YtcpgelpajppgdaaDoor
namespace Go.Proofs.YtcpgelpajppgdaaDoor
open Go.RowKit Go.SL

theorem get_append : ∀ (q r : List (List UInt8)) (t : Tr), Tr.get? (q ++ r) t = (Tr.get? q t).bind (Tr.get? r)
  | [], r, t => rfl
  | n :: q, r, t => by
    show Tr.get? (n :: (q ++ r)) t = _
    rw [Tr.get?, Tr.get?]
    cases t.kid? n with
    | none => rfl
    | some k => exact get_append q r k
theorem get_snoc {q : List (List UInt8)} {n : List UInt8} {t p : Tr} (h : Tr.get? q t = some p) : Tr.get? (q ++ [n]) t = p.kid? n := by
  rw [get_append, h]
  show Tr.get? [n] p = _
  rw [Tr.get?]
  cases p.kid? n <;> rfl
theorem look_isSome {q : List (List UInt8)} {t : Tr} : (Tr.look? q t).isSome = (Tr.get? q t).isSome := by
  rw [Tr.look?, Option.isSome_map]
theorem wf_get : ∀ {q : List (List UInt8)} {t p : Tr} {d : Nat}, Tr.Wf d t → Tr.get? q t = some p → ∃ e, Tr.Wf e p
  | [], t, p, d, hw, h => by cases h; exact ⟨d, hw⟩
  | n :: q, t, p, d, hw, h => by
    rw [Tr.get?] at h
    cases hk : t.kid? n with
    | none => rw [hk] at h; cases h
    | some k =>
      rw [hk] at h
      obtain ⟨e, _, he⟩ := Tr.wf_kid hw (Tr.kid_mem hk)
      exact wf_get he h
theorem joinP_inj {a b : List (List UInt8)} (ha : a.all isName = true) (hb : b.all isName = true) (la : a.length ≤ 6) (lb : b.length ≤ 6) (h : joinP a = joinP b) : a = b := by
  by_cases h1 : a = []
  · subst h1
    by_cases h2 : b = []
    · exact h2.symm
    · exact absurd h.symm (joinP_ne h2 hb)
  · by_cases h2 : b = []
    · subst h2; exact absurd h (joinP_ne h1 ha)
    · have e1 := (join_split h1 ha la).1
      rw [h, (join_split h2 hb lb).1] at e1
      exact e1.symm
theorem snoc_of_ne {α : Type} {l : List α} (h : l ≠ []) : ∃ q n, l = q ++ [n] := ⟨l.dropLast, l.getLast h, (List.dropLast_concat_getLast h).symm⟩
/-- the entries of what is right in a directory -/
def kidsD (L : List En) (p : List UInt8) : List En := L.filter fun x => parP x.path == p
def Tr.isIn' (p : Tr) (n : List UInt8) : Bool := isIn p.names n
theorem kids_names {t p : Tr} {L : List En} {d : Nat} {q : List (List UInt8)} (hR : Rel t L) (hw : Tr.Wf d t) (hq : q.all isName = true) (lq : q.length ≤ 6) (hg : Tr.get? q t = some p) (n : List UInt8) :
    n ∈ p.names ↔ ∃ x ∈ L, splitL x.path = q ++ [n] := by
  obtain ⟨_, _, r3⟩ := hR
  obtain ⟨e, he⟩ := wf_get hw hg
  have h1 : n ∈ p.names ↔ Tr.isIn' p n = true := by rw [Tr.isIn', isIn, List.contains_iff_mem]
  have h2 : (Tr.look? (q ++ [n]) t).isSome = isIn p.names n := by
    rw [look_isSome, get_snoc hg]
    cases hk : p.kid? n with
    | none => rw [Tr.kid_none.1 hk]; rfl
    | some k =>
      cases hi : isIn p.names n with
      | true => rfl
      | false => rw [Tr.kid_none.2 hi] at hk; cases hk
  rw [h1, Tr.isIn', ← h2]
  constructor
  · intro h
    obtain ⟨⟨a, b⟩, hab⟩ := Option.isSome_iff_exists.1 h
    obtain ⟨x, hx, e1, _⟩ := (r3 _ (by simp) a b).1 hab
    exact ⟨x, hx, e1⟩
  · rintro ⟨x, hx, e1⟩
    rw [(r3 (q ++ [n]) (by simp) x.dir x.data).2 ⟨x, hx, e1, rfl, rfl⟩]; rfl
end Go.Proofs.YtcpgelpajppgdaaDoor
namespace Go.Proofs.YtcpgelpajppgdaaDoor
open Go.RowKit Go.SL

/-- entries whose directory it is, by their names -/
theorem kidsD_iff {L : List En} (h : ∀ x ∈ L, splitE x.path = 0 ∧ x.path ≠ []) {q : List (List UInt8)} (hq : q.all isName = true) (lq : q.length ≤ 6) {x : En} (hx : x ∈ L) :
    parP x.path = joinP q ↔ ∃ n, splitL x.path = q ++ [n] := by
  obtain ⟨h1, h2⟩ := h x hx
  obtain ⟨a, b, c, e⟩ := split_names h1
  obtain ⟨r, n, hr⟩ := snoc_of_ne (fun h3 => h2 (e.1 h3) : splitL x.path ≠ [])
  rw [hr] at a b c ⊢
  rw [List.all_append, Bool.and_eq_true] at a
  have hn : isName n = true := by simpa using a.2
  rw [← c, parP_join hn]
  constructor
  · intro h3
    exact ⟨n, by rw [joinP_inj a.1 hq (by simp at b; omega) lq h3]⟩
  · rintro ⟨m, hm⟩
    have := congrArg List.dropLast hm
    rw [List.dropLast_concat, List.dropLast_concat] at this
    rw [this]
theorem nodup_rising {ks : List (List UInt8)} (h : Rising ks) : ks.Nodup := by
  refine List.pairwise_iff_getElem.2 fun i j hi hj hij e => ?_
  have := Tr.rising_inj h hi hj e
  omega
theorem kids_count {t p : Tr} {L : List En} {d : Nat} {q : List (List UInt8)} (hR : Rel t L) (hw : Tr.Wf d t) (hq : q.all isName = true) (lq : q.length ≤ 6) (hg : Tr.get? q t = some p) :
    (kidsD L (joinP q)).length = p.kids.length := by
  have hk := kids_names hR hw hq lq hg
  obtain ⟨r1, r2, _⟩ := hR
  obtain ⟨e, he⟩ := wf_get hw hg
  have n1 : ((kidsD L (joinP q)).map fun x => splitL x.path).Nodup := by
    have e1 : (kidsD L (joinP q)).map En.path = ((kidsD L (joinP q)).map fun x => splitL x.path).map joinP := by
      rw [List.map_map]
      apply List.map_congr_left
      intro x hx
      have hx2 := (List.mem_filter.1 hx).1
      exact ((split_names (r1 x hx2).1).2.2.1).symm
    have n2 : ((kidsD L (joinP q)).map En.path).Nodup := r2.sublist (List.Sublist.map _ List.filter_sublist)
    rw [e1] at n2
    exact (List.pairwise_map.1 n2).imp fun h e => h (by rw [e])
  have n2 : (p.names.map fun n => q ++ [n]).Nodup := by
    exact List.pairwise_map.2 ((nodup_rising (Tr.wf_rising he)).imp fun h e => h (by simpa using e))
  have hp : ((kidsD L (joinP q)).map fun x => splitL x.path).Perm (p.names.map fun n => q ++ [n]) := by
    refine (List.perm_ext_iff_of_nodup n1 n2).2 fun s => ?_
    rw [List.mem_map, List.mem_map]
    constructor
    · rintro ⟨x, hx, rfl⟩
      obtain ⟨hx1, hx2⟩ := List.mem_filter.1 hx
      obtain ⟨n, hn⟩ := (kidsD_iff r1 hq lq hx1).1 (beq_iff_eq.1 hx2)
      exact ⟨n, (hk n).2 ⟨x, hx1, hn⟩, hn.symm⟩
    · rintro ⟨n, hn, rfl⟩
      obtain ⟨x, hx, e1⟩ := (hk n).1 hn
      exact ⟨x, List.mem_filter.2 ⟨hx, beq_iff_eq.2 ((kidsD_iff r1 hq lq hx).2 ⟨n, e1⟩)⟩, e1⟩
  have := hp.length_eq
  rw [List.length_map, List.length_map, Tr.names, List.length_map] at this
  exact this

/-- is there an entry of a path? -/
def hasD (L : List En) (p : List UInt8) : Bool := L.any fun x => x.path == p
/-- is there a directory of a path? -/
def dirD (L : List En) (p : List UInt8) : Bool := p == [] || L.any fun x => x.path == p && x.dir
/-- the document's error of one more entry -/
def addE (L : List En) (x : En) : Int :=
  if splitE x.path ≠ 0 then splitE x.path
  else if x.path = [] ∨ (x.dir = true ∧ x.data ≠ []) ∨ hasD L x.path = true ∨ dirD L (parP x.path) = false then 8
  else if 8192 < x.data.length ∨ 6 ≤ (kidsD L (parP x.path)).length then 6 else 0
/-- the program's -/
def addT (t : Tr) (x : En) : Int × Tr :=
  if splitE x.path ≠ 0 then (splitE x.path, .zero)
  else if x.dir = true ∧ x.data ≠ [] then (8, .zero)
  else Tr.withT (splitL x.path) x.dir x.data t
theorem hasD_iff {t : Tr} {L : List En} (hR : Rel t L) {p : List UInt8} (hp : splitE p = 0) (h0 : p ≠ []) : hasD L p = (Tr.get? (splitL p) t).isSome := by
  obtain ⟨r1, _, r3⟩ := hR
  obtain ⟨_, _, c, e⟩ := split_names hp
  rw [← look_isSome, hasD, Bool.eq_iff_iff, List.any_eq_true, Option.isSome_iff_exists]
  constructor
  · rintro ⟨x, hx, hxp⟩
    exact ⟨_, (r3 _ (fun h => h0 (e.1 h)) x.dir x.data).2 ⟨x, hx, by rw [beq_iff_eq.1 hxp], rfl, rfl⟩⟩
  · rintro ⟨⟨a, b⟩, hab⟩
    obtain ⟨x, hx, e1, _⟩ := (r3 _ (fun h => h0 (e.1 h)) a b).1 hab
    refine ⟨x, hx, beq_iff_eq.2 ?_⟩
    rw [← (split_names (r1 x hx).1).2.2.1, e1, c]
theorem dirD_iff {t : Tr} {L : List En} (hR : Rel t L) (ht : t.dir = true) {q : List (List UInt8)} (hq : q.all isName = true) (lq : q.length ≤ 6) : dirD L (joinP q) = match Tr.get? q t with
    | none => false
    | some p => p.dir := by
  obtain ⟨r1, _, r3⟩ := hR
  by_cases h0 : q = []
  · subst h0
    show (([] : List UInt8) == [] || _) = t.dir
    rw [ht]; rfl
  · have hj : (joinP q == []) = false := by rw [beq_eq_false_iff_ne]; exact joinP_ne h0 hq
    have key : (L.any fun x => x.path == joinP q && x.dir) = true ↔ ∃ b, Tr.look? q t = some (true, b) := by
      rw [List.any_eq_true]
      constructor
      · rintro ⟨x, hx, hxp⟩
        rw [Bool.and_eq_true, beq_iff_eq] at hxp
        refine ⟨x.data, (r3 q h0 true x.data).2 ⟨x, hx, ?_, hxp.2, rfl⟩⟩
        rw [hxp.1, (join_split h0 hq lq).1]
      · rintro ⟨b, hb⟩
        obtain ⟨x, hx, e1, e2, _⟩ := (r3 q h0 true b).1 hb
        refine ⟨x, hx, ?_⟩
        rw [Bool.and_eq_true, beq_iff_eq]
        exact ⟨by rw [← (split_names (r1 x hx).1).2.2.1, e1], e2⟩
    rw [dirD, hj, Bool.false_or, Bool.eq_iff_iff, key, Tr.look?]
    cases hg : Tr.get? q t with
    | none => simp
    | some p => simp
/-- both tell the same error -/
theorem add_err {t : Tr} {L : List En} {x : En} {d : Nat} (hR : Rel t L) (hw : Tr.Wf d t) (ht : t.dir = true) : (addT t x).1 = addE L x := by
  rw [addT, addE]
  by_cases h1 : splitE x.path ≠ 0
  · rw [if_pos h1, if_pos h1]
  · rw [if_neg h1, if_neg h1]
    have hs : splitE x.path = 0 := by simpa using h1
    obtain ⟨a, b, c, e⟩ := split_names hs
    by_cases h2 : x.dir = true ∧ x.data ≠ []
    · rw [if_pos h2, if_pos (.inr (.inl h2))]
    · rw [if_neg h2]
      by_cases h3 : x.path = []
      · rw [if_pos (.inl h3), e.2 h3]; rfl
      · obtain ⟨r, n, hr⟩ := snoc_of_ne (fun h4 => h3 (e.1 h4) : splitL x.path ≠ [])
        have hh := hasD_iff hR hs h3
        rw [hr] at a b c hh ⊢
        rw [List.all_append, Bool.and_eq_true] at a
        have hn : isName n = true := by simpa using a.2
        have lr : r.length ≤ 6 := by simp at b; omega
        have hpar : parP x.path = joinP r := by rw [← c, parP_join hn]
        have hd := dirD_iff hR ht a.1 lr
        rw [Tr.with_err hw, hpar, hh, hd]
        cases hg : Tr.get? r t with
        | none => simp [Tr.errAt]
        | some p =>
          have hc := kids_count hR hw a.1 lr hg
          have hi : (Tr.get? (r ++ [n]) t).isSome = isIn p.names n := by
            rw [get_snoc hg]
            cases hk : p.kid? n with
            | none => rw [Tr.kid_none.1 hk]; rfl
            | some k =>
              cases hi : isIn p.names n with
              | true => rfl
              | false => rw [Tr.kid_none.2 hi] at hk; cases hk
          rw [hi, hc]
          simp only [h3, h2, false_or, Tr.errAt]
          cases p.dir with
          | false => simp
          | true =>
            cases isIn p.names n with
            | true => simp
            | false =>
              simp only [Bool.not_false, Bool.and_self, if_true, Bool.false_eq_true, Bool.true_eq_false, or_self, if_false]
              have : (6 < p.kids.length + 1 ∨ 8192 < x.data.length) ↔ (8192 < x.data.length ∨ 6 ≤ p.kids.length) := by omega
              simp only [this]
end Go.Proofs.YtcpgelpajppgdaaDoor
namespace Go.Proofs.YtcpgelpajppgdaaDoor
open Go.RowKit Go.SL

theorem addT_zero {t : Tr} {x : En} (h : (addT t x).1 ≠ 0) : (addT t x).2 = .zero := by
  rw [addT] at h ⊢
  split
  · rfl
  · next h1 =>
    rw [if_neg h1] at h
    split
    · rfl
    · next h2 =>
      rw [if_neg h2] at h
      exact Tr.with_zero h
/-- what a tree of entries is like -/
def Good (t : Tr) (L : List En) : Prop := Rel t L ∧ Tr.Wf 6 t ∧ t.dir = true ∧ t.data = []
theorem good_root : Good root [] := ⟨Rel.start, root_wf 6, rfl, rfl⟩
theorem add_good {t : Tr} {L : List En} {x : En} (h : Good t L) (h0 : (addT t x).1 = 0) : Good (addT t x).2 (L ++ [x]) := by
  obtain ⟨hR, hw, hd, hb⟩ := h
  have h0' := h0
  rw [addT] at h0 ⊢
  split at h0
  · next h1 => exact absurd h0 h1
  · next h1 =>
    rw [if_neg h1]
    split at h0
    · cases h0
    · next h2 =>
      rw [if_neg h2]
      have hs : splitE x.path = 0 := by simpa using h1
      obtain ⟨a, b, c, e⟩ := split_names hs
      have hne : splitL x.path ≠ [] := fun h3 => by rw [h3] at h0; cases h0
      have hno : Tr.look? (splitL x.path) t = none := by
        obtain ⟨r, n, hr⟩ := snoc_of_ne hne
        rw [hr] at h0 ⊢
        rw [Tr.with_err hw] at h0
        cases hg : Tr.get? r t with
        | none => rw [hg] at h0; cases h0
        | some p =>
          rw [hg] at h0
          simp only [Tr.errAt] at h0
          split at h0
          · next h3 =>
            rw [Bool.and_eq_true, Bool.not_eq_true'] at h3
            rw [Tr.look?, get_snoc hg, Tr.kid_none.2 h3.2]; rfl
          · cases h0
      obtain ⟨l1, l2, _⟩ := Tr.with_look hw h0
      exact ⟨hR.add hw hs h0 hno, Tr.with_wf hw b a (fun h3 => by
        cases hx : x.data with
        | nil => rfl
        | cons y r => exact absurd ⟨h3, by rw [hx]; simp⟩ h2) h0, l1, l2⟩
def goT (t : Tr) : List En → Int × Tr
  | [] => (0, t)
  | x :: r => if (addT t x).1 = 0 then goT (addT t x).2 r else ((addT t x).1, .zero)
def goD (L : List En) : List En → Int × List En
  | [] => (0, L)
  | x :: r => if addE L x = 0 then goD (L ++ [x]) r else (addE L x, [])
def buildT (l : List En) : Int × Tr := if 64 < l.length then (6, .zero) else goT root l
def buildD (l : List En) : Int × List En := if 64 < l.length then (6, []) else goD [] l
theorem go_same : ∀ {r L : List En} {t : Tr}, Good t L → (goT t r).1 = (goD L r).1 ∧ ((goT t r).1 = 0 → Good (goT t r).2 (goD L r).2 ∧ (goD L r).2 = L ++ r)
  | [], L, t, h => ⟨rfl, fun _ => ⟨h, (List.append_nil _).symm⟩⟩
  | x :: r, L, t, h => by
    have he := add_err (x := x) h.1 h.2.1 h.2.2.1
    rw [goT, goD, ← he]
    split
    · next h0 =>
      obtain ⟨i1, i2⟩ := go_same (r := r) (add_good h h0)
      refine ⟨i1, fun h1 => ?_⟩
      obtain ⟨j1, j2⟩ := i2 h1
      exact ⟨j1, by rw [j2, List.append_assoc]; rfl⟩
    · next h0 => exact ⟨rfl, fun h1 => absurd h1 h0⟩
theorem build_same (l : List En) : (buildT l).1 = (buildD l).1 ∧ ((buildT l).1 = 0 → Good (buildT l).2 (buildD l).2 ∧ (buildD l).2 = l) := by
  rw [buildT, buildD]
  split
  · exact ⟨rfl, fun h => by cases h⟩
  · obtain ⟨h1, h2⟩ := go_same (r := l) good_root
    refine ⟨h1, fun h => ?_⟩
    obtain ⟨a, b⟩ := h2 h
    exact ⟨a, by rw [b]; rfl⟩
theorem goT_zero : ∀ {r : List En} {t : Tr}, (goT t r).1 ≠ 0 → (goT t r).2 = .zero
  | [], t, h => absurd rfl h
  | x :: r, t, h => by
    rw [goT] at h ⊢
    split
    · next h0 => rw [if_pos h0] at h; exact goT_zero h
    · rfl
theorem buildT_zero {l : List En} (h : (buildT l).1 ≠ 0) : (buildT l).2 = .zero := by
  rw [buildT] at h ⊢
  split
  · rfl
  · next h0 => rw [if_neg h0] at h; exact goT_zero h
end Go.Proofs.YtcpgelpajppgdaaDoor
namespace Go.Proofs.YtcpgelpajppgdaaDoor
open Go.RowKit Go.SL

/-- a kid's entry -/
def entOf (q : List (List UInt8)) (k : List UInt8 × Tr) : En := ⟨joinP (q ++ [k.1]), k.2.dir, k.2.data⟩
def sortT (q : List (List UInt8)) (p : Tr) : List En := p.kids.map (entOf q)
theorem bl_append : ∀ (s a b : List UInt8), Op.bytesLess (s ++ a) (s ++ b) = Op.bytesLess a b
  | [], _, _ => rfl
  | c :: s, a, b => by
    rw [Bool.eq_iff_iff, List.cons_append, List.cons_append, bl_cons, bl_append s a b]
    constructor
    · rintro (h | h)
      · omega
      · exact h.2
    · exact fun h => .inr ⟨rfl, h⟩
theorem bl_join (q : List (List UInt8)) (a b : List UInt8) : Op.bytesLess (joinP (q ++ [a])) (joinP (q ++ [b])) = Op.bytesLess a b := by
  by_cases h : q = []
  · subst h
    rw [List.nil_append, List.nil_append, joinP_one, joinP_one]
  · rw [joinP_end h, joinP_end h, bl_append]
    exact bl_append [47] a b
theorem sortT_rising {q : List (List UInt8)} {p : Tr} (h : Rising p.names) : Rising ((sortT q p).map En.path) := by
  intro i hi
  simp only [sortT, List.length_map] at hi
  simp only [sortT, List.getElem_map, entOf, bl_join]
  have := h i (by simpa [Tr.names] using hi)
  simpa [Tr.names] using this
theorem kidsD_nodup {L : List En} (h : (L.map En.path).Nodup) (p : List UInt8) : (kidsD L p).Nodup := by
  have h2 : ((kidsD L p).map En.path).Nodup := h.sublist (List.Sublist.map _ List.filter_sublist)
  exact (List.pairwise_map.1 h2).imp fun h e => h (by rw [e])
/-- what the document sorts -/
theorem sortT_perm {t p : Tr} {L : List En} {d : Nat} {q : List (List UInt8)} (hR : Rel t L) (hw : Tr.Wf d t) (hq : q.all isName = true) (lq : q.length ≤ 6) (hg : Tr.get? q t = some p) :
    (kidsD L (joinP q)).Perm (sortT q p) := by
  obtain ⟨r1, r2, r3⟩ := hR
  obtain ⟨e, he⟩ := wf_get hw hg
  have hr := Tr.wf_rising he
  have n2 : (sortT q p).Nodup := by
    have := nodup_rising (sortT_rising (q := q) hr)
    exact (List.pairwise_map.1 this).imp fun h e => h (by rw [e])
  refine (List.perm_ext_iff_of_nodup (kidsD_nodup r2 _) n2).2 fun y => ?_
  constructor
  · intro hy
    obtain ⟨hy1, hy2⟩ := List.mem_filter.1 hy
    obtain ⟨n, hn⟩ := (kidsD_iff r1 hq lq hy1).1 (beq_iff_eq.1 hy2)
    have hl := (r3 (q ++ [n]) (by simp) y.dir y.data).2 ⟨y, hy1, hn, rfl, rfl⟩
    rw [Tr.look?, get_snoc hg] at hl
    cases hk : p.kid? n with
    | none => rw [hk] at hl; cases hl
    | some k =>
      rw [hk] at hl
      simp only [Option.map_some, Option.some.injEq, Prod.mk.injEq] at hl
      refine List.mem_map.2 ⟨(n, k), Tr.kid_mem hk, ?_⟩
      have hp := (split_names (r1 y hy1).1).2.2.1
      rw [hn] at hp
      rw [entOf, hp, hl.1, hl.2]
  · intro hy
    obtain ⟨⟨n, k⟩, hk, rfl⟩ := List.mem_map.1 hy
    have hkk := (Tr.kid_iff hr).2 hk
    have hl : Tr.look? (q ++ [n]) t = some (k.dir, k.data) := by rw [Tr.look?, get_snoc hg, hkk]; rfl
    obtain ⟨x, hx, e1, e2, e3⟩ := (r3 _ (by simp) _ _).1 hl
    have hp := (split_names (r1 x hx).1).2.2.1
    rw [e1] at hp
    have hxe : x = entOf q (n, k) := by
      obtain ⟨xp, xd, xb⟩ := x
      simp only at e2 e3 hp
      rw [entOf, e2, e3, hp]
    rw [← hxe]
    exact List.mem_filter.2 ⟨hx, beq_iff_eq.2 ((kidsD_iff r1 hq lq hx).2 ⟨n, e1⟩)⟩
/-- all that is in a directory, so deep -/
def entT : Nat → List (List UInt8) → Tr → List En
  | 0, _, _ => []
  | d + 1, q, t => t.kids.flatMap fun k => entOf q k :: entT d (q ++ [k.1]) k.2
theorem entT_file {d : Nat} {q : List (List UInt8)} {t : Tr} (h : t.kids = []) : entT d q t = [] := by
  cases d with
  | zero => rfl
  | succ d => rw [entT, h]; rfl
/-- deeper does not tell more -/
theorem entT_deep : ∀ {d : Nat} {q : List (List UInt8)} {t : Tr}, Tr.Wf d t → entT (d + 1) q t = entT d q t
  | 0, q, t, h => by rw [entT_file h.1, entT_file h.1]
  | d + 1, q, t, h => by
    rw [entT, entT]
    have : ∀ k ∈ t.kids, (entOf q k :: entT (d + 1) (q ++ [k.1]) k.2) = entOf q k :: entT d (q ++ [k.1]) k.2 := fun k hk => by
      rw [entT_deep (h.2.2.2.2.2 k hk).2]
    rw [List.flatMap_def, List.flatMap_def, List.map_congr_left this]
end Go.Proofs.YtcpgelpajppgdaaDoor
namespace Go.Proofs.YtcpgelpajppgdaaDoor
open Go.RowKit Go.SL

/-- what is at names, as the program finds it (kE: what names are behind a file; nE: there is none) -/
def atT (kE nE : Int) : List (List UInt8) → Tr → Int × Tr
  | [], t => (0, t)
  | n :: r, t => if t.dir then (match t.kid? n with
    | none => (nE, .zero)
    | some k => atT kE nE r k) else (kE, .zero)
theorem atT_get {kE nE : Int} (hk : kE ≠ 0) (hn : nE ≠ 0) : ∀ {q : List (List UInt8)} {t : Tr} {d : Nat}, Tr.Wf d t → ((atT kE nE q t).1 = 0 ↔ (Tr.get? q t).isSome) ∧ (∀ p, Tr.get? q t = some p → (atT kE nE q t).2 = p)
  | [], t, d, _ => ⟨⟨fun _ => rfl, fun _ => rfl⟩, fun p h => by cases h; rfl⟩
  | n :: r, t, d, hw => by
    rw [atT, Tr.get?]
    cases hd : t.dir with
    | false =>
      have : t.kid? n = none := by rw [Tr.kid?, Tr.wf_file hw hd]; rfl
      rw [this]
      exact ⟨⟨fun h => absurd h hk, fun h => by cases h⟩, fun p h => by cases h⟩
    | true =>
      rw [if_pos rfl]
      cases hkd : t.kid? n with
      | none => exact ⟨⟨fun h => absurd h hn, fun h => by cases h⟩, fun p h => by cases h⟩
      | some k =>
        obtain ⟨e, _, he⟩ := Tr.wf_kid hw (Tr.kid_mem hkd)
        exact atT_get hk hn he
/-- a kid of a name, as the document looks for it: an entry of that path, right in the directory -/
theorem kid_entry {t p : Tr} {L : List En} {d : Nat} {q : List (List UInt8)} (hR : Rel t L) (hw : Tr.Wf d t) (hq : q.all isName = true) (lq : q.length ≤ 6) (hg : Tr.get? q t = some p) {n : List UInt8} (hn : isName n = true) {y : En} :
    (y ∈ kidsD L (joinP q) ∧ y.path = joinP (q ++ [n])) ↔ ∃ k, p.kid? n = some k ∧ y = entOf q (n, k) := by
  have hperm := sortT_perm hR hw hq lq hg
  obtain ⟨e, he⟩ := wf_get hw hg
  have hr := Tr.wf_rising he
  rw [hperm.mem_iff, sortT, List.mem_map]
  constructor
  · rintro ⟨⟨⟨m, k⟩, hk, rfl⟩, hp⟩
    have hm : m = n := by
      have hb := bl_irrefl (joinP (q ++ [m]))
      have h1 : joinP (q ++ [m]) = joinP (q ++ [n]) := hp
      have h2 : Op.bytesLess m n = false := by rw [← bl_join q, h1]; exact bl_irrefl _
      have h3 : Op.bytesLess n m = false := by rw [← bl_join q, h1]; exact bl_irrefl _
      by_cases h4 : m = n
      · exact h4
      · have := bl_total h4 h2
        rw [h3] at this; cases this
    subst hm
    exact ⟨k, (Tr.kid_iff hr).2 hk, rfl⟩
  · rintro ⟨k, hk, rfl⟩
    exact ⟨⟨(n, k), Tr.kid_mem hk, rfl⟩, rfl⟩
/-- no kid has a name that is none -/
theorem kid_name {t k : Tr} {d : Nat} {n : List UInt8} (hw : Tr.Wf d t) (h : t.kid? n = some k) : isName n = true := by
  cases d with
  | zero => have := Tr.kid_mem h; rw [hw.1] at this; cases this
  | succ d => exact (hw.2.2.2.2.2 _ (Tr.kid_mem h)).1
theorem get_names : ∀ {q : List (List UInt8)} {t p : Tr} {d : Nat}, Tr.Wf d t → Tr.get? q t = some p → q.all isName = true ∧ q.length ≤ d
  | [], _, _, _, _, _ => ⟨rfl, Nat.zero_le _⟩
  | n :: q, t, p, d, hw, h => by
    rw [Tr.get?] at h
    cases hk : t.kid? n with
    | none => rw [hk] at h; cases h
    | some k =>
      rw [hk] at h
      obtain ⟨e, rfl, he⟩ := Tr.wf_kid hw (Tr.kid_mem hk)
      obtain ⟨a, b⟩ := get_names he h
      refine ⟨?_, by simp only [List.length_cons]; omega⟩
      rw [List.all_cons, kid_name hw hk, a]; rfl
end Go.Proofs.YtcpgelpajppgdaaDoor
namespace Go.Proofs.YtcpgelpajppgdaaDoor
open Go.RowKit Go.SL

theorem rising_ext {a b : List (List UInt8)} (ha : Rising a) (hb : Rising b) (h : ∀ n, n ∈ a ↔ n ∈ b) : a = b := by
  have hp : a.Perm b := (List.perm_ext_iff_of_nodup (nodup_rising ha) (nodup_rising hb)).2 h
  have pa : a.Pairwise fun x y => Op.bytesLess x y = true := List.pairwise_iff_getElem.2 fun i j _ hj hij => ha.of hij hj
  have pb : b.Pairwise fun x y => Op.bytesLess x y = true := List.pairwise_iff_getElem.2 fun i j _ hj hij => hb.of hij hj
  refine hp.eq_of_pairwise (fun x y _ _ h1 h2 => ?_) pa pb
  rw [bl_asymm h1] at h2; cases h2
theorem tr_ext : ∀ {d : Nat} {t s : Tr}, Tr.Wf d t → Tr.Wf d s → (∀ q, Tr.look? q t = Tr.look? q s) → t = s
  | 0, .nd a b c, .nd a' b' c', ht, hs, h => by
    have h0 := h []
    simp only [Tr.look_nil, Tr.dir, Tr.data, Option.some.injEq, Prod.mk.injEq] at h0
    have e1 : c = [] := ht.1
    have e2 : c' = [] := hs.1
    rw [e1, e2, h0.1, h0.2]
  | d + 1, t, s, ht, hs, h => by
    have h0 := h []
    simp only [Tr.look_nil, Option.some.injEq, Prod.mk.injEq] at h0
    have rt := Tr.wf_rising ht
    have rs := Tr.wf_rising hs
    have some_kid : ∀ {u : Tr} {n : List UInt8}, (Tr.look? [n] u).isSome = (u.kid? n).isSome := fun {u n} => by
      rw [Tr.look_cons]
      cases u.kid? n <;> rfl
    have hmem : ∀ {u : Tr} {n : List UInt8}, n ∈ u.names ↔ (u.kid? n).isSome = true := fun {u n} => by
      have : n ∈ u.names ↔ isIn u.names n = true := by rw [isIn, List.contains_iff_mem]
      rw [this]
      cases hk : u.kid? n with
      | none => rw [Tr.kid_none.1 hk]; simp
      | some k =>
        cases hi : isIn u.names n with
        | true => simp
        | false => rw [Tr.kid_none.2 hi] at hk; cases hk
    have hn : t.names = s.names := rising_ext rt rs fun n => by
      rw [hmem, hmem, ← some_kid, ← some_kid, h [n]]
    have hlen : t.kids.length = s.kids.length := by
      have := congrArg List.length hn
      simpa [Tr.names] using this
    have hk : t.kids = s.kids := by
      refine List.ext_getElem hlen fun i h1 h2 => ?_
      have e1 : t.kids[i].1 = s.kids[i].1 := by
        have : t.names[i]'(by simpa [Tr.names] using h1) = s.names[i]'(by simpa [Tr.names] using h2) := by simp only [hn]
        simpa [Tr.names] using this
      have k1 := Tr.kid_at rt h1
      have k2 := Tr.kid_at rs h2
      rw [← e1] at k2
      have e2 : t.kids[i].2 = s.kids[i].2 := by
        refine tr_ext (ht.2.2.2.2.2 _ (List.getElem_mem h1)).2 (hs.2.2.2.2.2 _ (List.getElem_mem h2)).2 fun q => ?_
        have := h (t.kids[i].1 :: q)
        rw [Tr.look_cons, Tr.look_cons, k1, k2] at this
        exact this
      exact Prod.ext e1 e2
    obtain ⟨a, b, c⟩ := t
    obtain ⟨a', b', c'⟩ := s
    have hk' : c = c' := hk
    have ha : a = a' := h0.1
    have hb : b = b' := h0.2
    rw [ha, hb, hk']
/-- who is among all entries -/
theorem entT_mem : ∀ {d : Nat} {q : List (List UInt8)} {t : Tr}, Tr.Wf d t → ∀ {y : En}, y ∈ entT d q t ↔ ∃ s k, s ≠ [] ∧ Tr.get? s t = some k ∧ y = ⟨joinP (q ++ s), k.dir, k.data⟩
  | 0, q, t, h, y => by
    constructor
    · intro h1; cases h1
    · rintro ⟨s, k, hs, hg, _⟩
      rcases s with _ | ⟨n, r⟩
      · exact absurd rfl hs
      · rw [Tr.get?, Tr.kid?, h.1] at hg; cases hg
  | d + 1, q, t, h, y => by
    have hr := Tr.wf_rising h
    rw [entT, List.mem_flatMap]
    constructor
    · rintro ⟨⟨n, k⟩, hk, hy⟩
      have hkk := (Tr.kid_iff hr).2 hk
      rcases List.mem_cons.1 hy with rfl | hy
      · refine ⟨[n], k, by simp, ?_, rfl⟩
        rw [Tr.get?, hkk]; rfl
      · obtain ⟨s, p, _, hg, rfl⟩ := (entT_mem (h.2.2.2.2.2 _ hk).2).1 hy
        refine ⟨n :: s, p, by simp, ?_, ?_⟩
        · rw [Tr.get?, hkk]; exact hg
        · rw [List.append_assoc]; rfl
    · rintro ⟨s, p, hs, hg, rfl⟩
      rcases s with _ | ⟨n, r⟩
      · exact absurd rfl hs
      · rw [Tr.get?] at hg
        cases hk : t.kid? n with
        | none => rw [hk] at hg; cases hg
        | some k =>
          rw [hk] at hg
          refine ⟨(n, k), Tr.kid_mem hk, ?_⟩
          by_cases hr0 : r = []
          · subst hr0
            cases hg
            exact List.mem_cons.2 (.inl rfl)
          · refine List.mem_cons.2 (.inr ((entT_mem (h.2.2.2.2.2 _ (Tr.kid_mem hk)).2).2 ⟨r, p, hr0, hg, ?_⟩))
            rw [List.append_assoc]; rfl
end Go.Proofs.YtcpgelpajppgdaaDoor
namespace Go.Proofs.YtcpgelpajppgdaaDoor
open Go.RowKit Go.SL

/-- the names of all entries -/
def entS : Nat → List (List UInt8) → Tr → List (List (List UInt8))
  | 0, _, _ => []
  | d + 1, q, t => t.kids.flatMap fun k => (q ++ [k.1]) :: entS d (q ++ [k.1]) k.2
theorem entS_path : ∀ {d : Nat} {q : List (List UInt8)} {t : Tr}, (entT d q t).map En.path = (entS d q t).map joinP
  | 0, _, _ => rfl
  | d + 1, q, t => by
    rw [entT, entS, List.map_flatMap, List.map_flatMap]
    congr 1
    funext k
    rw [List.map_cons, List.map_cons, entS_path]; rfl
theorem entS_pre : ∀ {d : Nat} {q s : List (List UInt8)} {t : Tr}, s ∈ entS d q t → ∃ n r, s = q ++ n :: r ∧ n ∈ t.names
  | 0, _, _, _, h => by cases h
  | d + 1, q, s, t, h => by
    rw [entS, List.mem_flatMap] at h
    obtain ⟨k, hk, h⟩ := h
    have hn : k.1 ∈ t.names := List.mem_map.2 ⟨k, hk, rfl⟩
    rcases List.mem_cons.1 h with rfl | h
    · exact ⟨k.1, [], rfl, hn⟩
    · obtain ⟨n, r, rfl, _⟩ := entS_pre h
      exact ⟨k.1, n :: r, by rw [List.append_assoc]; rfl, hn⟩
theorem entS_nodup : ∀ {d : Nat} {q : List (List UInt8)} {t : Tr}, Tr.Wf d t → (entS d q t).Nodup
  | 0, _, _, _ => List.nodup_nil
  | d + 1, q, t, h => by
    have hr := nodup_rising (Tr.wf_rising h)
    rw [entS]
    refine List.pairwise_flatMap.2 ⟨fun k hk => ?_, ?_⟩
    · refine List.nodup_cons.2 ⟨fun hm => ?_, entS_nodup (h.2.2.2.2.2 k hk).2⟩
      obtain ⟨n, r, e, _⟩ := entS_pre hm
      have := congrArg List.length e
      simp at this
    · refine (List.pairwise_map.1 hr).imp fun {a b} hab x hx y hy e => ?_
      have pre : ∀ {k : List UInt8 × Tr} {x : List (List UInt8)}, x ∈ (q ++ [k.1]) :: entS d (q ++ [k.1]) k.2 → ∃ r, x = q ++ k.1 :: r := fun {k x} hx => by
        rcases List.mem_cons.1 hx with rfl | hx
        · exact ⟨[], rfl⟩
        · obtain ⟨n, r, rfl, _⟩ := entS_pre hx
          exact ⟨n :: r, by rw [List.append_assoc]; rfl⟩
      obtain ⟨r1, e1⟩ := pre hx
      obtain ⟨r2, e2⟩ := pre hy
      rw [e1, e2] at e
      have := List.append_cancel_left e
      exact hab (List.cons.inj this).1
/-- each entry's directory stands ahead of it -/
def Ahead (base : List UInt8) (l : List En) : Prop := ∀ A x B, l = A ++ x :: B → parP x.path = base ∨ ∃ y ∈ A, y.path = parP x.path ∧ y.dir = true
theorem Ahead.nil (b : List UInt8) : Ahead b [] := fun A x B h => by cases A <;> cases h
theorem Ahead.append {b : List UInt8} {l m : List En} (h1 : Ahead b l) (h2 : Ahead b m) : Ahead b (l ++ m) := by
  intro A x B h
  rcases List.append_eq_append_iff.1 h with ⟨C, e1, e2⟩ | ⟨C, e1, e2⟩
  · rcases h2 C x B e2 with h3 | ⟨y, hy, h4⟩
    · exact .inl h3
    · exact .inr ⟨y, by rw [e1]; simp [hy], h4⟩
  · cases C with
    | nil =>
      rw [List.nil_append] at e2
      rcases h2 [] x B (by rw [← e2]; rfl) with h3 | ⟨y, hy, _⟩
      · exact .inl h3
      · cases hy
    | cons c C =>
      rw [List.cons_append] at e2
      obtain ⟨rfl, _⟩ := List.cons.inj e2
      exact h1 A x C e1
theorem Ahead.flat {b : List UInt8} {α : Type} {f : α → List En} : ∀ {l : List α}, (∀ a ∈ l, Ahead b (f a)) → Ahead b (l.flatMap f)
  | [], _ => Ahead.nil b
  | a :: l, h => by
    rw [List.flatMap_cons]
    exact (h a (by simp)).append (Ahead.flat fun c hc => h c (by simp [hc]))
theorem entT_ahead : ∀ {d : Nat} {q : List (List UInt8)} {t : Tr}, Tr.Wf d t → Ahead (joinP q) (entT d q t)
  | 0, q, t, _ => Ahead.nil _
  | d + 1, q, t, h => by
    rw [entT]
    refine Ahead.flat fun k hk => ?_
    have hn := (h.2.2.2.2.2 k hk).1
    have hwk := (h.2.2.2.2.2 k hk).2
    have ih := entT_ahead (q := q ++ [k.1]) hwk
    intro A x B e
    cases A with
    | nil =>
      rw [List.nil_append] at e
      obtain ⟨rfl, _⟩ := List.cons.inj e
      exact .inl (parP_join hn)
    | cons a A =>
      rw [List.cons_append] at e
      obtain ⟨rfl, e2⟩ := List.cons.inj e
      rcases ih A x B e2 with h3 | ⟨y, hy, h4⟩
      · refine .inr ⟨entOf q k, by simp, h3.symm, ?_⟩
        cases hd : k.2.dir with
        | true => exact hd
        | false =>
          have := entT_file (d := d) (q := q ++ [k.1]) (Tr.wf_file hwk hd)
          rw [this] at e2
          cases A <;> cases e2
      · exact .inr ⟨y, by simp [hy], h4⟩
end Go.Proofs.YtcpgelpajppgdaaDoor
namespace Go.Proofs.YtcpgelpajppgdaaDoor
open Go.RowKit Go.SL

theorem all_mem {t : Tr} {L : List En} (h : Good t L) {y : En} : y ∈ entT 6 [] t ↔ y ∈ L := by
  obtain ⟨⟨r1, r2, r3⟩, hw, hd, hb⟩ := h
  rw [entT_mem hw]
  constructor
  · rintro ⟨s, k, hs, hg, rfl⟩
    obtain ⟨x, hx, e1, e2, e3⟩ := (r3 s hs k.dir k.data).1 (by rw [Tr.look?, hg]; rfl)
    have hp := (split_names (r1 x hx).1).2.2.1
    rw [e1] at hp
    obtain ⟨xp, xd, xb⟩ := x
    simp only at e2 e3 hp
    rw [List.nil_append, hp, ← e2, ← e3]
    exact hx
  · intro hy
    obtain ⟨_, _, c, e⟩ := split_names (r1 y hy).1
    have hne : splitL y.path ≠ [] := fun h => (r1 y hy).2 (e.1 h)
    have hl := (r3 _ hne y.dir y.data).2 ⟨y, hy, rfl, rfl, rfl⟩
    rw [Tr.look?] at hl
    cases hg : Tr.get? (splitL y.path) t with
    | none => rw [hg] at hl; cases hl
    | some k =>
      rw [hg] at hl
      simp only [Option.map_some, Option.some.injEq, Prod.mk.injEq] at hl
      exact ⟨splitL y.path, k, hne, hg, by rw [List.nil_append, c, hl.1, hl.2]⟩
theorem entS_names : ∀ {d : Nat} {q s : List (List UInt8)} {t : Tr}, Tr.Wf d t → s ∈ entS d q t → ∃ r, s = q ++ r ∧ r.all isName = true ∧ r.length ≤ d
  | 0, _, _, _, _, h => by cases h
  | d + 1, q, s, t, hw, h => by
    rw [entS, List.mem_flatMap] at h
    obtain ⟨k, hk, h⟩ := h
    obtain ⟨hn, hwk⟩ := hw.2.2.2.2.2 k hk
    rcases List.mem_cons.1 h with rfl | h
    · exact ⟨[k.1], rfl, by simpa using hn, by simp⟩
    · obtain ⟨r, rfl, a, b⟩ := entS_names hwk h
      exact ⟨k.1 :: r, by rw [List.append_assoc]; rfl, by rw [List.all_cons, hn, a]; rfl, by simp only [List.length_cons]; omega⟩
theorem all_nodup {t : Tr} (hw : Tr.Wf 6 t) : ((entT 6 [] t).map En.path).Nodup := by
  rw [entS_path]
  refine List.pairwise_map.2 ((List.Pairwise.and_mem.1 (entS_nodup (q := []) hw)).imp fun {a b} h e => ?_)
  obtain ⟨r1, e1, a1, b1⟩ := entS_names hw h.1
  obtain ⟨r2, e2, a2, b2⟩ := entS_names hw h.2.1
  rw [List.nil_append] at e1 e2
  subst e1 e2
  exact h.2.2 (joinP_inj a1 a2 b1 b2 e)
theorem all_perm {t : Tr} {L : List En} (h : Good t L) : (entT 6 [] t).Perm L := by
  have n1 : (entT 6 [] t).Nodup := (List.pairwise_map.1 (all_nodup h.2.1)).imp fun h e => h (by rw [e])
  have n2 : L.Nodup := (List.pairwise_map.1 h.1.2.1).imp fun h e => h (by rw [e])
  exact (List.perm_ext_iff_of_nodup n1 n2).2 fun y => all_mem h
theorem go_all {t : Tr} {L : List En} (h : Good t L) : ∀ {B A : List En} {u : Tr}, entT 6 [] t = A ++ B → Good u A → (goT u B).1 = 0
  | [], _, _, _, _ => rfl
  | x :: B, A, u, e, hu => by
    have hx : x ∈ L := (all_mem h).1 (by rw [e]; simp)
    obtain ⟨s1, s2⟩ := h.1.1 x hx
    have hnd := all_nodup h.2.1
    rw [e, List.map_append, List.nodup_append] at hnd
    have hah := entT_ahead (q := []) h.2.1 A x B e
    obtain ⟨s, k, hs, hg, hxk⟩ := (entT_mem h.2.1).1 ((all_mem h).2 hx)
    obtain ⟨d', hwk⟩ := wf_get h.2.1 hg
    obtain ⟨a, b, c, e0⟩ := split_names s1
    obtain ⟨r, n, hr⟩ := snoc_of_ne (fun h4 => s2 (e0.1 h4) : splitL x.path ≠ [])
    rw [hr] at a b c
    rw [List.all_append, Bool.and_eq_true] at a
    have hn : isName n = true := by simpa using a.2
    have lr : r.length ≤ 6 := by simp at b; omega
    have hpar : parP x.path = joinP r := by rw [← c, parP_join hn]
    have hE : addE A x = 0 := by
      rw [addE, if_neg (by simpa using s1), if_neg, if_neg]
      · have hsz := (Tr.wf_size hwk).1
        have hd8 : x.data.length ≤ 8192 := by rw [hxk]; exact hsz
        -- the directory of x, in the tree
        have hl : Tr.look? (r ++ [n]) t = some (x.dir, x.data) := (h.1.2.2 _ (by simp) _ _).2 ⟨x, hx, hr, rfl, rfl⟩
        have hgr : ∃ p, Tr.get? r t = some p := by
          cases hgp : Tr.get? r t with
          | some p => exact ⟨p, rfl⟩
          | none => rw [Tr.look?, get_append, hgp] at hl; cases hl
        obtain ⟨p, hp⟩ := hgr
        obtain ⟨d2, hwp⟩ := wf_get h.2.1 hp
        have h6 := (Tr.wf_size hwp).2
        have hkc := kids_count h.1 h.2.1 a.1 lr hp
        have hpm := ((all_perm h).filter fun y => parP y.path == joinP r).length_eq
        have hsub : (kidsD (A ++ [x]) (joinP r)).length ≤ (kidsD (entT 6 [] t) (joinP r)).length := by
          rw [e, show A ++ x :: B = (A ++ [x]) ++ B by simp]
          exact (List.Sublist.filter _ (List.sublist_append_left _ _)).length_le
        have hone : (kidsD (A ++ [x]) (joinP r)).length = (kidsD A (joinP r)).length + 1 := by
          rw [kidsD, List.filter_append, List.length_append, ← kidsD]
          congr 1
          simp [hpar]
        have hk2 : (kidsD (entT 6 [] t) (joinP r)).length = p.kids.length := by rw [← hkc]; exact hpm
        rw [hpar]
        omega
      · rintro (h1 | ⟨h1, h2⟩ | h1 | h1)
        · exact s2 h1
        · refine h2 ?_
          rw [hxk] at h1 ⊢
          exact Tr.wf_data hwk h1
        · rw [hasD, List.any_eq_true] at h1
          obtain ⟨y, hy, hyp⟩ := h1
          exact hnd.2.2 y.path (List.mem_map.2 ⟨y, hy, rfl⟩) x.path (by simp) (beq_iff_eq.1 hyp)
        · rcases hah with h2 | ⟨y, hy, h2, h3⟩
          · have h4 : parP x.path = [] := h2
            rw [dirD, h4] at h1
            cases h1
          · have : dirD A (parP x.path) = true := by
              rw [dirD, Bool.or_eq_true, List.any_eq_true]
              exact .inr ⟨y, hy, by rw [h2, h3]; simp⟩
            rw [this] at h1; cases h1
    have hT : (addT u x).1 = 0 := by rw [add_err hu.1 hu.2.1 hu.2.2.1, hE]
    rw [goT, if_pos hT]
    exact go_all h (by rw [e]; simp) (add_good hu hT)
/-- what is built of a tree's entries is that tree -/
theorem build_entries {t : Tr} {L : List En} (h : Good t L) (hl : L.length ≤ 64) : buildT (entT 6 [] t) = (0, t) := by
  have hlen := (all_perm h).length_eq
  have h0 : (goT root (entT 6 [] t)).1 = 0 := go_all h (A := []) rfl good_root
  obtain ⟨_, h2⟩ := go_same (r := entT 6 [] t) good_root
  obtain ⟨g1, g2⟩ := h2 h0
  rw [g2, List.nil_append] at g1
  have ht : (goT root (entT 6 [] t)).2 = t := by
    refine tr_ext g1.2.1 h.2.1 fun q => ?_
    by_cases hq : q = []
    · subst hq
      rw [Tr.look_nil, Tr.look_nil, g1.2.2.1, g1.2.2.2, h.2.2.1, h.2.2.2]
    · have key : ∀ d b, Tr.look? q (goT root (entT 6 [] t)).2 = some (d, b) ↔ Tr.look? q t = some (d, b) := fun d b => by
        rw [g1.1.2.2 q hq, h.1.2.2 q hq]
        constructor
        · rintro ⟨x, hx, h3⟩; exact ⟨x, (all_mem h).1 hx, h3⟩
        · rintro ⟨x, hx, h3⟩; exact ⟨x, (all_mem h).2 hx, h3⟩
      cases h3 : Tr.look? q t with
      | some v => obtain ⟨d, b⟩ := v; exact (key d b).2 h3
      | none =>
        cases h4 : Tr.look? q (goT root (entT 6 [] t)).2 with
        | none => rfl
        | some v => obtain ⟨d, b⟩ := v; rw [(key d b).1 h4] at h3; cases h3
  rw [buildT, if_neg (by omega)]
  exact Prod.ext h0 ht
end Go.Proofs.YtcpgelpajppgdaaDoor
namespace Go.Proofs.YtcpgelpajppgdaaDoor
open Go.RowKit Go.SL

theorem kids_pairs {t : Tr} (h : Rising t.names) : t.kids.Pairwise fun a b => Op.bytesLess a.1 b.1 = true := by
  rw [List.pairwise_iff_getElem]
  intro i j hi hj hij
  have := h.of (i := i) (j := j) hij (by simpa [Tr.names] using hj)
  simpa [Tr.names] using this
theorem entS_rise : ∀ {d : Nat} {q : List (List UInt8)} {t : Tr}, Tr.Wf d t → (entS d q t).Pairwise fun a b => lessL a b = true
  | 0, _, _, _ => List.Pairwise.nil
  | d + 1, q, t, h => by
    rw [entS, List.pairwise_flatMap]
    have hr := Tr.wf_rising h
    refine ⟨fun k hk => ?_, (kids_pairs hr).imp fun {a b} hab x hx y hy => ?_⟩
    · have hw := (h.2.2.2.2.2 k hk).2
      refine List.pairwise_cons.2 ⟨fun s hs => ?_, entS_rise hw⟩
      obtain ⟨n, r, rfl, _⟩ := entS_pre hs
      have := lessL_app (q ++ [k.1]) [] (n :: r)
      rw [List.append_nil] at this
      rw [this]
      rfl
    · have hx2 : ∃ r, x = q ++ a.1 :: r := by
        rcases List.mem_cons.1 hx with rfl | hx
        · exact ⟨[], rfl⟩
        · obtain ⟨n, r, rfl, _⟩ := entS_pre hx
          exact ⟨n :: r, by simp⟩
      have hy2 : ∃ r, y = q ++ b.1 :: r := by
        rcases List.mem_cons.1 hy with rfl | hy
        · exact ⟨[], rfl⟩
        · obtain ⟨n, r, rfl, _⟩ := entS_pre hy
          exact ⟨n :: r, by simp⟩
      obtain ⟨r1, rfl⟩ := hx2
      obtain ⟨r2, rfl⟩ := hy2
      rw [lessL_app]
      exact (lessL_cons _ _ _ _).2 (.inl hab)
theorem ent_rise {t : Tr} (h : Tr.Wf 6 t) : RiseP ((entT 6 [] t).map En.path) := by
  rw [entS_path, RiseP, List.pairwise_map]
  have hn : ∀ s ∈ entS 6 [] t, cuts (joinP s) = s := fun s hs => by
    obtain ⟨r, rfl, h1, _⟩ := entS_names h hs
    obtain ⟨n, r', e, _⟩ := entS_pre hs
    exact cuts_join _ (by rw [e]; simp) h1
  refine (entS_rise h).imp_of_mem fun {a b} ha hb hab => ?_
  rw [lessP, hn a ha, hn b hb]
  exact hab
end Go.Proofs.YtcpgelpajppgdaaDoor
namespace Go.Proofs.YtcpgelpajppgdaaDoor
open Go.RowKit Go.SL

/-- what is at a path -/
structure Sd where
  there : Bool
  dir : Bool
  data : List UInt8
deriving DecidableEq
/-- what is another one at a path -/
structure Ch where
  path : List UInt8
  was : Sd
  now : Sd
deriving DecidableEq
def Sd.no : Sd := ⟨false, false, []⟩
def sideO : Option En → Sd
  | none => .no
  | some x => ⟨true, x.dir, x.data⟩
def fE (l : List En) (k : List UInt8) : Sd := sideO (l.find? fun x => x.path == k)
def chg (k : List UInt8) (a b : Sd) : Option Ch := if a = b then none else some ⟨k, a, b⟩
/-- what two rows of entries differ in, in order -/
def diffP (l m : List En) : List Ch := (sortK (l.map En.path ++ m.map En.path)).filterMap fun k => chg k (fE l k) (fE m k)
section
variable {α β : Type} {f : α → List UInt8} {g : β → List UInt8}
theorem find_key {l : List α} {k : List UInt8} {x : α} (h : l.find? (fun z => f z == k) = some x) : f x = k ∧ x ∈ l := by
  refine ⟨by simpa using List.find?_some h, List.mem_of_find?_eq_some h⟩
theorem find_mem {l : List α} {k : List UInt8} (h : k ∈ l.map f) : ∃ x, l.find? (fun z => f z == k) = some x := by
  obtain ⟨x, hx, rfl⟩ := List.mem_map.1 h
  cases hf : l.find? (fun z => f z == f x) with
  | some y => exact ⟨y, rfl⟩
  | none =>
    have := List.find?_eq_none.1 hf x hx
    simp at this
theorem find_not {l : List α} {k : List UInt8} (h : k ∉ l.map f) : l.find? (fun z => f z == k) = none := by
  cases hf : l.find? (fun z => f z == k) with
  | none => rfl
  | some y =>
    obtain ⟨h1, h2⟩ := find_key hf
    exact absurd (List.mem_map.2 ⟨y, h2, h1⟩) h
theorem key_pair {l : List α} {m : List β} {k : List UInt8} (h : k ∈ l.map f ∨ k ∈ m.map g) : keyB f g (pairAt f g l m k) = k := by
  unfold pairAt
  cases h1 : l.find? (fun z => f z == k) with
  | some x => exact (find_key h1).1
  | none =>
    cases h2 : m.find? (fun z => g z == k) with
    | some y => exact (find_key h2).1
    | none =>
      rcases h with h | h
      · obtain ⟨x, hx⟩ := find_mem h; rw [h1] at hx; cases hx
      · obtain ⟨x, hx⟩ := find_mem h; rw [h2] at hx; cases hx
theorem find_rise {l : List α} (h : RiseP (l.map f)) {x : α} (hx : x ∈ l) : l.find? (fun z => f z == f x) = some x := by
  induction l with
  | nil => cases hx
  | cons y l ih =>
    obtain ⟨h1, h2⟩ := List.pairwise_cons.1 h
    rcases List.mem_cons.1 hx with rfl | hx
    · exact find_here
    · rw [find_past (h1 (f x) (List.mem_map_of_mem hx))]
      exact ih h2 hx
theorem sub_rise {γ : Type} {h : γ → List UInt8} {K : List (List UInt8)} (hK : RiseP K) {F : List UInt8 → Option γ} (hF : ∀ k c, F k = some c → h c = k) : RiseP ((K.filterMap F).map h) ∧ ∀ k, k ∈ (K.filterMap F).map h ↔ k ∈ K ∧ (F k).isSome := by
  induction K with
  | nil => exact ⟨List.Pairwise.nil, fun k => by simp⟩
  | cons j K ih =>
    obtain ⟨h1, h2⟩ := List.pairwise_cons.1 hK
    obtain ⟨i1, i2⟩ := ih h2
    cases hj : F j with
    | none =>
      rw [List.filterMap_cons, hj]
      refine ⟨i1, fun k => ?_⟩
      simp only
      rw [i2, List.mem_cons]
      constructor
      · exact fun h => ⟨.inr h.1, h.2⟩
      · rintro ⟨rfl | h, h3⟩
        · rw [hj] at h3; cases h3
        · exact ⟨h, h3⟩
    | some c =>
      rw [List.filterMap_cons, hj]
      have hc := hF j c hj
      refine ⟨List.pairwise_cons.2 ⟨fun k hk => by rw [hc]; exact h1 k ((i2 k).1 hk).1, i1⟩, fun k => ?_⟩
      simp only [List.map_cons]
      rw [List.mem_cons, i2, hc, List.mem_cons]
      constructor
      · rintro (rfl | h)
        · exact ⟨.inl rfl, by rw [hj]; rfl⟩
        · exact ⟨.inr h.1, h.2⟩
      · rintro ⟨rfl | h, h3⟩
        · exact .inl rfl
        · exact .inr ⟨h, h3⟩
/-- a rising row, told by its paths -/
theorem row_of_keys {l : List α} (h : RiseP (l.map f)) {K : List (List UInt8)} (hK : RiseP K) (hs : ∀ k ∈ l.map f, k ∈ K) : K.filterMap (fun k => l.find? fun z => f z == k) = l := by
  have hF : ∀ k c, (fun k => l.find? fun z => f z == k) k = some c → f c = k := fun k c h => (find_key h).1
  obtain ⟨h1, h2⟩ := sub_rise hK hF
  have e : (K.filterMap (fun k => l.find? fun z => f z == k)).map f = l.map f := riseP_ext h1 h fun k => by
    rw [h2]
    constructor
    · rintro ⟨_, h3⟩
      obtain ⟨x, hx⟩ := Option.isSome_iff_exists.1 h3
      obtain ⟨h4, h5⟩ := find_key hx
      exact List.mem_map.2 ⟨x, h5, h4⟩
    · intro hk
      obtain ⟨x, hx⟩ := find_mem hk
      exact ⟨hs k hk, by rw [hx]; rfl⟩
  have self : ∀ (m : List α), (∀ x ∈ m, l.find? (fun z => f z == f x) = some x) → (m.map f).filterMap (fun k => l.find? fun z => f z == k) = m := by
    intro m
    induction m with
    | nil => intro _; rfl
    | cons x m ih =>
      intro hm
      rw [List.map_cons, List.filterMap_cons, hm x (by simp)]
      simp only
      rw [ih fun y hy => hm y (by simp [hy])]
  have a1 := self (K.filterMap (fun k => l.find? fun z => f z == k)) (fun x hx => by
    obtain ⟨k, hk, hx⟩ := List.mem_filterMap.1 hx
    rw [(find_key hx).1]
    exact hx)
  have a2 := self l (fun x hx => find_rise h hx)
  rw [e] at a1
  rw [← a1, a2]
end
theorem fm_congr {α β : Type} {f g : α → Option β} : ∀ {l : List α}, (∀ x ∈ l, f x = g x) → l.filterMap f = l.filterMap g
  | [], _ => rfl
  | x :: l, h => by rw [List.filterMap_cons, List.filterMap_cons, h x (by simp), fm_congr fun y hy => h y (by simp [hy])]
theorem chg_key {l m : List En} : ∀ k c, (fun k => chg k (fE l k) (fE m k)) k = some c → Ch.path c = k := by
  intro k c h
  simp only [chg] at h
  split at h
  · cases h
  · cases h; rfl
theorem diffP_rise (l m : List En) : RiseP ((diffP l m).map Ch.path) := (sub_rise (sortK_rise _) chg_key).1
/-- the program's way: side by side -/
theorem diff_prog {l m : List En} {n : Nat} (h : l.length + m.length ≤ n) (hl : RiseP (l.map En.path)) (hm : RiseP (m.map En.path)) :
    (bothB En.path En.path n l m).filterMap (fun p => chg (keyB En.path En.path p) (sideO p.1) (sideO p.2)) = diffP l m := by
  rw [both_sorted h hl hm, List.filterMap_map, diffP]
  refine fm_congr fun k hk => ?_
  have hk2 : k ∈ l.map En.path ∨ k ∈ m.map En.path := by
    have := sortK_mem.1 hk
    rwa [List.mem_append] at this
  simp only [Function.comp_apply]
  rw [key_pair hk2]
  rfl
end Go.Proofs.YtcpgelpajppgdaaDoor
namespace Go.Proofs.YtcpgelpajppgdaaDoor
open Go.RowKit Go.SL

theorem fE_none {l : List En} {k : List UInt8} (h : k ∉ l.map En.path) : fE l k = .no := by rw [fE, find_not h]; rfl
theorem diff_find (l m : List En) (k : List UInt8) : (diffP l m).find? (fun c => c.path == k) = chg k (fE l k) (fE m k) := by
  have hF := chg_key (l := l) (m := m)
  obtain ⟨h1, h2⟩ := sub_rise (sortK_rise (l.map En.path ++ m.map En.path)) hF
  have h2' : ∀ j, j ∈ (diffP l m).map Ch.path ↔ j ∈ sortK (l.map En.path ++ m.map En.path) ∧ (chg j (fE l j) (fE m j)).isSome := h2
  cases hc : chg k (fE l k) (fE m k) with
  | some c =>
    have hk : c.path = k := hF k c hc
    have hin : k ∈ sortK (l.map En.path ++ m.map En.path) := by
      apply Classical.byContradiction
      intro hno
      rw [sortK_mem, List.mem_append] at hno
      rw [fE_none (fun h => hno (.inl h)), fE_none (fun h => hno (.inr h)), chg, if_pos rfl] at hc
      cases hc
    have hm : c ∈ diffP l m := List.mem_filterMap.2 ⟨k, hin, hc⟩
    have := find_rise h1 hm
    rw [hk] at this
    exact this
  | none =>
    refine find_not fun h => ?_
    have := ((h2' k).1 h).2
    rw [hc] at this
    cases this
def swapC (c : Ch) : Ch := ⟨c.path, c.now, c.was⟩
theorem chg_swap (k : List UInt8) (a b : Sd) : (chg k a b).map swapC = chg k b a := by
  unfold chg
  by_cases h : a = b
  · rw [if_pos h, if_pos h.symm]; rfl
  · rw [if_neg h, if_neg (fun e => h e.symm)]; rfl
/-- reversed, the differences of the other way -/
theorem diff_swap (l m : List En) : (diffP l m).map swapC = diffP m l := by
  have e : sortK (l.map En.path ++ m.map En.path) = sortK (m.map En.path ++ l.map En.path) := riseP_ext (sortK_rise _) (sortK_rise _) fun k => by
    rw [sortK_mem, sortK_mem, List.mem_append, List.mem_append]
    exact or_comm
  rw [diffP, diffP, e, List.map_filterMap]
  exact fm_congr fun k _ => chg_swap k _ _
/-- what an act of a change makes of what was there -/
def actO (x : Option En) : Option Ch → Option En
  | none => x
  | some c => if c.now.there = true then some ⟨c.path, c.now.dir, c.now.data⟩ else none
theorem act_one {l m : List En} {k : List UInt8} : actO (l.find? fun x => x.path == k) (chg k (fE l k) (fE m k)) = m.find? fun x => x.path == k := by
  have hl : ∀ x, l.find? (fun x => x.path == k) = some x → x.path = k := fun x h => (find_key h).1
  have hm : ∀ x, m.find? (fun x => x.path == k) = some x → x.path = k := fun x h => (find_key h).1
  unfold fE
  generalize l.find? (fun x => x.path == k) = a at *
  generalize m.find? (fun x => x.path == k) = b at *
  unfold chg
  by_cases h : sideO a = sideO b
  · rw [if_pos h]
    cases a with
    | none =>
      cases b with
      | none => rfl
      | some y => simp [sideO, Sd.no] at h
    | some x =>
      cases b with
      | none => simp [sideO, Sd.no] at h
      | some y =>
        have e1 := hl x rfl
        have e2 := hm y rfl
        obtain ⟨xp, xd, xb⟩ := x
        obtain ⟨yp, yd, yb⟩ := y
        simp only [sideO, Sd.mk.injEq, true_and] at h
        simp only at e1 e2
        simp only [actO]
        rw [e1, e2, h.1, h.2]
  · rw [if_neg h]
    cases b with
    | none => simp [actO, sideO, Sd.no]
    | some y =>
      have e2 := hm y rfl
      obtain ⟨yp, yd, yb⟩ := y
      simp only at e2
      simp only [actO, sideO]
      rw [if_pos trivial, e2]
/-- changes from one row to another one, applied, make it -/
theorem apply_diff {l m : List En} {n : Nat} (h : l.length + (diffP l m).length ≤ n) (hl : RiseP (l.map En.path)) (hm : RiseP (m.map En.path)) :
    (bothB En.path Ch.path n l (diffP l m)).filterMap (fun p => actO p.1 p.2) = m ∧ ∀ p ∈ bothB En.path Ch.path n l (diffP l m), ∀ c, p.2 = some c → sideO p.1 = c.was := by
  have hc := diffP_rise l m
  rw [both_sorted h hl hc]
  refine ⟨?_, ?_⟩
  · rw [List.filterMap_map]
    have e : (sortK (l.map En.path ++ (diffP l m).map Ch.path)).filterMap ((fun p => actO p.1 p.2) ∘ pairAt En.path Ch.path l (diffP l m)) = (sortK (l.map En.path ++ (diffP l m).map Ch.path)).filterMap (fun k => m.find? fun x => x.path == k) := fm_congr fun k _ => by
      simp only [Function.comp_apply, pairAt]
      rw [diff_find, act_one]
    rw [e]
    refine row_of_keys hm (sortK_rise _) fun k hk => ?_
    rw [sortK_mem, List.mem_append]
    by_cases hkl : k ∈ l.map En.path
    · exact .inl hkl
    · right
      obtain ⟨y, hy⟩ := find_mem hk
      have h1 : chg k (fE l k) (fE m k) = some ⟨k, fE l k, fE m k⟩ := by
        rw [chg, if_neg]
        rw [fE_none hkl, fE, hy]
        simp [sideO, Sd.no]
      have h2 := diff_find l m k
      rw [h1] at h2
      obtain ⟨h3, h4⟩ := find_key h2
      exact List.mem_map.2 ⟨_, h4, h3⟩
  · intro p hp c hpc
    obtain ⟨k, _, rfl⟩ := List.mem_map.1 hp
    simp only [pairAt] at hpc ⊢
    rw [diff_find] at hpc
    simp only [chg] at hpc
    split at hpc
    · cases hpc
    · cases hpc; rfl
/-- no differences: the same -/
theorem diff_nil {l m : List En} (hl : RiseP (l.map En.path)) (hm : RiseP (m.map En.path)) : diffP l m = [] ↔ l = m := by
  constructor
  · intro h
    have := (apply_diff (n := l.length + (diffP l m).length) (Nat.le_refl _) hl hm).1
    rw [h, both_sorted (by simp) hl (by exact List.Pairwise.nil), List.filterMap_map] at this
    rw [← this]
    simp only [List.map_nil, List.append_nil]
    have e : (sortK (l.map En.path)).filterMap ((fun p => actO p.1 p.2) ∘ pairAt En.path Ch.path l []) = (sortK (l.map En.path)).filterMap (fun k => l.find? fun x => x.path == k) := fm_congr fun k _ => rfl
    rw [e]
    exact (row_of_keys hl (sortK_rise _) fun k hk => sortK_mem.2 hk).symm
  · rintro rfl
    rw [diffP]
    refine List.filterMap_eq_nil_iff.2 fun k _ => ?_
    rw [chg, if_pos rfl]
end Go.Proofs.YtcpgelpajppgdaaDoor
namespace Go.Proofs.YtcpgelpajppgdaaDoor
open Go.RowKit Go.SL

/-- what two changes of a path do -/
def compO : Option Ch → Option Ch → Option Ch
  | some x, none => some x
  | none, some y => some y
  | some x, some y => if x.was = y.now then none else some ⟨x.path, x.was, y.now⟩
  | none, none => none
def fits : Option Ch → Option Ch → Prop
  | some x, some y => x.now = y.was
  | _, _ => True
theorem comp_one (k : List UInt8) (a b c : Sd) : compO (chg k a b) (chg k b c) = chg k a c ∧ fits (chg k a b) (chg k b c) := by
  unfold chg
  by_cases h1 : a = b
  · subst h1
    rw [if_pos rfl]
    by_cases h2 : a = c
    · subst h2
      rw [if_pos rfl]
      exact ⟨rfl, trivial⟩
    · rw [if_neg h2]
      exact ⟨rfl, trivial⟩
  · rw [if_neg h1]
    by_cases h2 : b = c
    · subst h2
      rw [if_pos rfl, if_neg h1]
      exact ⟨rfl, trivial⟩
    · rw [if_neg h2]
      exact ⟨rfl, rfl⟩
/-- the differences of a road are its parts', composed -/
theorem comp_diff {l m r : List En} {n : Nat} (h : (diffP l m).length + (diffP m r).length ≤ n) :
    (bothB Ch.path Ch.path n (diffP l m) (diffP m r)).filterMap (fun p => compO p.1 p.2) = diffP l r ∧ ∀ p ∈ bothB Ch.path Ch.path n (diffP l m) (diffP m r), fits p.1 p.2 := by
  rw [both_sorted h (diffP_rise l m) (diffP_rise m r)]
  refine ⟨?_, ?_⟩
  · rw [List.filterMap_map]
    have e : (sortK ((diffP l m).map Ch.path ++ (diffP m r).map Ch.path)).filterMap ((fun p => compO p.1 p.2) ∘ pairAt Ch.path Ch.path (diffP l m) (diffP m r)) = (sortK ((diffP l m).map Ch.path ++ (diffP m r).map Ch.path)).filterMap (fun k => (diffP l r).find? fun c => c.path == k) := fm_congr fun k _ => by
      simp only [Function.comp_apply, pairAt]
      rw [diff_find, diff_find, diff_find, (comp_one k _ _ _).1]
    rw [e]
    refine row_of_keys (diffP_rise l r) (sortK_rise _) fun k hk => ?_
    rw [sortK_mem, List.mem_append]
    obtain ⟨c, hc⟩ := find_mem hk
    rw [diff_find] at hc
    by_cases h1 : fE l k = fE m k
    · right
      rw [h1] at hc
      rw [← diff_find] at hc
      obtain ⟨h3, h4⟩ := find_key hc
      exact List.mem_map.2 ⟨c, h4, h3⟩
    · left
      have h5 := diff_find l m k
      rw [chg, if_neg h1] at h5
      obtain ⟨h3, h4⟩ := find_key h5
      exact List.mem_map.2 ⟨_, h4, h3⟩
  · intro p hp
    obtain ⟨k, _, rfl⟩ := List.mem_map.1 hp
    simp only [pairAt]
    rw [diff_find, diff_find]
    exact (comp_one k _ _ _).2
/-- may a side be? -/
def maySd (s : Sd) : Bool := (s.there && (!s.dir || s.data == [])) || s == .no
/-- may a row of changes be? -/
def mayC (c : List Ch) : Bool := c.all (fun x => splitE x.path == 0 && (!(splitL x.path).isEmpty && (!(x.was == x.now) && (maySd x.was && maySd x.now))))
end Go.Proofs.YtcpgelpajppgdaaDoor
namespace Go.SL
section
variable {P : Program} {ops : Array Oper} {rest : List Oper} {o : Oper} {a : Act} {Q : Exit → Act → World → Prop} {w : World} {l : List HProp}

theorem set_id {α : Type} {l : List α} {i : Nat} {x : α} (h : l[i]? = some x) : l.set i x = l := by
  obtain ⟨hi, rfl⟩ := List.getElem?_eq_some_iff.1 h
  exact List.set_getElem_self hi
theorem run_copyK (w : World) (dT sT ty elem : TypeId) {size : Nat} (g off dLen dCap : Nat) (ad : Addr) (n c : Nat) (cur : Array Value) (t : TypeId) (xs : List Value)
    (hu : P.underlying dT = some (.slice elem)) (hs : (P.info? elem).map (·.size) = some size) (hg : w.heap[g]? = some (.cells cur t (0, 0)))
    (hn : n ≤ dLen) (hx : xs.length = n * size) (hsrc : ∀ j v, xs[j]? = some v → w.cell? (ad.add j) = some v) (hfit : off + xs.length ≤ cur.size) (h1 : ∀ v ∈ xs, v.oneCell' = true) :
    (Builtin.copy_ #[dT, sT] ty #[.slice (some ⟨g, off, none⟩) dLen dCap, .slice (some ad) n c]).run P w =
      .ok (goInt n) (w.setRow g (cur.toList.take off ++ xs ++ cur.toList.drop (off + xs.length)).toArray) := by
  have hl := run_loadCells_list (P := P) w ad xs hsrc
  have hst := run_storeCells_at P g off t xs 0 cur w hg (by simpa using hfit) h1
  have hm : Nat.min n dLen = n := Nat.min_eq_left hn
  cases hq : P.info? elem with
  | none => simp [hq] at hs
  | some i =>
    have hi : i.size = size := by simpa [hq] using hs
    rw [hx] at hl
    simp [Builtin.copy_, run_underlying hu, Builtin.lenOf, Builtin.firstCells, sizeOf, typeInfo, hq, hi, hm, hl, hst]
theorem run_copyK0 (w : World) (dT sT ty elem : TypeId) {size : Nat} (d s : Option Addr) (dLen dCap n c : Nat) (hu : P.underlying dT = some (.slice elem)) (hs : (P.info? elem).map (·.size) = some size) (hn : n = 0) :
    (Builtin.copy_ #[dT, sT] ty #[.slice d dLen dCap, .slice s n c]).run P w = .ok (goInt 0) w := by
  subst hn
  cases hq : P.info? elem with
  | none => simp [hq] at hs
  | some i =>
    have hl : ∀ (x : Addr), (loadCells x 0).run P w = .ok #[] w := fun x => by simpa using run_loadCells_list (P := P) w x [] (by simp)
    cases d <;> cases s <;> simp [Builtin.copy_, run_underlying hu, Builtin.lenOf, Builtin.firstCells, sizeOf, typeInfo, hq, storeCells, hl]

/-- elements copied into an owned row, from element j on -/
theorem Ent.copyRow (hE : Ent l w) (i : Nat) {e : TypeId} {size n c g : Nat} {xs : List Value} (hi : l[i]? = some (row e size (.slice (some ⟨g, 0, none⟩) n c) n xs)) {dT sT : TypeId} (ty : TypeId)
    (hu : P.underlying dT = some (.slice e)) (hs : (P.info? e).map (·.size) = some size) {m : Nat} {v : Value} {ys : List Value} (hr : reads v m ys w) (hy : ys.length = m * size) (h1 : ∀ u ∈ ys, u.oneCell' = true)
    {j : Nat} (dLen dCap : Nat) (hm : m ≤ dLen) (hfit : j + m ≤ n) :
    ∃ w', (Builtin.copy_ #[dT, sT] ty #[.slice (cutAt size (some ⟨g, 0, none⟩) c j) dLen dCap, v]).run P w = .ok (goInt m) w' ∧ Ent (l.set i (row e size (.slice (some ⟨g, 0, none⟩) n c) n (splice xs (j * size) ys))) w' := by
  have hl : i < l.length := (List.getElem?_eq_some_iff.1 hi).1
  have hxs : xs.length = n * size := (hE.owns i hi).1
  obtain ⟨ao, cc, rfl, hnone, hc⟩ := hr
  by_cases h0 : m = 0
  · have hys : ys = [] := List.eq_nil_of_length_eq_zero (by rw [hy, h0]; simp)
    subst h0 hys
    refine ⟨w, run_copyK0 w dT sT ty e _ ao dLen dCap 0 cc hu hs rfl, ?_⟩
    have : splice xs (j * size) [] = xs := by simp [splice]
    rw [this, set_id hi]
    exact hE
  · obtain ⟨g', cap, cur, hv', hn1, hm1, hs1, ht1, hE1⟩ : ∃ (g' cap : Nat) (cur : Array Value), Value.slice (some ⟨g, 0, none⟩) n c = .slice (some ⟨g', 0, none⟩) n cap ∧ n ≤ cap ∧ cap ≤ maxLen ∧ cur.size = cap * size ∧ cur.toList.take (n * size) = xs ∧ Ent (l.set i (pt g' (.cells cur e (0, 0)))) w := hE.fromRow i hi (by omega)
    cases hv'
    cases ao with
    | none => exact absurd (hnone rfl).1 h0
    | some ad =>
      have hcut : cutAt size (some ⟨g, 0, none⟩) c j = some ⟨g, j * size, none⟩ := by
        unfold cutAt
        rw [if_neg (by omega)]
        simp [Addr.add_lit]
      have hcs : j * size + ys.length ≤ cur.size := by
        rw [hs1, hy, ← Nat.add_mul]
        exact Nat.mul_le_mul_right _ (by omega)
      have hxfit : j * size + ys.length ≤ xs.length := by
        rw [hxs, hy, ← Nat.add_mul]
        exact Nat.mul_le_mul_right _ hfit
      have hrun := run_copyK (P := P) w dT sT ty e g (j * size) dLen dCap ad m cc cur e ys hu hs (hE1.at i (by simp [hl])) hm hy (hc ad rfl) hcs h1
      rw [hcut]
      refine ⟨_, hrun, ?_⟩
      have hE2 := hE1.setRow i (b := g) (cs := cur) (T := e) (fz := (0, 0)) (by simp [hl]) (splice cur.toList (j * size) ys).toArray
      rw [List.set_set] at hE2
      have hE3 := hE2.toRow i (b := g) (cs := (splice cur.toList (j * size) ys).toArray) (e := e) (by simp [hl]) (size := size) (n := n) (cap := c) (xs := splice xs (j * size) ys) (by rw [splice_length _ _ _ hxfit, hxs]) hn1 hm1
        (by simp only [List.size_toArray]; rw [splice_length _ _ _ (by simpa using hcs)]; simpa using hs1)
        (by rw [← ht1]; exact take_put _ _ _ _ (by rw [hxs] at hxfit; exact hxfit) (by simp only [Array.length_toList]; rw [hs1]; exact Nat.mul_le_mul_right _ hn1))
      rw [List.set_set] at hE3
      have e2 : splice cur.toList (j * size) ys = cur.toList.take (j * size) ++ ys ++ cur.toList.drop (j * size + ys.length) := by unfold splice; rfl
      rw [← e2]
      exact hE3
theorem wpl_copyK (hE : Ent l w) (i : Nat) {e : TypeId} {size n c g : Nat} {xs : List Value} (hi : l[i]? = some (row e size (.slice (some ⟨g, 0, none⟩) n c) n xs)) {d s : Operand} {dT sT : TypeId}
    (ho : o.op = .call { callee := .builtin .copy, args := #[d, s], argTypes := #[dT, sT] }) (hw : Region.wanted o (yielded ops a.tmps) = true)
    {j dLen dCap : Nat} (hd : a.eval d = .slice (cutAt size (some ⟨g, 0, none⟩) c j) dLen dCap) {v : Value} (hy : a.eval s = v)
    (hu : P.underlying dT = some (.slice e)) (hs : (P.info? e).map (·.size) = some size) {m : Nat} {ys : List Value} (hr : reads v m ys w) (hyl : ys.length = m * size) (h1 : ∀ u ∈ ys, u.oneCell' = true) (hm : m ≤ dLen) (hfit : j + m ≤ n)
    (h : ∀ w', Ent (l.set i (row e size (.slice (some ⟨g, 0, none⟩) n c) n (splice xs (j * size) ys))) w' → wpList P ops Q rest (a.put o.dst (goInt m)) w') : wpList P ops Q (o :: rest) a w := by
  obtain ⟨w', hr0, hE'⟩ := hE.copyRow (P := P) (sT := sT) i hi o.type hu hs hr hyl h1 (j := j) dLen dCap hm hfit
  refine wpl_run hw (w' := w') (v := goInt m) ?_ (h w' hE')
  simp [execOp, ho, resolve, invoke, builtin, hd, hy, hr0]
end
/-- a part of a row that is read: the first so many elements, and those behind -/
theorem reads_first {ao : Option Addr} {n c size : Nat} {xs : List Value} {w : World} (hr : reads (.slice ao n c) n xs w) {k : Nat} (hk : k ≤ n) : reads (.slice ao k c) k (xs.take (k * size)) w := by
  obtain ⟨ao', c', e, h1, h2⟩ := hr
  cases e
  refine ⟨ao, c, rfl, fun h => ?_, fun ad had j u hu => ?_⟩
  · obtain ⟨h3, h4⟩ := h1 h
    rw [h4]
    exact ⟨by omega, by simp⟩
  · refine h2 ad had j u ?_
    rw [List.getElem?_take] at hu
    split at hu
    · exact hu
    · cases hu
theorem cut_zero (size : Nat) (ao : Option Addr) (c : Nat) : cutAt size ao c 0 = ao := by
  unfold cutAt
  split
  · rfl
  · cases ao with
    | none => rfl
    | some a => simp [Addr.add]
theorem reads_behind {ao : Option Addr} {n c size : Nat} {xs : List Value} {w : World} (hr : reads (.slice ao n c) n xs w) (hx : xs.length = n * size) (hc : n ≤ c) {k : Nat} (hk : k ≤ n) : reads (.slice (cutAt size ao c k) (n - k) (c - k)) (n - k) (xs.drop (k * size)) w := by
  have h := reads_cut (size := size) hr hx hk (Nat.le_refl n) hc
  rwa [List.take_of_length_le (by rw [List.length_drop, hx, Nat.sub_mul]; omega)] at h
/-- parts put side by side -/
theorem splice_ins {z A B N : List Value} (hz : z.length = A.length + N.length + B.length) : splice (splice (splice z 0 A) (A.length + N.length) B) A.length N = A ++ N ++ B := by
  have h1 : (splice z 0 A).length = z.length := splice_length _ _ _ (by omega)
  have h2 : (splice (splice z 0 A) (A.length + N.length) B).length = z.length := by rw [splice_length _ _ _ (by omega), h1]
  apply List.ext_getElem?
  intro j
  rw [splice_get _ _ _ _ (by omega), splice_get _ _ _ _ (by omega), splice_get _ _ _ _ (by omega), List.append_assoc]
  by_cases a1 : j < A.length
  · rw [if_pos a1, if_pos (by omega), if_neg (by omega), if_pos (by omega), Nat.sub_zero, List.getElem?_append_left a1]
  · rw [if_neg a1, List.getElem?_append_right (by omega)]
    by_cases a2 : j < A.length + N.length
    · rw [if_pos a2, List.getElem?_append_left (by omega)]
    · rw [if_neg a2, if_neg a2, List.getElem?_append_right (by omega)]
      by_cases a3 : j < A.length + N.length + B.length
      · rw [if_pos a3]; congr 1; omega
      · rw [if_neg a3, if_neg (by omega), if_neg (by omega), List.getElem?_eq_none (by omega), List.getElem?_eq_none (by omega)]
theorem splice_all {z A B : List Value} (hz : z.length = A.length + B.length) : splice (splice z 0 A) A.length B = A ++ B := by
  have h := splice_ins (z := z) (A := A) (N := []) (B := B) (by simpa using hz)
  simp only [List.length_nil, Nat.add_zero, List.append_nil] at h
  have h1 : (splice z 0 A).length = z.length := splice_length _ _ _ (by omega)
  have e : ∀ y : List Value, splice y A.length [] = y := fun y => by simp [splice]
  rwa [e] at h
theorem splice_mid (A X N B : List Value) (h : X.length = N.length) : splice (A ++ (X ++ B)) A.length N = A ++ (N ++ B) := by
  unfold splice
  rw [List.take_left, ← h, List.drop_append, List.drop_eq_nil_of_le (by omega), List.nil_append, Nat.add_sub_cancel_left, List.drop_left, List.append_assoc]
section
variable {P : Program} {w : World} {l : List HProp} {ops : Array Oper} {o : Oper} {a : Act} {K : Act → World → Prop} {Q : Exit → Act → World → Prop} {E : Prop}
/-- .. as one step of a region that draws -/
theorem step_copyK (hE : Ent l w) (i : Nat) {e : TypeId} {size n c g : Nat} {xs : List Value} (hi : l[i]? = some (row e size (.slice (some ⟨g, 0, none⟩) n c) n xs)) {d s : Operand} {dT sT : TypeId}
    (ho : o.op = .call { callee := .builtin .copy, args := #[d, s], argTypes := #[dT, sT] }) (hw : Region.wanted o (yielded ops a.tmps) = true)
    {j dLen dCap : Nat} (hd : a.eval d = .slice (cutAt size (some ⟨g, 0, none⟩) c j) dLen dCap) {v : Value} (hy : a.eval s = v)
    (hu : P.underlying dT = some (.slice e)) (hs : (P.info? e).map (·.size) = some size) {m : Nat} {ys : List Value} (hr : reads v m ys w) (hyl : ys.length = m * size) (h1 : ∀ u ∈ ys, u.oneCell' = true) (hm : m ≤ dLen) (hfit : j + m ≤ n)
    (h : ∀ w', Ent (l.set i (row e size (.slice (some ⟨g, 0, none⟩) n c) n (splice xs (j * size) ys))) w' → K (a.put o.dst (goInt m)) w') : if Region.wanted o (yielded ops a.tmps) = true then Oper.wp P o a w K Q else E := by
  rw [if_pos hw]
  obtain ⟨w', hr0, hE'⟩ := hE.copyRow (P := P) (sT := sT) i hi o.type hu hs hr hyl h1 (j := j) dLen dCap hm hfit
  unfold Oper.wp execOp
  simp only [ho, resolve, invoke, builtin, Sem.run_bind, Sem.run_pure, Result.andThen_ok, List.map_toArray, List.map_cons, List.map_nil, hd, hy, hr0]
  exact h w' hE'
/-- an element of an owned row written, as one step of a region that draws -/
theorem step_storeRow (hE : Ent l w) (i : Nat) {e : TypeId} {size n c g off : Nat} {xs : List Value} (ys : List Value) (hi : l[i]? = some (row e size (.slice (some ⟨g, 0, none⟩) n c) n xs)) {t : TypeId} {x y : Operand} {k : Nat}
    (ho : o.op = .store t x y) (hw : Region.wanted o (yielded ops a.tmps) = true) (hx : a.eval x = .pointer (some ⟨g, off, none⟩)) (hy : a.eval y = .agg ys.toArray)
    (hn : ∀ w, (Go.sizeOf t).run P w = .ok k w) (hk : ys.length = k) (h1 : ∀ u ∈ ys, u.oneCell' = true) (hfit : off + k ≤ n * size)
    (h : ∀ w', Ent (l.set i (row e size (.slice (some ⟨g, 0, none⟩) n c) n (splice xs off ys))) w' → K (a.put o.dst undef) w') : if Region.wanted o (yielded ops a.tmps) = true then Oper.wp P o a w K Q else E := by
  rw [if_pos hw]
  obtain ⟨w', hr, hE'⟩ := hE.storeRow (P := P) i hi hn (v := .agg ys.toArray) (by simp [Value.cells]) hk h1 hfit
  have hx2 : (execOp a.eval o).run P w = .ok .skip w' := by simp [execOp, ho, hx, hy, hr]
  simp only [Oper.wp, hx2, Oper.upon]
  exact h w' hE'
end
end Go.SL
namespace Go.Proofs.YtcpgelpajppgdaaDoor
open Go.RowKit Go.SL

/-- a kid's cells: its name, and the node: is it a directory, its data, the slice of its kids -/
def kC (k : List UInt8 × Tr) (v : Value) : List Value := [.string ⟨k.1.toArray⟩, .bool k.2.dir, .string ⟨k.2.data.toArray⟩, v]
def kCs (ks : List (List UInt8 × Tr)) (vs : List Value) : List Value := (List.zip ks vs).flatMap fun p => kC p.1 p.2
theorem kC_len (k : List UInt8 × Tr) (v : Value) : (kC k v).length = 4 := rfl
theorem kCs_len {ks : List (List UInt8 × Tr)} {vs : List Value} (h : vs.length = ks.length) : (kCs ks vs).length = ks.length * 4 := by
  rw [kCs, flatMap_len (fun p : (List UInt8 × Tr) × Value => kC p.1 p.2) 4 (fun _ => rfl), List.length_zip, h, Nat.min_self]
theorem kCs_nil : kCs [] [] = [] := rfl
theorem kCs_app {a b : List (List UInt8 × Tr)} {u v : List Value} (h : u.length = a.length) : kCs (a ++ b) (u ++ v) = kCs a u ++ kCs b v := by
  rw [kCs, List.zip_append h.symm, List.flatMap_append]; rfl
theorem kCs_cons (k : List UInt8 × Tr) (v : Value) (ks : List (List UInt8 × Tr)) (vs : List Value) : kCs (k :: ks) (v :: vs) = kC k v ++ kCs ks vs := rfl
theorem kCs_at {ks : List (List UInt8 × Tr)} {vs : List Value} (h : vs.length = ks.length) {i : Nat} (hi : i < ks.length) {j : Nat} {u : Value} (hu : (kC ks[i] (vs[i]'(by omega)))[j]? = some u) : (kCs ks vs)[i * 4 + j]? = some u :=
  flatMap_at (fun p : (List UInt8 × Tr) × Value => kC p.1 p.2) 4 (fun _ => rfl) _ i j (ks[i], vs[i]'(by omega)) u (by rw [List.getElem?_eq_getElem (by rw [List.length_zip]; omega)]; simp) hu
theorem kCs_take {ks : List (List UInt8 × Tr)} {vs : List Value} (h : vs.length = ks.length) (i : Nat) : (kCs ks vs).take (i * 4) = kCs (ks.take i) (vs.take i) := by
  by_cases hi : i ≤ ks.length
  · have hl : (kCs (ks.take i) (vs.take i)).length = i * 4 := by rw [kCs_len (by rw [List.length_take, List.length_take]; omega), List.length_take, Nat.min_eq_left hi]
    conv => lhs; rw [← List.take_append_drop i ks, ← List.take_append_drop i vs]
    rw [kCs_app (by rw [List.length_take, List.length_take]; omega), List.take_left' hl]
  · rw [List.take_of_length_le (by rw [kCs_len h]; omega), List.take_of_length_le (l := ks) (by omega), List.take_of_length_le (l := vs) (by omega)]
theorem kCs_drop {ks : List (List UInt8 × Tr)} {vs : List Value} (h : vs.length = ks.length) {i : Nat} (hi : i ≤ ks.length) : (kCs ks vs).drop (i * 4) = kCs (ks.drop i) (vs.drop i) := by
  have hl : (kCs (ks.take i) (vs.take i)).length = i * 4 := by rw [kCs_len (by rw [List.length_take, List.length_take]; omega), List.length_take, Nat.min_eq_left hi]
  conv => lhs; rw [← List.take_append_drop i ks, ← List.take_append_drop i vs]
  rw [kCs_app (by rw [List.length_take, List.length_take]; omega), List.drop_left' hl]

/-- what the list knows of memory: at this slice lie these kids, and all that is below them -/
inductive KidsAt (l : List HProp) : Value → List (List UInt8 × Tr) → Prop
  | mk (ao : Option Addr) (c : Nat) (ks : List (List UInt8 × Tr)) (vs : List Value) (hc : ks.length ≤ c) (hl : vs.length = ks.length) (hr : Knows l (reads (.slice ao ks.length c) ks.length (kCs ks vs)))
      (hk : ∀ (i : Nat) (h : i < ks.length) (h' : i < vs.length), KidsAt l vs[i] ks[i].2.kids) : KidsAt l (.slice ao ks.length c) ks
theorem KidsAt.mono {l m : List HProp} (h : ∀ p : World → Prop, Knows l p → Knows m p) {v : Value} {ks : List (List UInt8 × Tr)} (hk : KidsAt l v ks) : KidsAt m v ks := by
  induction hk with
  | mk ao c ks vs hc hl hr _ ih => exact .mk ao c ks vs hc hl (h _ hr) ih
theorem KidsAt.suf {l m : List HProp} {v : Value} {ks : List (List UInt8 × Tr)} (hk : KidsAt l v ks) (h : l <:+ m) : KidsAt m v ks := hk.mono fun _ hp => hp.suf h
theorem KidsAt.app {l : List HProp} {v : Value} {ks : List (List UInt8 × Tr)} (m : List HProp) (hk : KidsAt l v ks) : KidsAt (m ++ l) v ks := hk.suf (List.suffix_append m l)
theorem KidsAt.nil (l : List HProp) : KidsAt l (.slice none 0 0) [] := .mk none 0 [] [] (Nat.le_refl _) rfl (fun _ _ => reads_nil 0 0 rfl _) (fun i h => absurd h (by simp))
theorem KidsAt.slice {l : List HProp} {v : Value} {ks : List (List UInt8 × Tr)} (hk : KidsAt l v ks) : ∃ ao c, v = .slice ao ks.length c := by cases hk; exact ⟨_, _, rfl⟩
/-- a slice of kids, opened -/
theorem KidsAt.open {l : List HProp} {v : Value} {ks : List (List UInt8 × Tr)} (hk : KidsAt l v ks) : ∃ (ao : Option Addr) (c : Nat) (vs : List Value), v = .slice ao ks.length c ∧ ks.length ≤ c ∧ vs.length = ks.length ∧ Knows l (reads (.slice ao ks.length c) ks.length (kCs ks vs)) ∧
    (∀ (i : Nat) (h : i < ks.length) (h' : i < vs.length), KidsAt l vs[i] ks[i].2.kids) ∧ ∀ u ∈ kCs ks vs, u.oneCell' = true := by
  cases hk with
  | mk ao c ks vs hc hl hr hk =>
    refine ⟨ao, c, vs, rfl, hc, hl, hr, hk, fun u hu => ?_⟩
    rw [kCs, List.mem_flatMap] at hu
    obtain ⟨⟨k, v⟩, hp, hu⟩ := hu
    obtain ⟨i, hi, e⟩ := List.getElem_of_mem hp
    rw [List.getElem_zip] at e
    cases e
    rw [List.length_zip] at hi
    obtain ⟨ao', c', hv⟩ := (hk i (by omega) (by omega)).slice
    simp only [kC, List.mem_cons, List.not_mem_nil, or_false] at hu
    rcases hu with rfl | rfl | rfl | rfl
    · rfl
    · rfl
    · rfl
    · rw [hv]; rfl
/-- where a kid lies -/
theorem kids_at {w : World} {ao : Option Addr} {c : Nat} {ks : List (List UInt8 × Tr)} {vs : List Value} (h : vs.length = ks.length) (hr : reads (.slice ao ks.length c) ks.length (kCs ks vs) w) {i : Nat} (hi : i < ks.length) :
    ∃ b off, ao = some ⟨b, off, none⟩ ∧ ∀ j v, (kC ks[i] (vs[i]'(by omega)))[j]? = some v → w.cell? ⟨b, off + i * 4 + j, none⟩ = some v := by
  obtain ⟨b, off, rfl, hc⟩ := reads_form hr (by omega) (by rw [kCs_len h]; omega)
  refine ⟨b, off, rfl, fun j v hv => ?_⟩
  rw [Nat.add_assoc]
  exact hc _ _ (kCs_at h hi hv)
/-- a node, as the program has it -/
def nodeV (t : Tr) (v : Value) : Value := .agg #[.bool t.dir, .string ⟨t.data.toArray⟩, v]
end Go.Proofs.YtcpgelpajppgdaaDoor
namespace Go.SL
section
variable {P : Program} {ops : Array Oper} {rest : List Oper} {o : Oper} {a : Act} {Q : Exit → Act → World → Prop} {w : World} {l : List HProp}
theorem wpl_st1 (hE : Ent l w) (i : Nat) {b : Nat} {cs : List Value} {T : TypeId} (hi : l[i]? = some (pt b (.cells cs.toArray T (0, 0))))
    {t : TypeId} {x y : Operand} (ho : o.op = .store t x y) (hw : Region.wanted o (yielded ops a.tmps) = true) {off : Nat} (hx : a.eval x = .pointer (some ⟨b, off, none⟩)) {v : Value} (hy : a.eval y = v)
    (hn : ∀ w, (Go.sizeOf t).run P w = .ok 1 w) (hv : v.cells = #[v]) (h1 : v.oneCell' = true) (hfit : off < cs.length)
    (h : ∀ w', Ent (l.set i (pt b (.cells (cs.set off v).toArray T (0, 0)))) w' → wpList P ops Q rest (a.put o.dst undef) w') : wpList P ops Q (o :: rest) a w := by
  refine wpl_store hE i hi ho hw hx hy hn (by rw [hv]; rfl) (by rw [hv]; simpa using h1) (by simp; omega) fun w' hE' => h w' ?_
  have e : (cs.toArray.toList.take off ++ v.cells.toList ++ cs.toArray.toList.drop (off + v.cells.toList.length)).toArray = (cs.set off v).toArray := by
    rw [hv]
    simp only [List.toList_toArray, List.length_cons, List.length_nil, Nat.zero_add]
    rw [List.set_eq_take_append_cons_drop, if_pos hfit]
    simp
  rw [e] at hE'
  exact hE'
end
end Go.SL
namespace Go.Proofs.YtcpgelpajppgdaaDoor
open Go.RowKit Go.SL

theorem cb_lt : ∀ (a b : List UInt8), Lib.compareBytes a b < 0 ↔ Op.bytesLess a b = true
  | [], [] => by simp [Lib.compareBytes, Op.bytesLess]
  | [], _ :: _ => by simp [Lib.compareBytes, Op.bytesLess]
  | _ :: _, [] => by simp [Lib.compareBytes, Op.bytesLess]
  | a :: as_, b :: bs => by
    have ih := cb_lt as_ bs
    unfold Lib.compareBytes
    rw [bl_cons]
    by_cases h1 : a < b
    · rw [if_pos h1]
      simp [UInt8.lt_iff_toNat_lt] at h1
      simp [h1]
    · rw [if_neg h1]
      have h1' : ¬ a.toNat < b.toNat := by rw [← UInt8.lt_iff_toNat_lt]; exact h1
      by_cases h2 : b < a
      · rw [if_pos h2]
        have hne : a ≠ b := fun e => by subst e; exact h1 h2
        simp [h1', hne]
      · rw [if_neg h2, ih]
        have h2' : ¬ b.toNat < a.toNat := by rw [← UInt8.lt_iff_toNat_lt]; exact h2
        have e : a = b := UInt8.toNat_inj.1 (by omega)
        simp [e]
theorem cb_eq : ∀ (a b : List UInt8), Lib.compareBytes a b = 0 ↔ a = b
  | [], [] => by simp [Lib.compareBytes]
  | [], _ :: _ => by simp [Lib.compareBytes]
  | _ :: _, [] => by simp [Lib.compareBytes]
  | a :: as_, b :: bs => by
    have ih := cb_eq as_ bs
    unfold Lib.compareBytes
    by_cases h1 : a < b
    · rw [if_pos h1]
      have hne : a ≠ b := fun e => by subst e; simp at h1
      simp [hne]
    · rw [if_neg h1]
      by_cases h2 : b < a
      · rw [if_pos h2]
        have hne : a ≠ b := fun e => by subst e; exact h1 h2
        simp [hne]
      · rw [if_neg h2, ih]
        have h1' : ¬ a.toNat < b.toNat := by rw [← UInt8.lt_iff_toNat_lt]; exact h1
        have h2' : ¬ b.toNat < a.toNat := by rw [← UInt8.lt_iff_toNat_lt]; exact h2
        have e : a = b := UInt8.toNat_inj.1 (by omega)
        simp [e]

set_option maxRecDepth 100000 in
theorem CompareString_any (a b : List UInt8) (w : World) : Calls Tryd.prog 88 #[.string ⟨a.toArray⟩, .string ⟨b.toArray⟩] w (fun e w' => e = .returned (.int .i64 (Lib.compareBytes a b)) ∧ w' = w) := by
  go_enter Tryd.func88, Tryd.ntmps88
  go_wp2
  rw [run_callFunc_extern Tryd.func95 (by kernel_rfl) (by kernel_rfl) (by kernel_rfl) (e := Extern.BytealgCompare.compare) (by kernel_rfl), Lib.run_compareString]
  simp only [Result.andThen]
  rw [Oper.upon_value]
  go_wp2
  go_ret
  exact ⟨rfl, rfl⟩
theorem Compare_any (a b : List UInt8) (w : World) : Calls Tryd.prog 73 #[.string ⟨a.toArray⟩, .string ⟨b.toArray⟩] w (fun e w' => e = .returned (.int .i64 (Lib.compareBytes a b)) ∧ w' = w) := by
  go_enter Tryd.func73, Tryd.ntmps73
  go_wp2_with (go_at_call 88; refine (CompareString_any a b _).mono ?_; rintro e w' ⟨rfl, rfl⟩)
  go_ret
  exact ⟨rfl, rfl⟩
theorem name_any (k : List UInt8 × Tr) (v : Value) {l : List HProp} {w : World} (hE : Ent l w) :
    Calls Tryd.prog 60 #[.agg (kC k v).toArray] w (Ret fun r w' => r = .string ⟨k.1.toArray⟩ ∧ Ent l w') := by
  go_enter Tryd.func60, Tryd.ntmps60
  go_wp2_with (first
    | go_skip
    | ((with_reducible (show Go.wpList _ _ _ (Go.Oper.mk _ (.box _ _) _ _ _ _ :: _) _ _)); refine wpl_box hE rfl rfl rfl ?_; clear hE; intro b1 w1 hE)
    | ((with_reducible (show Go.wpList _ _ _ (Go.Oper.mk _ (.load _ _) _ _ _ _ :: _) _ _)); refine wpl_load1 hE 0 rfl rfl rfl rfl (by simp [go_sem]) (v := .string ⟨k.1.toArray⟩) rfl ?_))
  go_ret
  exact ⟨_, rfl, rfl, hE.tail⟩
/-- the block of the closure: the function that names a kid -/
def ofB (b : Nat) : HProp := pt b (.cells #[.func (.func 60) #[] #[]] 109)
theorem cmp_any (k : List UInt8 × Tr) (v : Value) (nm : List UInt8) {b : Nat} {l : List HProp} {w : World} (hE : Ent (ofB b :: l) w) :
    Calls Tryd.prog 72 #[.agg (kC k v).toArray, .string ⟨nm.toArray⟩, .pointer (some ⟨b, 0, none⟩)] w (Ret fun r w' => r = .int .i64 (Lib.compareBytes k.1 nm) ∧ Ent (ofB b :: l) w') := by
  unfold ofB at *
  go_enter Tryd.func72, Tryd.ntmps72
  go_wp2_with (first
    | go_skip
    | ((with_reducible (show Go.wpList _ _ _ (Go.Oper.mk _ (.box _ _) _ _ _ _ :: _) _ _)); refine wpl_box hE rfl rfl rfl ?_; clear hE; intro b1 w1 hE)
    | ((with_reducible (show Go.wpList _ _ _ (Go.Oper.mk _ (.load _ (.tmp 2)) _ _ _ _ :: _) _ _)); refine wpl_load1 hE 1 rfl rfl rfl rfl (by simp [go_sem]) rfl ?_)
    | ((with_reducible (show Go.wpList _ _ _ (Go.Oper.mk _ (.load _ (.tmp 3)) _ _ _ _ :: _) _ _)); refine wpl_loadW (xs := kC k v) hE 0 rfl rfl rfl rfl Tryd.isAgg67 Tryd.sizeOf67 rfl ?_)
    | (go_at_call 60; refine (name_any k v hE).mono ?_; clear hE; rintro e w2 ⟨r, rfl, rfl, hE⟩)
    | (go_at_call 73; refine (Compare_any k.1 nm _).mono ?_; rintro e w' ⟨rfl, rfl⟩))
  go_ret
  exact ⟨_, rfl, rfl, hE.tail⟩

def BsRel (n p : Nat) (l : List HProp) (i j : Value) (wr : World) : Prop := ∃ lo hi : Nat, i = .int .i64 lo ∧ j = .int .i64 hi ∧ lo ≤ p ∧ p ≤ hi ∧ hi ≤ n ∧ Ent l wr
set_option maxRecDepth 100000 in
set_option maxHeartbeats 4000000 in
theorem search_any {ks : List (List UInt8 × Tr)} {vs : List Value} (hl : vs.length = ks.length) (hr : Rising (ks.map Prod.fst)) (hn : ks.length ≤ 1000000) (nm : List UInt8) {ao : Option Addr} {c b : Nat} {l : List HProp} {w : World} (hk : Knows l (reads (.slice ao ks.length c) ks.length (kCs ks vs))) (hE : Ent (ofB b :: l) w) :
    Calls Tryd.prog 71 #[.slice ao ks.length c, .string ⟨nm.toArray⟩, .func (.func 72) #[] #[.pointer (some ⟨b, 0, none⟩)]] w
      (Ret fun v w' => v = .tuple #[.int .i64 (placeOf (ks.map Prod.fst) nm), .bool (isIn (ks.map Prod.fst) nm)] ∧ Ent (ofB b :: l) w') := by
  obtain ⟨_, hp1, _, hp3⟩ := find_at hr nm
  have hp2 := fun i hi => Tr.place_lt hr (n := nm) i hi
  rw [List.length_map] at hp1
  simp only [List.length_map, List.getElem_map] at hp2 hp3
  have Hp3 := SL.hid hp3
  have Hp2 := SL.hid hp2
  clear hp2 hp3
  generalize placeOf (ks.map Prod.fst) nm = p at *
  generalize isIn (ks.map Prod.fst) nm = is at *
  go_enter Tryd.func71, Tryd.ntmps71
  go_wp2
  go_loopw [9, 10] (fun i j wr => BsRel ks.length p (ofB b :: l) i j wr) (fun i j _ => (intOf j).toNat - (intOf i).toNat)
  case atStart => exact ⟨0, ks.length, rfl, rfl, Nat.zero_le _, hp1, Nat.le_refl _, hE⟩
  case round =>
    clear hE
    obtain ⟨lo, hi, rfl, rfl, h1, h2, hin, hE⟩ := hrel
    by_cases hlt : lo < hi
    · have hm : (lo + hi) / 2 < ks.length := by omega
      obtain ⟨bb, off, rfl, hc⟩ := kids_at hl (hk _ hE.tail) hm
      have hcm := cmp_any ks[(lo + hi) / 2] (vs[(lo + hi) / 2]'(by omega)) nm hE
      have hlt2 := (cb_lt ks[(lo + hi) / 2].1 nm).trans (Hp2.out _ hm).symm
      by_cases hb : (lo + hi) / 2 < p
      · have hcn := hlt2.2 hb
        go_wp2_with (first
          | ((with_reducible (show Go.wpList _ _ _ (Go.Oper.mk _ (.load 67 _) _ _ _ _ :: _) _ _)); refine wpl_loadC rfl rfl rfl Tryd.isAgg67 Tryd.sizeOf67 (kC ks[(lo + hi) / 2] (vs[(lo + hi) / 2]'(by omega))) rfl (fun j v hv => by rw [Addr.add_lit]; exact hc j v hv) ?_)
          | (go_at_call 72; refine hcm.mono ?_; clear hcm; rintro e w' ⟨v, rfl, rfl, hE2⟩))
        go_roundw
        case rel => exact ⟨(lo + hi) / 2 + 1, hi, by rw [show ((lo : Int) + (hi : Int)) / 2 + 1 = (((lo + hi) / 2 + 1 : Nat) : Int) by omega], rfl, by omega, h2, hin, hE2⟩
        case measure => simp [intOf] <;> omega
      · have hcn : ¬ Lib.compareBytes ks[(lo + hi) / 2].1 nm < 0 := fun h => hb (hlt2.1 h)
        go_wp2_with (first
          | ((with_reducible (show Go.wpList _ _ _ (Go.Oper.mk _ (.load 67 _) _ _ _ _ :: _) _ _)); refine wpl_loadC rfl rfl rfl Tryd.isAgg67 Tryd.sizeOf67 (kC ks[(lo + hi) / 2] (vs[(lo + hi) / 2]'(by omega))) rfl (fun j v hv => by rw [Addr.add_lit]; exact hc j v hv) ?_)
          | (go_at_call 72; refine hcm.mono ?_; clear hcm; rintro e w' ⟨v, rfl, rfl, hE2⟩))
        go_roundw
        case rel => exact ⟨lo, (lo + hi) / 2, rfl, by rw [show ((lo : Int) + (hi : Int)) / 2 = (((lo + hi) / 2 : Nat) : Int) by omega], h1, by omega, by omega, hE2⟩
        case measure => simp [intOf] <;> omega
    · obtain rfl : lo = hi := by omega
      obtain rfl : lo = p := by omega
      clear h1 h2 hlt
      by_cases hn2 : lo < ks.length
      · obtain ⟨bb, off, rfl, hc⟩ := kids_at hl (hk _ hE.tail) hn2
        have hcm := cmp_any ks[lo] (vs[lo]'(by omega)) nm hE
        have hz := cb_eq ks[lo].1 nm
        have his : (Lib.compareBytes ks[lo].1 nm == 0) = is := by
          rw [Bool.eq_iff_iff, beq_iff_eq, hz, Hp3.out]
          exact ⟨fun h => ⟨hn2, h⟩, fun ⟨_, h⟩ => h⟩
        go_wp2_with (first
          | ((with_reducible (show Go.wpList _ _ _ (Go.Oper.mk _ (.load 67 _) _ _ _ _ :: _) _ _)); refine wpl_loadC rfl rfl rfl Tryd.isAgg67 Tryd.sizeOf67 (kC ks[lo] (vs[lo]'(by omega))) rfl (fun j v hv => by rw [Addr.add_lit]; exact hc j v hv) ?_)
          | (go_at_call 72; refine hcm.mono ?_; clear hcm; rintro e w' ⟨v, rfl, rfl, hE2⟩))
        go_ret2
        exact ⟨_, rfl, by first | rfl | simp, hE2⟩
      · have his : is = false := by
          rw [← Bool.not_eq_true, Hp3.out]
          rintro ⟨h, _⟩
          exact hn2 h
        go_wp2
        go_ret2
        exact ⟨_, rfl, by rw [his]; rfl, hE⟩
set_option maxRecDepth 100000 in
theorem find_any {l : List HProp} {v : Value} {ks : List (List UInt8 × Tr)} (hk : KidsAt l v ks) (hr : Rising (ks.map Prod.fst)) (hn : ks.length ≤ 1000000) (nm : List UInt8) {w : World} (hE : Ent l w) :
    Calls Tryd.prog 59 #[v, .string ⟨nm.toArray⟩, .func (.func 60) #[] #[]] w
      (Ret fun r w' => r = .tuple #[.int .i64 (placeOf (ks.map Prod.fst) nm), .bool (isIn (ks.map Prod.fst) nm)] ∧ Ent l w') := by
  obtain ⟨ao, c, vs, rfl, hc, hl, hkn, _, _⟩ := hk.open
  have hS := fun (b : Nat) (w : World) (h : Ent (ofB b :: l) w) => search_any hl hr hn nm (b := b) hkn h
  generalize placeOf (ks.map Prod.fst) nm = p at *
  generalize isIn (ks.map Prod.fst) nm = is at *
  go_enter Tryd.func59, Tryd.ntmps59
  go_wp2_with (first
    | go_skip
    | ((with_reducible (show Go.wpList _ _ _ (Go.Oper.mk _ (.box _ _) _ _ _ _ :: _) _ _)); refine wpl_box hE rfl rfl rfl ?_; clear hE; intro b1 w1 hE)
    | (go_at_call 71; refine (hS b1 _ hE).mono ?_; clear hS; rintro e w2 ⟨r, rfl, rfl, hE2⟩))
  go_ret2
  exact ⟨_, rfl, rfl, hE2.tail⟩
end Go.Proofs.YtcpgelpajppgdaaDoor
namespace Go.Proofs.YtcpgelpajppgdaaDoor
open Go.RowKit Go.SL
theorem str_cells {w : World} {b off n c : Nat} {xs : List (List UInt8)} (hr : reads (.slice (some ⟨b, off, none⟩) n c) n (xs.map strv) w) {i : Nat} (hi : i < xs.length) : w.cell? ⟨b, off + i, none⟩ = some (.string ⟨xs[i].toArray⟩) := by
  obtain ⟨ao, c', e, _, h2⟩ := hr
  cases e
  have := h2 _ rfl i (strv xs[i]) (by simp [List.getElem?_eq_getElem hi])
  rwa [Addr.add_lit] at this
theorem cell_below {w : World} {b o : Nat} {v : Value} (h : w.cell? ⟨b, o, none⟩ = some v) : b < w.heap.size := by
  by_cases hb : b < w.heap.size
  · exact hb
  · exfalso
    have e : w.heap[b]? = none := Array.getElem?_eq_none (by omega)
    simp [World.cell?, e] at h
set_option maxRecDepth 100000 in
theorem Join_any {xs : List (List UInt8)} (hn : xs.length ≤ 1000) (hx : ∀ x ∈ xs, x.length ≤ 600) {ao : Option Addr} {c : Nat} (hc : xs.length ≤ c) {l : List HProp} {w : World} (hE : Ent l w) (hk : Knows l (reads (.slice ao xs.length c) xs.length (xs.map strv))) :
    Calls Tryd.prog 53 #[.slice ao xs.length c] w (Ret fun v w' => v = .string ⟨(joinP xs).toArray⟩ ∧ Ent l w') := by
  have hj : Calls Tryd.prog 68 #[.slice ao xs.length c, .string ⟨#[47]⟩] w (Ret fun v w' => v = .string ⟨(joinP xs).toArray⟩ ∧ Ent l w') := by
    cases xs with
    | nil =>
      refine (join_none ao c _ w).mono ?_
      rintro e w' ⟨rfl, rfl⟩
      exact ⟨_, rfl, rfl, hE⟩
    | cons x t =>
      obtain ⟨b, o, rfl, _⟩ := reads_form (hk _ hE) (by simp) (by simp)
      have hcell := fun i (hi : i < (x :: t).length) => str_cells (hk _ hE) hi
      have e1 : ((x :: t).map fun s => (⟨s.toArray⟩ : ByteArray)).map (·.data.toList) = x :: t := by
        rw [List.map_map]
        conv => rhs; rw [← List.map_id (x :: t)]
        congr 1
      have e2 : ((x :: t).map fun s => (⟨s.toArray⟩ : ByteArray)).length = (x :: t).length := List.length_map _
      have hl := joinP_len (x :: t) hx
      have hN := Nat.mul_le_mul_right 601 hn
      have h := join_many b o c ((x :: t).map fun s => (⟨s.toArray⟩ : ByteArray)) ⟨#[47]⟩ w
        (fun j y hy => by
          rw [List.getElem?_map] at hy
          by_cases hj : j < (x :: t).length
          · rw [List.getElem?_eq_getElem hj] at hy
            cases hy
            exact hcell j hj
          · rw [List.getElem?_eq_none (by omega)] at hy; cases hy)
        (cell_below (hcell 0 (by simp))) (by rw [e2]; omega) (by rw [e2]; exact hc) (by rw [e1]; show (joinP (x :: t)).length ≤ _; omega)
      rw [e1, e2] at h
      refine h.mono ?_
      rintro e w' ⟨rfl, hb⟩
      exact ⟨_, rfl, rfl, hE.ofBelow hb⟩
  go_enter Tryd.func53, Tryd.ntmps53
  go_wp2_with (first
    | go_skip
    | (go_at_call 68; refine hj.mono ?_; clear hE; rintro e w2 ⟨v, rfl, rfl, hE⟩))
  go_ret
  exact ⟨_, rfl, rfl, hE⟩
def RjRel (xs : List (List UInt8)) (l : List HProp) (s i : Value) (wr : World) : Prop := ∃ k : Nat, k ≤ xs.length ∧ i = .int .i64 k ∧ s = .string ⟨(joinP (xs.take k)).toArray⟩ ∧ Ent l wr
theorem catB (a b : List UInt8) (h : a.length + b.length ≤ 1099511627776) : ∃ p : List UInt8, p = a ++ b ∧ (⟨a.toArray⟩ : ByteArray) ++ ⟨b.toArray⟩ = ⟨p.toArray⟩ ∧ ¬ (9223372036854775807 < a.length + b.length) :=
  ⟨a ++ b, rfl, bytes_join a b, by omega⟩
theorem row_cap {l : List HProp} {w : World} (hE : Ent l w) (i : Nat) {ao : Option Addr} {c : Nat} {xs : List (List UInt8)} (hi : l[i]? = some (rowS ao c xs)) : xs.length ≤ c := by
  rcases Nat.eq_zero_or_pos xs.length with h | h
  · omega
  · obtain ⟨_, _, h2, _⟩ := hE.rowIs i hi h
    exact h2
end Go.Proofs.YtcpgelpajppgdaaDoor
