/-
  Maps whose keys are integers, as lists of keys and values: made, an entry put, looked up. Conditions: none; plain lemmas over any program.
-/
import Derived.Test.YtohdljcpaogokaaSlm
namespace Go.SL
section
variable {P : Program} {ops : Array Oper} {rest : List Oper} {o : Oper} {a : Act} {Q : Exit → Act → World → Prop} {w : World} {l : List HProp}

/-- entries with these keys and values -/
def entsOf (ik : IntKind) (kvs : List (Int × Value)) (es : List MapEntry) : Prop := es.map (fun e => (e.key, e.val)) = kvs.map fun p => (.int ik p.1, p.2)
def mapI (r : Nat) (ik : IntKind) (kvs : List (Int × Value)) : HProp := ex fun x : { x : List MapEntry × Nat // entsOf ik kvs x.1 } => [pt r (.map x.1.1.toArray x.1.2)]
def lookI (kvs : List (Int × Value)) (n : Int) (z : Value) : Value := match kvs.find? (fun p => n == p.1) with | some p => p.2 | none => z

theorem findNow_new (ik : IntKind) (n : Int) : ∀ (kvs : List (Int × Value)) (es : List MapEntry) (i : Nat), entsOf ik kvs es → (kvs.all fun p => !(n == p.1)) = true → Instr.findNow (.int ik) (.int ik n) es i = some none
  | [], es, i, h, _ => by
    have : es = [] := by simpa [entsOf] using h
    subst this
    rfl
  | p :: kvs, [], i, h, _ => by simp [entsOf] at h
  | p :: kvs, e :: es, i, h, hn => by
    simp only [entsOf, List.map_cons, List.cons.injEq, Prod.mk.injEq] at h
    simp only [List.all_cons, Bool.and_eq_true, Bool.not_eq_true'] at hn
    unfold Instr.findNow
    rw [h.1.1]
    simp only [Instr.sameNow, if_true, hn.1]
    exact findNow_new ik n kvs es (i + 1) h.2 hn.2
theorem findNow_old (ik : IntKind) (n : Int) : ∀ (kvs : List (Int × Value)) (es : List MapEntry) (i : Nat) (p : Int × Value), entsOf ik kvs es → kvs.find? (fun p => n == p.1) = some p → ∃ j, Instr.findNow (.int ik) (.int ik n) es i = some (some (j, p.2))
  | [], es, i, p, h, hf => by simp at hf
  | q :: kvs, [], i, p, h, _ => by simp [entsOf] at h
  | q :: kvs, e :: es, i, p, h, hf => by
    simp only [entsOf, List.map_cons, List.cons.injEq, Prod.mk.injEq] at h
    unfold Instr.findNow
    rw [h.1.1]
    simp only [Instr.sameNow, if_true]
    cases hq : (n == q.1) with
    | true =>
      simp only [List.find?_cons, hq] at hf
      cases hf
      exact ⟨i, by rw [h.1.2]⟩
    | false =>
      simp only [List.find?_cons, hq] at hf
      exact findNow_old ik n kvs es (i + 1) p h.2 hf

theorem wpl_makeMapI (hE : Ent l w) {t : TypeId} (ik : IntKind) (ho : o.op = .makeMap t none) (hw : Region.wanted o (yielded ops a.tmps) = true)
    (h : ∀ r w', Ent (mapI r ik [] :: l) w' → wpList P ops Q rest (a.put o.dst (.map (some r))) w') : wpList P ops Q (o :: rest) a w :=
  wpl_makeMap hE ho hw fun r w' hE' => h r w' (Ent.pack ⟨([], 0), rfl⟩ hE')

theorem wpl_insertI (hE : Ent l w) (i : Nat) {r : Nat} {ik : IntKind} {kvs : List (Int × Value)} (hi : l[i]? = some (mapI r ik kvs))
    {t kt et : TypeId} {x y z : Operand} (ho : o.op = .insert t x y z) (hw : Region.wanted o (yielded ops a.tmps) = true) (hx : a.eval x = .map (some r)) {n : Int} (hy : a.eval y = .int ik n) {v : Value} (hz : a.eval z = v)
    (ht : P.underlying t = some (.map kt et)) (hk : P.underlying kt = some (.int ik)) (hnew : (kvs.all fun p => !(n == p.1)) = true)
    (h : ∀ w', Ent (l.set i (mapI r ik (kvs ++ [(n, v)]))) w' → wpList P ops Q rest (a.put o.dst undef) w') : wpList P ops Q (o :: rest) a w := by
  obtain ⟨⟨⟨es, c⟩, he⟩, hE1⟩ := Ent.unpack (hE.front i hi)
  refine wpl_insert hE1 0 rfl ho hw hx hy hz ht hk (findNow_new ik n kvs es 0 he hnew) fun w' hE' => h w' ?_
  refine Ent.put ?_ (List.getElem?_eq_some_iff.1 hi).1
  refine Ent.pack ⟨(es ++ [mEnt (.int ik n) v c], c + 1), ?_⟩ hE'
  unfold entsOf at he ⊢
  simp only [List.map_append, he, List.map_cons, List.map_nil]

theorem wpl_lookupI (hE : Ent l w) (i : Nat) {r : Nat} {ik : IntKind} {kvs : List (Int × Value)} (hi : l[i]? = some (mapI r ik kvs))
    {t kt et : TypeId} {x y : Operand} (ho : o.op = .lookup t x y false) (hw : Region.wanted o (yielded ops a.tmps) = true) (hx : a.eval x = .map (some r)) {n : Int} (hy : a.eval y = .int ik n)
    (ht : P.underlying t = some (.map kt et)) (hk : P.underlying kt = some (.int ik)) {z : Value} (hz : ∀ w, (zeroValue et).run P w = .ok z w)
    (h : wpList P ops Q rest (a.put o.dst (lookI kvs n z)) w) : wpList P ops Q (o :: rest) a w := by
  obtain ⟨⟨⟨es, c⟩, he⟩, hE1⟩ := Ent.unpack (hE.front i hi)
  unfold lookI at h
  cases hf : kvs.find? (fun p => n == p.1) with
  | some p =>
    rw [hf] at h
    obtain ⟨j, hj⟩ := findNow_old ik n kvs es 0 p he hf
    exact wpl_lookup hE1 0 rfl ho hw hx hy ht hk hj h
  | none =>
    rw [hf] at h
    refine wpl_lookupNot hE1 0 rfl ho hw hx hy ht hk hz (findNow_new ik n kvs es 0 he ?_) h
    rw [List.all_eq_true]
    intro p hp
    have := List.find?_eq_none.1 hf p hp
    simpa using this
end
attribute [irreducible] mapI
end Go.SL
