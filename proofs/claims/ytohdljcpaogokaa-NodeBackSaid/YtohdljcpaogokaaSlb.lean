/-
  Slicing of slices over separation lists: the address of a part under one name. Conditions: none; plain lemmas over any program.
-/
import Derived.Test.YtohdljcpaogokaaSla
namespace Go.SL

/-- where the part of a slice from l on begins (at the capacity's end Go keeps the old address) -/
def cutAt (size : Nat) (ao : Option Addr) (c l : Nat) : Option Addr := if c = l then ao else ao.map (·.add (l * size))

theorem Addr.add_add (a : Addr) (m j : Nat) : (a.add m).add j = a.add (m + j) := by
  unfold Addr.add
  by_cases hm : m = 0
  · subst hm; simp
  · by_cases hj : j = 0
    · subst hj; simp [hm]
    · simp [hm, hj, Nat.add_assoc]

theorem cutAt_block (size : Nat) (ao : Option Addr) (c l n n' c' : Nat) : (Value.slice (cutAt size ao c l) n' c').ownBlock = (Value.slice ao n c).ownBlock := by
  unfold cutAt
  split
  · cases ao <;> rfl
  · cases ao with
    | none => rfl
    | some a =>
      simp only [Option.map_some, Value.ownBlock, Addr.add]
      split <;> rfl

theorem reads_cut {w : World} {size : Nat} {ao : Option Addr} {n c : Nat} {xs : List Value} (hr : reads (.slice ao n c) n xs w) (hxs : xs.length = n * size) {l h : Nat} (hlh : l ≤ h) (hn : h ≤ n) (hc : n ≤ c) :
    reads (.slice (cutAt size ao c l) (h - l) (c - l)) (h - l) ((xs.drop (l * size)).take ((h - l) * size)) w := by
  obtain ⟨ao', c', e, h1, h2⟩ := hr
  cases e
  refine ⟨_, _, rfl, ?_, ?_⟩
  · intro hnone
    have : ao = none := by
      unfold cutAt at hnone
      split at hnone
      · exact hnone
      · simpa using hnone
    obtain ⟨rfl, rfl⟩ := h1 this
    have : h = 0 := by omega
    subst this
    simp
  · intro ad had j u hu
    rw [List.getElem?_take] at hu
    split at hu
    · rename_i hj
      rw [List.getElem?_drop] at hu
      have hne : ¬ c = l := by
        intro e
        have : h - l = 0 := by omega
        rw [this] at hj
        simp at hj
      unfold cutAt at had
      rw [if_neg hne] at had
      cases ao with
      | none => simp at had
      | some a =>
        simp only [Option.map_some, Option.some.injEq] at had
        subst had
        have h3 := h2 a rfl (l * size + j) u hu
        rw [← h3, Addr.add_add]
    · cases hu

section
variable {P : Program} {ops : Array Oper} {rest : List Oper} {o : Oper} {a : Act} {Q : Exit → Act → World → Prop} {w : World} {l : List HProp}

theorem run_cut {t e : TypeId} {size : Nat} (ht : P.underlying t = some (.slice e)) (hs : ∀ w, (Go.sizeOf e).run P w = .ok size w) (ao : Option Addr) (n c : Nat) (kl kh : IntKind) (lo hi : Nat) (h1 : lo ≤ hi) (h2 : hi ≤ c) :
    (Instr.slice t (.slice ao n c) (some (.int kl lo)) (some (.int kh hi)) none).run P w = .ok (.slice (cutAt size ao c lo) (hi - lo) (c - lo)) w := by
  have a1 : ((hi : Int) ≤ (c : Int)) := by omega
  have a2 : ((lo : Int) ≤ (hi : Int)) := by omega
  simp [Instr.slice, run_underlying ht, Instr.sliceBounds, Instr.sliceBound, asIntOf, hs, a1, a2, h1, h2, cutAt]

theorem run_cut_lo {t e : TypeId} {size : Nat} (ht : P.underlying t = some (.slice e)) (hs : ∀ w, (Go.sizeOf e).run P w = .ok size w) (ao : Option Addr) (n c : Nat) (kl : IntKind) (lo : Nat) (h1 : lo ≤ n) :
    (Instr.slice t (.slice ao n c) (some (.int kl lo)) none none).run P w = .ok (.slice (cutAt size ao c lo) (n - lo) (c - lo)) w := by
  have a2 : ((lo : Int) ≤ (n : Int)) := by omega
  simp [Instr.slice, run_underlying ht, Instr.sliceBounds, Instr.sliceBound, asIntOf, hs, a2, Nat.not_lt.2 h1, h1, cutAt]

theorem run_cut_hi {t e : TypeId} {size : Nat} (ht : P.underlying t = some (.slice e)) (hs : ∀ w, (Go.sizeOf e).run P w = .ok size w) (ao : Option Addr) (n c : Nat) (kh : IntKind) (hi : Nat) (h2 : hi ≤ c) :
    (Instr.slice t (.slice ao n c) none (some (.int kh hi)) none).run P w = .ok (.slice (cutAt size ao c 0) (hi - 0) (c - 0)) w := by
  have a1 : ((hi : Int) ≤ (c : Int)) := by omega
  simp [Instr.slice, run_underlying ht, Instr.sliceBounds, Instr.sliceBound, asIntOf, hs, a1, h2, cutAt]

theorem sliceAt_slice {t e : TypeId} (ht : P.underlying t = some (.slice e)) (x : Value) (lo hi mx : Option Value) : (Instr.sliceAt t x lo hi mx).run P w = (Instr.slice t x lo hi mx).run P w := by
  simp [Instr.sliceAt, run_underlying ht]

/-- x[lo:] -/
theorem wpl_cut_lo {t e : TypeId} {size : Nat} {x lo' : Operand} (ho : o.op = .slice t x (some lo') none none) (hw : Region.wanted o (yielded ops a.tmps) = true) {ao : Option Addr} {n c : Nat} (hx : a.eval x = .slice ao n c) {kl : IntKind} {i : Int} (hl : a.eval lo' = .int kl i) (lo : Nat)
    (hi : i = (lo : Int)) (ht : P.underlying t = some (.slice e)) (hs : ∀ w, (Go.sizeOf e).run P w = .ok size w) (h1 : lo ≤ n)
    (h : wpList P ops Q rest (a.put o.dst (.slice (cutAt size ao c lo) (n - lo) (c - lo))) w) : wpList P ops Q (o :: rest) a w := by
  refine wpl_run hw (w' := w) ?_ h
  subst hi
  simp [execOp, ho, hx, hl, sliceAt_slice ht, run_cut_lo ht hs ao n c kl lo h1]

/-- x[:hi] -/
theorem wpl_cut_hi {t e : TypeId} {size : Nat} {x hi' : Operand} (ho : o.op = .slice t x none (some hi') none) (hw : Region.wanted o (yielded ops a.tmps) = true) {ao : Option Addr} {n c : Nat} (hx : a.eval x = .slice ao n c) {kh : IntKind} {i : Int} (hl : a.eval hi' = .int kh i) (hi : Nat)
    (hi2 : i = (hi : Int)) (ht : P.underlying t = some (.slice e)) (hs : ∀ w, (Go.sizeOf e).run P w = .ok size w) (h1 : hi ≤ c)
    (h : wpList P ops Q rest (a.put o.dst (.slice (cutAt size ao c 0) (hi - 0) (c - 0))) w) : wpList P ops Q (o :: rest) a w := by
  refine wpl_run hw (w' := w) ?_ h
  subst hi2
  simp [execOp, ho, hx, hl, sliceAt_slice ht, run_cut_hi ht hs ao n c kh hi h1]

/-- x[lo:hi] -/
theorem wpl_cut {t e : TypeId} {size : Nat} {x lo' hi' : Operand} (ho : o.op = .slice t x (some lo') (some hi') none) (hw : Region.wanted o (yielded ops a.tmps) = true) {ao : Option Addr} {n c : Nat} (hx : a.eval x = .slice ao n c) {kl kh : IntKind} {i j : Int} (hl : a.eval lo' = .int kl i) (hh : a.eval hi' = .int kh j) (lo hi : Nat)
    (hi1 : i = (lo : Int)) (hi2 : j = (hi : Int)) (ht : P.underlying t = some (.slice e)) (hs : ∀ w, (Go.sizeOf e).run P w = .ok size w) (h0 : lo ≤ hi) (h1 : hi ≤ c)
    (h : wpList P ops Q rest (a.put o.dst (.slice (cutAt size ao c lo) (hi - lo) (c - lo))) w) : wpList P ops Q (o :: rest) a w := by
  refine wpl_run hw (w' := w) ?_ h
  subst hi1 hi2
  simp [execOp, ho, hx, hl, hh, sliceAt_slice ht, run_cut ht hs ao n c kl kh lo hi h0 h1]

/-- a view, cut -/
theorem Ent.cutView {size : Nat} {ao : Option Addr} {n c : Nat} {xs : List Value} (hE : Ent l w) (i : Nat) (hi : l[i]? = some (view (.slice ao n c) n xs)) (hxs : xs.length = n * size) {lo h : Nat} (hlh : lo ≤ h) (hn : h ≤ n) (hc : n ≤ c) :
    Ent (l.set i (view (.slice (cutAt size ao c lo) (h - lo) (c - lo)) (h - lo) ((xs.drop (lo * size)).take ((h - lo) * size)))) w := by
  refine Ent.put ((hE.front i hi).step (Bs := [view _ _ _]) (Same.refl w) (Nat.le_refl _) fun F hF => ⟨fun _ _ _ => rfl, F, on_single ?_, fun _ h => .inl h⟩) (List.getElem?_eq_some_iff.1 hi).1
  unfold view at hF ⊢
  refine ⟨reads_cut hF.1 hxs hlh hn hc, fun b hb => hF.2.1 b ?_, fun b => ?_⟩
  · rw [cutAt_block size ao c lo n] at hb; exact hb
  · rw [hF.2.2 b, cutAt_block size ao c lo n]

/-- a slice as an array's pointer -/
theorem wpl_arrayPtr {t e : TypeId} {x : Operand} (ho : o.op = .sliceToArrayPointer t x) (hw : Region.wanted o (yielded ops a.tmps) = true) {ao : Option Addr} {n c m : Nat} (hx : a.eval x = .slice ao n c) (ht : P.underlying t = some (.array m e)) (hm : m ≤ n)
    (h : wpList P ops Q rest (a.put o.dst (.pointer ao)) w) : wpList P ops Q (o :: rest) a w := by
  refine wpl_run hw (w' := w) (v := .pointer ao) ?_ h
  simp [execOp, ho, hx, Instr.arrayAt, run_underlying ht, Nat.not_lt.2 hm]

/-- a whole array loaded from where a slice begins -/
theorem wpl_loadR {t : TypeId} {x : Operand} (ho : o.op = .load t x) (hw : Region.wanted o (yielded ops a.tmps) = true) {ad : Addr} (hx : a.eval x = .pointer (some ad))
    (hA : ∀ w, (isAgg t).run P w = .ok true w) {n : Nat} (hn : ∀ w, (Go.sizeOf t).run P w = .ok n w) {m c : Nat} {xs : List Value} (hr : reads (.slice (some ad) m c) m xs w) (hl : xs.length = n)
    (h : wpList P ops Q rest (a.put o.dst (.agg xs.toArray)) w) : wpList P ops Q (o :: rest) a w := by
  obtain ⟨ao, c', e, _, h2⟩ := hr
  cases e
  exact wpl_loadC ho hw hx hA hn xs hl (h2 ad rfl) h

/-- a whole block stored anew -/
theorem wpl_storeW (hE : Ent l w) (i : Nat) {b : Nat} {cs : Array Value} {T : TypeId} (hi : l[i]? = some (pt b (.cells cs T (0, 0))))
    {t : TypeId} {x y : Operand} (ho : o.op = .store t x y) (hw : Region.wanted o (yielded ops a.tmps) = true) (hx : a.eval x = .pointer (some ⟨b, 0, none⟩)) {xs : List Value} (hy : a.eval y = .agg xs.toArray)
    {n : Nat} (hn : ∀ w, (Go.sizeOf t).run P w = .ok n w) (hc : xs.length = n) (h1 : ∀ u ∈ xs, u.oneCell' = true) (hfit : cs.size = n)
    (h : ∀ w', Ent (l.set i (pt b (.cells xs.toArray T (0, 0)))) w' → wpList P ops Q rest (a.put o.dst undef) w') : wpList P ops Q (o :: rest) a w := by
  refine wpl_store hE i hi ho hw hx hy hn (by simpa [Value.cells] using hc) (by simpa [Value.cells] using h1) (by omega) fun w' hE' => h w' ?_
  have e : (cs.toList.take 0 ++ (Value.agg xs.toArray).cells.toList ++ cs.toList.drop (0 + (Value.agg xs.toArray).cells.toList.length)).toArray = xs.toArray := by
    simp [Value.cells, hc, ← hfit]
  rw [e] at hE'
  exact hE'

theorem wpl_loadW (hE : Ent l w) (i : Nat) {b : Nat} {xs : List Value} {T : TypeId} {fz : Nat × Nat} (hi : l[i]? = some (pt b (.cells xs.toArray T fz)))
    {t : TypeId} {x : Operand} (ho : o.op = .load t x) (hw : Region.wanted o (yielded ops a.tmps) = true)
    (hx : a.eval x = .pointer (some ⟨b, 0, none⟩)) (hA : ∀ w, (isAgg t).run P w = .ok true w) {n : Nat} (hn : ∀ w, (Go.sizeOf t).run P w = .ok n w) (hl : xs.length = n)
    (h : wpList P ops Q rest (a.put o.dst (.agg xs.toArray)) w) : wpList P ops Q (o :: rest) a w :=
  wpl_loadA hE i hi ho hw hx hA hn xs hl (fun j _ => by simp) h

/-- what a result that lies in a block reads as -/
theorem run_resultA (hE : Ent l w) (i : Nat) {b : Nat} {xs : List Value} {T : TypeId} {fz : Nat × Nat} (hi : l[i]? = some (pt b (.cells xs.toArray T fz)))
    {t : TypeId} (hA : ∀ w, (isAgg t).run P w = .ok true w) {n : Nat} (hn : ∀ w, (Go.sizeOf t).run P w = .ok n w) (hl : xs.length = n) : (loadVar t ⟨b, 0, none⟩).run P w = .ok (.agg xs.toArray) w := by
  have h := run_loadA (P := P) hE i hi hA hn (off := 0) hl (fun j _ => by simp)
  simpa [Instr.loadAt, Instr.sureAddr] using h

theorem results_cellA {fn : Func} {k : Tmp} {t : TypeId} (h : fn.results = #[.cell k t]) {tmps : Array Value} (hE : Ent l w) (i : Nat) {b : Nat} {xs : List Value} {T : TypeId} {fz : Nat × Nat} (hi : l[i]? = some (pt b (.cells xs.toArray T fz)))
    (hp : tmps.getD k undef = .pointer (some ⟨b, 0, none⟩)) (hA : ∀ w, (isAgg t).run P w = .ok true w) {n : Nat} (hn : ∀ w, (Go.sizeOf t).run P w = .ok n w) (hl : xs.length = n) : (results fn tmps).run P w = .ok (.agg xs.toArray) w := by
  have hp' : tmps[k]?.getD undef = .pointer (some ⟨b, 0, none⟩) := by simpa using hp
  simp only [results, h]
  simp [hp', asAddr, run_resultA hE i hi hA hn hl]

/-- nothing of what is known of memory is lost -/
def Keeps (w w' : World) : Prop := ∀ l, Ent l w → Ent l w'
theorem Keeps.refl (w : World) : Keeps w w := fun _ h => h
theorem Keeps.trans {a b c : World} (h : Keeps a b) (k : Keeps b c) : Keeps a c := fun l hl => k l (h l hl)
theorem Keeps.alloc (w : World) (o : Obj) : Keeps w (w.alloc o) := fun _ h => (h.alloc o).tail
theorem Keeps.drew (w : World) : Keeps w w.drew := fun _ h => h.drew

end
attribute [irreducible] cutAt
end Go.SL
