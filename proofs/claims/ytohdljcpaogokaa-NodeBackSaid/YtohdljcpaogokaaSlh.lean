/-
  A row made anew of zero values, over separation lists. Conditions: none; plain lemmas over any program.
-/
import Derived.Test.YtohdljcpaogokaaSlg
import Derived.Laws.OwnMore
import Derived.Lib.SliceRun
namespace Go.SL
section
variable {P : Program} {ops : Array Oper} {rest : List Oper} {o : Oper} {a : Act} {Q : Exit → Act → World → Prop} {w : World} {l : List HProp}

/-- a type's zero value's cells, its size, its bytes -/
def zeroList (P : Program) (e : TypeId) : Option (List Value × Nat × Nat) := (P.info? e).bind fun i => i.zero.map fun z => (z.cells.toList, i.size, i.bytes)

theorem zeroList_parts {e : TypeId} {zs : List Value} {size bytes : Nat} (h : zeroList P e = some (zs, size, bytes)) : ∃ i z, P.info? e = some i ∧ i.zero = some z ∧ i.size = size ∧ i.bytes = bytes ∧ z.cells.toList = zs := by
  unfold zeroList at h
  cases hi : P.info? e with
  | none => simp [hi] at h
  | some i =>
    cases hz : i.zero with
    | none => simp [hi, hz] at h
    | some z =>
      simp only [hi, hz, Option.bind_some, Option.map_some, Option.some.injEq, Prod.mk.injEq] at h
      exact ⟨i, z, rfl, hz, h.2.1, h.2.2, h.1⟩

theorem made_flat (z : Array Value) (n : Nat) (h0 : 0 < z.size) : (madeCells z (n * z.size)).toList = (List.replicate n z.toList).flatten := by
  have hl : ((List.replicate n z.toList).flatMap id).length = n * z.size := by
    rw [flatMap_len' id z.size _ (fun x hx => by rw [(List.mem_replicate.1 hx).2]; simp)]
    simp
  rw [show (List.replicate n z.toList).flatten = (List.replicate n z.toList).flatMap id by simp [List.flatMap]]
  apply List.ext_getElem?
  intro j
  by_cases hj : j < n * z.size
  · have hjd : j / z.size < n := (Nat.div_lt_iff_lt_mul h0).2 hj
    have hjm : j % z.size < z.size := Nat.mod_lt _ h0
    have h1 := flatMap_at' id z.size (List.replicate n z.toList) (fun x hx => by rw [(List.mem_replicate.1 hx).2]; simp) (j / z.size) (j % z.size) z.toList z.toList[j % z.size] (by simp [hjd]) (by simp)
    rw [Nat.mul_comm, Nat.div_add_mod] at h1
    rw [h1]
    simp [madeCells, hj, hjm]
  · rw [List.getElem?_eq_none (l := (List.replicate n z.toList).flatMap id) (by omega)]
    simp [madeCells, hj]

theorem Ent.makeN (hE : Ent l w) {t e : TypeId} (ht : P.underlying t = some (.slice e)) {zs : List Value} {size bytes : Nat} (hz : zeroList P e = some (zs, size, bytes)) (hs : zs.length = size) (h0 : 0 < size) (kl kc : IntKind) (n : Nat) (hb : n * bytes ≤ 281474976710656) (h63 : n ≤ 281474976710656) :
    ∃ g w', (Instr.makeSlice t (.int kl (n : Int)) (.int kc (n : Int))).run P w = .ok (.slice (some ⟨g, 0, none⟩) n n) w' ∧ Ent (row e size (.slice (some ⟨g, 0, none⟩) n n) n (List.replicate n zs).flatten :: l) w' := by
  obtain ⟨i, z, hi, hzz, h2, h3, h4⟩ := zeroList_parts hz
  subst h3
  have hsz : z.cells.size = size := by rw [← hs, ← h4]; simp
  obtain ⟨w', hr, ho, hg⟩ := run_make_full (P := P) w 0 t e i z size ht hi hzz h2 kl kc n (by rw [Nat.mul_comm]; exact hb) (by unfold maxLen; omega) (Nat.zero_le _)
  rw [← hsz, made_flat z.cells n (by omega), h4, hsz] at ho
  refine ⟨_, w', hr, hE.step0 (Bs := [row e size (.slice (some ⟨w.heap.size, 0, none⟩) n n) n (List.replicate n zs).flatten]) ⟨hg.os, hg.tape, hg.output⟩ hg.size (fun b hb => hg.block b hb (by simp)) ⟨fun b => b = w.heap.size, on_single ?_, fun b hb => by omega⟩⟩
  unfold row
  exact ⟨ho, fun b => by simp [Value.ownBlock, eq_comm]⟩

theorem wpl_make (hE : Ent l w) {t e : TypeId} {x y : Operand} (ho : o.op = .makeSlice t x y) (hw : Region.wanted o (yielded ops a.tmps) = true) (ht : P.underlying t = some (.slice e)) {zs : List Value} {size bytes : Nat} (hz : zeroList P e = some (zs, size, bytes)) (hs : zs.length = size) (h0 : 0 < size) {kl kc : IntKind} (n : Nat)
    (hx : a.eval x = .int kl (n : Int)) (hy : a.eval y = .int kc (n : Int)) (hb : n * bytes ≤ 281474976710656) (h63 : n ≤ 281474976710656)
    (h : ∀ g w', Ent (row e size (.slice (some ⟨g, 0, none⟩) n n) n (List.replicate n zs).flatten :: l) w' → wpList P ops Q rest (a.put o.dst (.slice (some ⟨g, 0, none⟩) n n)) w') : wpList P ops Q (o :: rest) a w := by
  obtain ⟨g, w', hr, hE'⟩ := hE.makeN (P := P) ht hz hs h0 kl kc n hb h63
  refine wpl_run hw (w' := w') (v := .slice (some ⟨g, 0, none⟩) n n) ?_ (h g w' hE')
  simp [execOp, ho, hx, hy, hr]

/-- a block as a slice that is only read -/
theorem Ent.ptView (hE : Ent l w) (i : Nat) {b n c : Nat} {cs : Array Value} {T : TypeId} {fz : Nat × Nat} {xs : List Value} (hi : l[i]? = some (pt b (.cells cs T fz))) (h : ∀ (j : Nat) (u : Value), xs[j]? = some u → cs[j]? = some u) : Ent (l.set i (view (.slice (some ⟨b, 0, none⟩) n c) n xs)) w := by
  have hr : reads (.slice (some ⟨b, 0, none⟩) n c) n xs w := reads_pt hE i hi (off := 0) (fun j u hu => by rw [Nat.zero_add]; exact h j u hu)
  have hs := hE.size i hi
  refine Ent.put ((hE.front i hi).step (Bs := [view (.slice (some ⟨b, 0, none⟩) n c) n xs]) (Same.refl w) (Nat.le_refl _) fun F hF => ⟨fun _ _ _ => rfl, F, on_single ?_, fun _ h => .inl h⟩) (List.getElem?_eq_some_iff.1 hi).1
  unfold pt at hF
  unfold view
  refine ⟨hr, fun x hx => ?_, fun x => ?_⟩
  · simp [Value.ownBlock] at hx; omega
  · rw [hF.2]; simp [Value.ownBlock, eq_comm]

/-- two results, the first one in a block of its own -/
theorem results_cell2 {fn : Func} {k j : Tmp} {t : TypeId} (h : fn.results = #[.cell k t, .tmp j]) {tmps : Array Value} (hE : Ent l w) (i : Nat) {b : Nat} {xs : List Value} {T : TypeId} {fz : Nat × Nat} (hi : l[i]? = some (pt b (.cells xs.toArray T fz)))
    (hp : tmps.getD k undef = .pointer (some ⟨b, 0, none⟩)) (hA : ∀ w, (isAgg t).run P w = .ok true w) {n : Nat} (hn : ∀ w, (Go.sizeOf t).run P w = .ok n w) (hl : xs.length = n) {v : Value} (hv : tmps.getD j undef = v) : (results fn tmps).run P w = .ok (.tuple #[.agg xs.toArray, v]) w := by
  have hp' : tmps[k]?.getD undef = .pointer (some ⟨b, 0, none⟩) := by simpa using hp
  have hv' : tmps[j]?.getD undef = v := by simpa using hv
  simp only [results, h]
  simp [hp', hv', asAddr, run_resultA hE i hi hA hn hl]

theorem still_loadR {K : Act → Prop} {E : Prop} {t : TypeId} {x : Operand} (ho : o.op = .load t x) (hw : Region.wanted o (yielded ops a.tmps) = true) {ad : Addr}
    (hx : a.eval x = .pointer (some ad)) (hA : ∀ w, (isAgg t).run P w = .ok true w) {n : Nat} (hn : ∀ w, (Go.sizeOf t).run P w = .ok n w) (vs : List Value) (hl : vs.length = n) (hc : ∀ j v, vs[j]? = some v → w.cell? (ad.add j) = some v)
    (h : K (a.put o.dst (.agg vs.toArray))) : if Region.wanted o (yielded ops a.tmps) = true then o.still P a w K else E := by
  refine still_run hw ?_ h
  simp [execOp, ho, hx, run_loadR hA hn hl hc]

/-- what is new stands among what is only read -/
theorem Ent.keepNew {A : HProp} {F R : List HProp} (hE : Ent (A :: (F ++ R)) w) : Ent (F ++ A :: R) w := hE.perm List.perm_middle.symm
theorem Ent.tails {F R : List HProp} (hE : Ent (F ++ R) w) : Ent R w := hE.drop

/-- a fact on the state that a piece of code leaves at its regular end alone -/
def Meet (Φ : Act → World → Prop) : Exit → Act → World → Prop
  | .normal, a, w => Φ a w
  | _, _, _ => False

/-- a piece of code whose ways meet again in one fact on the state that it leaves -/
theorem wp_meet {code : Code} {Q : Exit → Act → World → Prop} {a : Act} {w : World} (Φ : Act → Act → World → Prop) (h1 : code.wp P (Meet (Φ a)) a w) (h2 : ∀ a' w', Φ a a' w' → Q .normal a' w') : code.wp P Q a w :=
  Code.wp_mono (fun e a' w' h => by cases e <;> first | exact h2 a' w' h | exact (h : False).elim) h1
end
end Go.SL
