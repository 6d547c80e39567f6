/-
  Separation lists over the model's worlds: what is known of memory is a list of assertions with disjoint footprints; the rules for loads, stores, new blocks and appends are stated over such a list. Conditions: none; plain lemmas over any program.
-/
import Derived.WalkKit
import Derived.WalkSpells
import Derived.WalkLawsBesides
import Derived.Maps.AppendAt
namespace Go.SL

structure Same (w w' : World) : Prop where
  os : w'.os = w.os
  tape : w'.tape = w.tape
  output : w'.output = w.output

theorem Same.refl (w : World) : Same w w := ⟨rfl, rfl, rfl⟩
theorem Same.trans {a b c : World} (h : Same a b) (k : Same b c) : Same a c := ⟨k.os.trans h.os, k.tape.trans h.tape, k.output.trans h.output⟩

structure HProp where
  on : World → (Nat → Prop) → Prop
  stable : ∀ {w w' : World} {F : Nat → Prop}, Same w w' → w.heap.size ≤ w'.heap.size → (∀ b, F b → w'.heap[b]? = w.heap[b]?) → on w F → on w' F
  bound : ∀ {w : World} {F : Nat → Prop} {b : Nat}, on w F → F b → b < w.heap.size

def emp : HProp where
  on _ F := ∀ b, ¬ F b
  stable _ _ _ h := h
  bound h hb := (h _ hb).elim

def star (A B : HProp) : HProp where
  on w F := ∃ F1 F2, A.on w F1 ∧ B.on w F2 ∧ (∀ b, F1 b → ¬ F2 b) ∧ (∀ b, F b ↔ F1 b ∨ F2 b)
  stable := fun hs hz h ⟨F1, F2, h1, h2, hd, hF⟩ =>
    ⟨F1, F2, A.stable hs hz (fun b hb => h b ((hF b).2 (.inl hb))) h1, B.stable hs hz (fun b hb => h b ((hF b).2 (.inr hb))) h2, hd, hF⟩
  bound := fun ⟨F1, F2, h1, h2, _, hF⟩ hb => by
    rcases (hF _).1 hb with h | h
    · exact A.bound h1 h
    · exact B.bound h2 h

def all : List HProp → HProp
  | [] => emp
  | A :: l => star A (all l)

/-- what is known of a world -/
def Ent (l : List HProp) (w : World) : Prop := ∃ F, (all l).on w F

/-- a block, known whole -/
def pt (b : Nat) (o : Obj) : HProp where
  on w F := w.heap[b]? = some o ∧ ∀ x, F x ↔ x = b
  stable := fun _ _ h ⟨hb, hF⟩ => ⟨(h b ((hF b).2 rfl)).trans hb, hF⟩
  bound := fun ⟨hb, hF⟩ hx => by
    obtain rfl := (hF _).1 hx
    exact (Array.getElem?_eq_some_iff.1 hb).1

/-- a fact of no footprint -/
def pure' (p : Prop) : HProp where
  on _ F := p ∧ ∀ b, ¬ F b
  stable _ _ _ h := h
  bound h hb := (h.2 _ hb).elim

/-- what was there at the beginning, but for the blocks of S, is as it was -/
def rest (w0 : World) (S : Nat → Prop) : HProp where
  on w F := Same w0 w ∧ w0.heap.size ≤ w.heap.size ∧ (∀ b, F b ↔ b < w0.heap.size ∧ ¬ S b) ∧ ∀ b, F b → w.heap[b]? = w0.heap[b]?
  stable := fun hs hz h ⟨h1, h2, h3, h4⟩ => ⟨h1.trans hs, Nat.le_trans h2 hz, h3, fun b hb => (h b hb).trans (h4 b hb)⟩
  bound := fun ⟨_, h2, h3, _⟩ hb => Nat.lt_of_lt_of_le ((h3 _).1 hb).1 h2

/-- an assertion given by a family of lists -/
def ex {α : Sort _} (f : α → List HProp) : HProp where
  on w F := ∃ x, (all (f x)).on w F
  stable := fun hs hz h ⟨x, hx⟩ => ⟨x, (all (f x)).stable hs hz h hx⟩
  bound := fun ⟨x, hx⟩ hb => (all (f x)).bound hx hb

theorem all_append_on {l m : List HProp} {w : World} {F : Nat → Prop} : (all (l ++ m)).on w F ↔ (star (all l) (all m)).on w F := by
  induction l generalizing F with
  | nil =>
    constructor
    · intro h
      exact ⟨fun _ => False, F, fun b hb => hb, h, fun _ hb => hb.elim, fun b => by simp⟩
    · rintro ⟨F1, F2, h1, h2, hd, hF⟩
      have : F = F2 := funext fun b => propext ⟨fun hb => ((hF b).1 hb).resolve_left (h1 b), fun hb => (hF b).2 (.inr hb)⟩
      subst this
      exact h2
  | cons A l ih =>
    constructor
    · rintro ⟨F1, F2, h1, h2, hd, hF⟩
      obtain ⟨G1, G2, g1, g2, gd, gF⟩ := ih.1 h2
      refine ⟨fun b => F1 b ∨ G1 b, G2, ⟨F1, G1, h1, g1, fun b hb hb' => hd b hb ((gF b).2 (.inl hb')), fun _ => Iff.rfl⟩, g2, ?_, ?_⟩
      · rintro b (hb | hb) hb2
        · exact hd b hb ((gF b).2 (.inr hb2))
        · exact gd b hb hb2
      · intro b
        rw [hF, gF, or_assoc]
    · rintro ⟨F1, F2, ⟨G1, G2, g1, g2, gd, gF⟩, h2, hd, hF⟩
      refine ⟨G1, fun b => G2 b ∨ F2 b, g1, ih.2 ⟨G2, F2, g2, h2, fun b hb hb' => hd b ((gF b).2 (.inr hb)) hb', fun _ => Iff.rfl⟩, ?_, ?_⟩
      · rintro b hb (hb2 | hb2)
        · exact gd b hb hb2
        · exact hd b ((gF b).2 (.inl hb)) hb2
      · intro b
        rw [hF, gF, or_assoc]

theorem star_comm_on {A B : HProp} {w : World} {F : Nat → Prop} (h : (star A B).on w F) : (star B A).on w F := by
  obtain ⟨F1, F2, h1, h2, hd, hF⟩ := h
  exact ⟨F2, F1, h2, h1, fun b hb hb' => hd b hb' hb, fun b => by rw [hF, or_comm]⟩

theorem perm_on {l m : List HProp} (h : l.Perm m) {w : World} {F : Nat → Prop} (hl : (all l).on w F) : (all m).on w F := by
  induction h generalizing F with
  | nil => exact hl
  | cons A _ ih =>
    obtain ⟨F1, F2, h1, h2, hd, hF⟩ := hl
    exact ⟨F1, F2, h1, ih h2, hd, hF⟩
  | swap A B l =>
    obtain ⟨F1, F2, h1, ⟨G1, G2, g1, g2, gd, gF⟩, hd, hF⟩ := hl
    refine ⟨G1, fun b => F1 b ∨ G2 b, g1, ⟨F1, G2, h1, g2, fun b hb hb' => hd b hb ((gF b).2 (.inr hb')), fun _ => Iff.rfl⟩, ?_, ?_⟩
    · rintro b hb (hb2 | hb2)
      · exact hd b hb2 ((gF b).2 (.inl hb))
      · exact gd b hb hb2
    · intro b
      rw [hF, gF]
      constructor <;> (rintro (h | h | h) <;> simp [h])
  | trans _ _ ih1 ih2 => exact ih2 (ih1 hl)

theorem Ent.perm {l m : List HProp} {w : World} (hl : Ent l w) (h : l.Perm m) : Ent m w := let ⟨F, hF⟩ := hl; ⟨F, perm_on h hF⟩

theorem perm_front {l : List HProp} {i : Nat} {A : HProp} (h : l[i]? = some A) : l.Perm (A :: l.eraseIdx i) := by
  obtain ⟨hi, rfl⟩ := List.getElem?_eq_some_iff.1 h
  clear h
  induction l generalizing i with
  | nil => simp at hi
  | cons B l ih =>
    cases i with
    | zero => simp
    | succ i =>
      have := ih (i := i) (by simpa using hi)
      simp only [List.getElem_cons_succ, List.eraseIdx_cons_succ]
      exact (this.cons B).trans (.swap _ _ _)

/-- the i-th to the front -/
theorem Ent.front {l : List HProp} {w : World} (hl : Ent l w) (i : Nat) {A : HProp} (h : l[i]? = some A) : Ent (A :: l.eraseIdx i) w := hl.perm (perm_front h)

/-- and back to its place -/
theorem Ent.put {l : List HProp} {w : World} {i : Nat} {A : HProp} (hl : Ent (A :: l.eraseIdx i) w) (h : i < l.length) : Ent (l.set i A) w := by
  refine hl.perm ?_
  have h1 : (l.set i A)[i]? = some A := by simp [h]
  have h2 := perm_front h1
  rw [List.eraseIdx_set_eq] at h2
  exact h2.symm

theorem Ent.tail {A : HProp} {l : List HProp} {w : World} (h : Ent (A :: l) w) : Ent l w := let ⟨_, _, F2, _, h2, _⟩ := h; ⟨F2, h2⟩
theorem Ent.drop {l m : List HProp} {w : World} (h : Ent (l ++ m) w) : Ent m w := let ⟨_, hF⟩ := h; let ⟨_, F2, _, h2, _⟩ := all_append_on.1 hF; ⟨F2, h2⟩
theorem Ent.erase {l : List HProp} {w : World} (h : Ent l w) (i : Nat) : Ent (l.eraseIdx i) w := by
  by_cases hi : i < l.length
  · exact (h.front i (List.getElem?_eq_getElem hi)).tail
  · rw [List.eraseIdx_of_length_le (by omega)]; exact h

/-- THE STEP: the head's blocks may turn, new ones come, all else is as it was -/
theorem Ent.step {A : HProp} {Bs l : List HProp} {w w' : World} (h : Ent (A :: l) w) (hs : Same w w') (hz : w.heap.size ≤ w'.heap.size)
    (hup : ∀ F, A.on w F → (∀ b, b < w.heap.size → ¬ F b → w'.heap[b]? = w.heap[b]?) ∧ ∃ F', (all Bs).on w' F' ∧ ∀ b, F' b → F b ∨ w.heap.size ≤ b) : Ent (Bs ++ l) w' := by
  obtain ⟨F, F1, F2, h1, h2, hd, hF⟩ := h
  obtain ⟨hk, F', h', hF'⟩ := hup F1 h1
  have h2' : (all l).on w' F2 := (all l).stable hs hz (fun b hb => hk b ((all l).bound h2 hb) (fun h => hd b h hb)) h2
  refine ⟨_, all_append_on.2 ⟨F', F2, h', h2', ?_, fun _ => Iff.rfl⟩⟩
  intro b hb hb2
  rcases hF' b hb with h | h
  · exact hd b h hb2
  · have := (all l).bound h2 hb2
    omega

theorem Ent.step0 {Bs l : List HProp} {w w' : World} (h : Ent l w) (hs : Same w w') (hz : w.heap.size ≤ w'.heap.size)
    (hk : ∀ b, b < w.heap.size → w'.heap[b]? = w.heap[b]?) (hup : ∃ F', (all Bs).on w' F' ∧ ∀ b, F' b → w.heap.size ≤ b) : Ent (Bs ++ l) w' := by
  have h' : Ent (emp :: l) w := by
    obtain ⟨F, hF⟩ := h
    exact ⟨F, fun _ => False, F, fun _ hb => hb, hF, fun _ hb => hb.elim, fun b => by simp⟩
  refine h'.step hs hz fun F hF => ⟨fun b hb _ => hk b hb, ?_⟩
  obtain ⟨F', h1, h2⟩ := hup
  exact ⟨F', h1, fun b hb => .inr (h2 b hb)⟩

theorem Ent.drew {l : List HProp} {w : World} (h : Ent l w) : Ent l w.drew :=
  let ⟨F, hF⟩ := h; ⟨F, (all l).stable (w := w) ⟨rfl, rfl, rfl⟩ (Nat.le_refl _) (fun _ _ => rfl) hF⟩
theorem Ent.drewN {l : List HProp} {w : World} (h : Ent l w) (n : Nat) : Ent l (w.drewN n) :=
  let ⟨F, hF⟩ := h; ⟨F, (all l).stable (w := w) ⟨rfl, rfl, rfl⟩ (Nat.le_refl _) (fun _ _ => rfl) hF⟩

theorem Ent.head {b : Nat} {o : Obj} {l : List HProp} {w : World} (h : Ent (pt b o :: l) w) : w.heap[b]? = some o := let ⟨_, _, _, h1, _⟩ := h; h1.1
theorem Ent.at {b : Nat} {o : Obj} {l : List HProp} {w : World} (h : Ent l w) (i : Nat) (hi : l[i]? = some (pt b o)) : w.heap[b]? = some o := (h.front i hi).head

theorem on_single {A : HProp} {w : World} {F : Nat → Prop} (h : A.on w F) : (all [A]).on w F :=
  ⟨F, fun _ => False, h, fun _ hb => hb, fun _ _ hb => hb, fun b => by simp⟩

/-- a new block -/
theorem Ent.alloc {l : List HProp} {w : World} (h : Ent l w) (o : Obj) : Ent (pt w.heap.size o :: l) (w.alloc o) := by
  refine h.step0 (Bs := [pt w.heap.size o]) ⟨rfl, rfl, rfl⟩ (by simp) (fun b hb => RowKit.Below.heap_alloc w o b hb) ⟨fun b => b = w.heap.size, on_single ⟨heap_alloc_new w o, fun _ => Iff.rfl⟩, fun b hb => by omega⟩

/-- a block's turn, whatever the new object -/
theorem Ent.turn {b : Nat} {o o' : Obj} {l : List HProp} {w w' : World} (h : Ent l w) (i : Nat) (hi : l[i]? = some (pt b o)) (hs : Same w w') (hz : w.heap.size ≤ w'.heap.size)
    (hn : w'.heap[b]? = some o') (hk : ∀ k, k < w.heap.size → k ≠ b → w'.heap[k]? = w.heap[k]?) : Ent (l.set i (pt b o')) w' := by
  have h1 := h.front i hi
  refine Ent.put ?_ (List.getElem?_eq_some_iff.1 hi).1
  refine h1.step (Bs := [pt b o']) hs hz fun F hF => ⟨fun k hk' hkF => hk k hk' (fun e => hkF ((hF.2 k).2 e)), fun x => x = b, on_single ⟨hn, fun _ => Iff.rfl⟩, fun x hx => .inl ((hF.2 x).2 hx)⟩

theorem Ent.size {b : Nat} {o : Obj} {l : List HProp} {w : World} (h : Ent l w) (i : Nat) (hi : l[i]? = some (pt b o)) : b < w.heap.size := (Array.getElem?_eq_some_iff.1 (h.at i hi)).1

theorem Ent.cell {b : Nat} {cs : Array Value} {T : TypeId} {fz : Nat × Nat} {l : List HProp} {w : World} (h : Ent l w) (i : Nat) (hi : l[i]? = some (pt b (.cells cs T fz))) (off : Nat) : w.cell? ⟨b, off, none⟩ = cs[off]? := by
  simp [World.cell?, h.at i hi]

/-- what the list says of the world, as a fact that goes with the list -/
def Knows (l : List HProp) (p : World → Prop) : Prop := ∀ w, Ent l w → p w
theorem Knows.cons {A : HProp} {l : List HProp} {p : World → Prop} (h : Knows l p) : Knows (A :: l) p := fun w hw => h w hw.tail
theorem Knows.append {m l : List HProp} {p : World → Prop} (h : Knows l p) : Knows (m ++ l) p := fun w hw => h w hw.drop

theorem Ent.below {w0 w : World} {l : List HProp} (h : Ent l w) (i : Nat) (hi : l[i]? = some (rest w0 fun _ => False)) : RowKit.Below w0.heap.size w0 w := by
  obtain ⟨F, F1, F2, ⟨hs, hz, hF, hk⟩, _⟩ := h.front i hi
  exact ⟨hs.os, hs.tape, hs.output, hz, fun k hk' => hk k ((hF k).2 ⟨hk', fun h => h⟩)⟩

theorem Ent.start (w : World) : Ent [rest w fun _ => False] w :=
  ⟨_, on_single ⟨Same.refl w, Nat.le_refl _, fun _ => Iff.rfl, fun _ _ => rfl⟩⟩

section
variable {P : Program} {ops : Array Oper} {rest : List Oper} {o : Oper} {a : Act} {Q : Exit → Act → World → Prop} {w : World} {l : List HProp}

theorem wpl_run (hw : Region.wanted o (yielded ops a.tmps) = true) {v : Value} {w' : World} (hr : (execOp a.eval o).run P w = .ok (.value v) w')
    (h : wpList P ops Q rest (a.put o.dst v) w') : wpList P ops Q (o :: rest) a w := by
  unfold wpList
  rw [if_pos hw]
  left
  simp only [Oper.wp, hr, Oper.upon]
  exact h

theorem wpl_run_skip (hw : Region.wanted o (yielded ops a.tmps) = true) {w' : World} (hr : (execOp a.eval o).run P w = .ok .skip w')
    (h : wpList P ops Q rest (a.put o.dst undef) w') : wpList P ops Q (o :: rest) a w := by
  unfold wpList
  rw [if_pos hw]
  left
  simp only [Oper.wp, hr, Oper.upon]
  exact h

theorem run_load1 (hE : Ent l w) (i : Nat) {b : Nat} {cs : Array Value} {T : TypeId} {fz : Nat × Nat} (hi : l[i]? = some (pt b (.cells cs T fz)))
    {t : TypeId} (hA : ∀ w, (isAgg t).run P w = .ok false w) {off : Nat} {v : Value} (hv : cs[off]? = some v) :
    (Instr.loadAt t (.pointer (some ⟨b, off, none⟩))).run P w = .ok v w := by
  simp [Instr.loadAt, Instr.sureAddr, loadVar, hA, hE.cell i hi, hv]

theorem wpl_load1 (hE : Ent l w) (i : Nat) {b : Nat} {cs : Array Value} {T : TypeId} {fz : Nat × Nat} (hi : l[i]? = some (pt b (.cells cs T fz)))
    {t : TypeId} {x : Operand} (ho : o.op = .load t x) (hw : Region.wanted o (yielded ops a.tmps) = true)
    {off : Nat} (hx : a.eval x = .pointer (some ⟨b, off, none⟩)) (hA : ∀ w, (isAgg t).run P w = .ok false w) {v : Value} (hv : cs[off]? = some v)
    (h : wpList P ops Q rest (a.put o.dst v) w) : wpList P ops Q (o :: rest) a w := by
  refine wpl_run hw (w' := w) (v := v) ?_ h
  simp [execOp, ho, hx, run_load1 hE i hi hA hv]

theorem run_loadA (hE : Ent l w) (i : Nat) {b : Nat} {cs : Array Value} {T : TypeId} {fz : Nat × Nat} (hi : l[i]? = some (pt b (.cells cs T fz)))
    {t : TypeId} (hA : ∀ w, (isAgg t).run P w = .ok true w) {n : Nat} (hn : ∀ w, (Go.sizeOf t).run P w = .ok n w) {off : Nat} {vs : List Value} (hl : vs.length = n)
    (hv : ∀ j, j < n → cs[off + j]? = vs[j]?) :
    (Instr.loadAt t (.pointer (some ⟨b, off, none⟩))).run P w = .ok (.agg vs.toArray) w := by
  have hc : ∀ j v, vs[j]? = some v → w.cell? ((⟨b, off, none⟩ : Addr).add j) = some v := by
    intro j v hj
    rw [Addr.add_lit, hE.cell i hi, hv j (by rw [← hl]; exact (List.getElem?_eq_some_iff.1 hj).1), hj]
  have hr := run_loadCells_list (P := P) w ⟨b, off, none⟩ vs hc
  subst hl
  simp [Instr.loadAt, Instr.sureAddr, loadVar, hA, hn, hr]

theorem wpl_loadA (hE : Ent l w) (i : Nat) {b : Nat} {cs : Array Value} {T : TypeId} {fz : Nat × Nat} (hi : l[i]? = some (pt b (.cells cs T fz)))
    {t : TypeId} {x : Operand} (ho : o.op = .load t x) (hw : Region.wanted o (yielded ops a.tmps) = true)
    {off : Nat} (hx : a.eval x = .pointer (some ⟨b, off, none⟩)) (hA : ∀ w, (isAgg t).run P w = .ok true w) {n : Nat} (hn : ∀ w, (Go.sizeOf t).run P w = .ok n w)
    (vs : List Value) (hl : vs.length = n) (hv : ∀ j, j < n → cs[off + j]? = vs[j]?)
    (h : wpList P ops Q rest (a.put o.dst (.agg vs.toArray)) w) : wpList P ops Q (o :: rest) a w := by
  refine wpl_run hw (w' := w) (v := .agg vs.toArray) ?_ h
  simp [execOp, ho, hx, run_loadA hE i hi hA hn hl hv]

/-- a load out of memory that is known by a fact on cells -/
theorem wpl_loadC {t : TypeId} {x : Operand} (ho : o.op = .load t x) (hw : Region.wanted o (yielded ops a.tmps) = true)
    {ad : Addr} (hx : a.eval x = .pointer (some ad)) (hA : ∀ w, (isAgg t).run P w = .ok true w) {n : Nat} (hn : ∀ w, (Go.sizeOf t).run P w = .ok n w)
    (vs : List Value) (hl : vs.length = n) (hc : ∀ j v, vs[j]? = some v → w.cell? (ad.add j) = some v)
    (h : wpList P ops Q rest (a.put o.dst (.agg vs.toArray)) w) : wpList P ops Q (o :: rest) a w := by
  refine wpl_run hw (w' := w) (v := .agg vs.toArray) ?_ h
  have hr := run_loadCells_list (P := P) w ad vs hc
  subst hl
  simp [execOp, ho, hx, Instr.loadAt, Instr.sureAddr, loadVar, hA, hn, hr]

theorem setRow_same (w : World) (b : Nat) (cs : Array Value) : Same w (w.setRow b cs) := ⟨rfl, rfl, rfl⟩

/-- a block is written to: the i-th of the list -/
theorem Ent.setRow (hE : Ent l w) (i : Nat) {b : Nat} {cs : Array Value} {T : TypeId} {fz : Nat × Nat} (hi : l[i]? = some (pt b (.cells cs T fz))) (cs' : Array Value) :
    Ent (l.set i (pt b (.cells cs' T fz))) (w.setRow b cs') :=
  hE.turn i hi (setRow_same w b cs') (by simp [World.setRow]) (setRow_heap w b cs cs' T fz (hE.at i hi)) (fun k _ hk => setRow_other w b k cs' hk)

theorem run_storeV (hE : Ent l w) (i : Nat) {b : Nat} {cs : Array Value} {T : TypeId} (hi : l[i]? = some (pt b (.cells cs T (0, 0))))
    {t : TypeId} {v : Value} {n : Nat} (hn : ∀ w, (Go.sizeOf t).run P w = .ok n w) (hc : v.cells.size = n) (h1 : ∀ u ∈ v.cells.toList, u.oneCell' = true) {off : Nat} (hfit : off + n ≤ cs.size) :
    (Instr.storeAt t (.pointer (some ⟨b, off, none⟩)) v).run P w = .ok () (w.setRow b (cs.toList.take off ++ v.cells.toList ++ cs.toList.drop (off + v.cells.toList.length)).toArray) := by
  have hst := run_storeCells_at P b off T v.cells.toList 0 cs w (hE.at i hi) (by simp; omega) h1
  simp only [Nat.add_zero] at hst
  simp only [Instr.storeAt, Instr.sureAddr, storeVar, Sem.run_bind, Sem.run_pure, Result.andThen_ok, hn, hc]
  simp only [ne_eq, not_true_eq_false, if_false]
  simpa using hst

theorem wpl_store (hE : Ent l w) (i : Nat) {b : Nat} {cs : Array Value} {T : TypeId} (hi : l[i]? = some (pt b (.cells cs T (0, 0))))
    {t : TypeId} {x y : Operand} (ho : o.op = .store t x y) (hw : Region.wanted o (yielded ops a.tmps) = true)
    {off : Nat} (hx : a.eval x = .pointer (some ⟨b, off, none⟩)) {v : Value} (hy : a.eval y = v) {n : Nat} (hn : ∀ w, (Go.sizeOf t).run P w = .ok n w) (hc : v.cells.size = n)
    (h1 : ∀ u ∈ v.cells.toList, u.oneCell' = true) (hfit : off + n ≤ cs.size)
    (h : ∀ w', Ent (l.set i (pt b (.cells (cs.toList.take off ++ v.cells.toList ++ cs.toList.drop (off + v.cells.toList.length)).toArray T (0, 0)))) w' → wpList P ops Q rest (a.put o.dst undef) w') : wpList P ops Q (o :: rest) a w := by
  refine wpl_run_skip hw (w' := w.setRow b (cs.toList.take off ++ v.cells.toList ++ cs.toList.drop (off + v.cells.toList.length)).toArray) ?_ (h _ (hE.setRow i hi _))
  simp [execOp, ho, hx, hy, run_storeV hE i hi hn hc h1 hfit]

theorem wpl_box (hE : Ent l w) {t : TypeId} {x : Operand} (ho : o.op = .box t x) (hw : Region.wanted o (yielded ops a.tmps) = true) {v : Value} (hx : a.eval x = v)
    (h : ∀ b w', Ent (pt b (.cells v.cells t) :: l) w' → wpList P ops Q rest (a.put o.dst (.pointer (some ⟨b, 0, none⟩))) w') : wpList P ops Q (o :: rest) a w := by
  refine wpl_run hw (w' := w.alloc (.cells v.cells t)) (v := .pointer (some ⟨w.heap.size, 0, none⟩)) ?_ (h _ _ (hE.alloc _))
  simp [execOp, ho, hx, Instr.box, newVar, newRow]

theorem wpl_alloc (hE : Ent l w) {t : TypeId} (ho : o.op = .alloc t) (hw : Region.wanted o (yielded ops a.tmps) = true) {v : Value} (hz : ∀ w, (zeroValue t).run P w = .ok v w)
    (h : ∀ b w', Ent (pt b (.cells v.cells t) :: l) w' → wpList P ops Q rest (a.put o.dst (.pointer (some ⟨b, 0, none⟩))) w') : wpList P ops Q (o :: rest) a w := by
  refine wpl_run hw (w' := w.alloc (.cells v.cells t)) (v := .pointer (some ⟨w.heap.size, 0, none⟩)) ?_ (h _ _ (hE.alloc _))
  simp [execOp, ho, hz, Instr.alloc, newVar, newRow]

/-- an owned row, its capacity and block hidden -/
def row (e : TypeId) (size : Nat) (v : Value) (n : Nat) (xs : List Value) : HProp where
  on w F := w.ownsRow 0 e size v n xs ∧ ∀ b, F b ↔ v.ownBlock = some b
  stable := fun {w w' F} _ _ h ⟨h1, hF⟩ => by
    refine ⟨⟨h1.1, ?_⟩, hF⟩
    rcases h1.2 with h2 | ⟨g, cap, cur, rfl, hb, hg, r⟩
    · exact .inl h2
    · exact .inr ⟨g, cap, cur, rfl, hb, (h g ((hF g).2 rfl)).trans hg, r⟩
  bound := fun {w F b} ⟨h1, hF⟩ hb => (h1.lt b ((hF b).1 hb)).2

theorem Ent.owns {e : TypeId} {size : Nat} {v : Value} {n : Nat} {xs : List Value} (hE : Ent l w) (i : Nat) (hi : l[i]? = some (row e size v n xs)) : w.ownsRow 0 e size v n xs := by
  obtain ⟨F, F1, F2, ⟨h1, _⟩, _⟩ := hE.front i hi
  exact h1

/-- an empty row comes at no cost -/
theorem Ent.nil (hE : Ent l w) (e : TypeId) (size : Nat) : Ent (row e size (.slice none 0 0) 0 [] :: l) w :=
  hE.step0 (Bs := [row e size (.slice none 0 0) 0 []]) (Same.refl w) (Nat.le_refl _) (fun _ _ => rfl) ⟨fun _ => False, on_single ⟨World.ownsRow_nil _ _ _ _, fun b => by simp [Value.ownBlock]⟩, fun _ h => h.elim⟩

/-- a block of one's own as an owned row -/
theorem Ent.toRow (hE : Ent l w) (i : Nat) {b : Nat} {cs : Array Value} {e : TypeId} (hi : l[i]? = some (pt b (.cells cs e (0, 0)))) {size n cap : Nat} {xs : List Value}
    (h1 : xs.length = n * size) (hn : n ≤ cap) (hm : cap ≤ maxLen) (hs : cs.size = cap * size) (ht : cs.toList.take (n * size) = xs) :
    Ent (l.set i (row e size (.slice (some ⟨b, 0, none⟩) n cap) n xs)) w := by
  refine Ent.put ((hE.front i hi).step (Bs := [row e size (.slice (some ⟨b, 0, none⟩) n cap) n xs]) (Same.refl w) (Nat.le_refl _) fun F hF => ⟨fun _ _ _ => rfl, F, on_single ⟨⟨h1, .inr ⟨b, cap, cs, rfl, Nat.zero_le _, hF.1, hn, hm, hs, ht⟩⟩, fun x => ?_⟩, fun _ h => .inl h⟩) (List.getElem?_eq_some_iff.1 hi).1
  rw [hF.2]
  simp [Value.ownBlock, eq_comm]

theorem Ent.grown {e : TypeId} {size : Nat} {v v' : Value} {n n' : Nat} {xs xs' : List Value} {w' : World} (hE : Ent l w) (i : Nat) (hi : l[i]? = some (row e size v n xs))
    (hg : w.grownBy w' v.ownBlock) (ho : w'.ownsRow 0 e size v' n' xs') (hat : v'.ownBlock = v.ownBlock ∨ v'.ownBlock = some w.heap.size) : Ent (l.set i (row e size v' n' xs')) w' := by
  refine Ent.put ((hE.front i hi).step (Bs := [row e size v' n' xs']) ⟨hg.os, hg.tape, hg.output⟩ hg.size fun F hF => ⟨fun b hb hbF => hg.block b hb fun h => hbF ((hF.2 b).2 h.symm), fun b => v'.ownBlock = some b, on_single ⟨ho, fun _ => Iff.rfl⟩, fun b hb => ?_⟩) (List.getElem?_eq_some_iff.1 hi).1
  rcases hat with h | h
  · exact .inl ((hF.2 b).2 (h ▸ hb))
  · right
    rw [h] at hb
    simp at hb
    omega

/-- a slice value whose elements' cells are xs, in a world -/
def reads (v : Value) (n : Nat) (xs : List Value) (w : World) : Prop :=
  ∃ ao c, v = .slice ao n c ∧ (ao = none → n = 0 ∧ xs = []) ∧ ∀ ad, ao = some ad → ∀ j u, xs[j]? = some u → w.cell? (ad.add j) = some u

theorem owns_shape {e : TypeId} {size : Nat} {v : Value} {n : Nat} {xs : List Value} (h : w.ownsRow 0 e size v n xs) : ∃ ao c, v = .slice ao n c := by
  rcases h.2 with ⟨rfl, rfl⟩ | ⟨g, cap, cur, rfl, _⟩
  · exact ⟨_, _, rfl⟩
  · exact ⟨_, _, rfl⟩

theorem Ent.append {e : TypeId} {i : TypeInfo} {z : Value} {size bytes : Nat} {t : TypeId} (ty : TypeId) (hE : Ent l w) (k : Nat) {v : Value} {n : Nat} {xs : List Value} (hk : l[k]? = some (row e size v n xs))
    (ht : P.underlying t = some (.slice e)) (hi : P.info? e = some i) (hz : i.zero = some z) (hsize : i.size = size) (hby : i.bytes = bytes) (hzs : z.cells.size = size) (hsz : 0 < size)
    {x : Value} {m : Nat} {news : List Value} (hx : reads x m news w) (hl : news.length = m * size) (h1 : ∀ u ∈ news, u.oneCell' = true) (h63 : n + m ≤ maxLen) (hbytes : (n + m) * bytes ≤ 140737488355328) :
    ∃ ao' c' w', (Builtin.append_ #[t, t] ty #[v, x]).run P w = .ok (.slice ao' (n + m) c') w' ∧ Ent (l.set k (row e size (.slice ao' (n + m) c') (n + m) (xs ++ news))) w' := by
  have hown := hE.owns k hk
  obtain ⟨ao, c, rfl, hnone, hc⟩ := hx
  cases ao with
  | some ad =>
    obtain ⟨v', w', hr, h2, h3, _, h5⟩ := run_append_own_at (P := P) w 0 t ty e i z size bytes ht hi hz hsize hby hzs hsz v n xs hown ad m c news hl (hc ad rfl) h1 h63 hbytes (Nat.zero_le _)
    obtain ⟨ao', c', rfl⟩ := owns_shape h2
    exact ⟨ao', c', w', hr, hE.grown k hk h3 h2 h5⟩
  | none =>
    obtain ⟨rfl, rfl⟩ := hnone rfl
    obtain ⟨ao', c', rfl⟩ := owns_shape hown
    refine ⟨ao', c', w, ?_, by simpa using hE.grown k hk (World.grownBy.refl w _) hown (.inl rfl)⟩
    rcases hown.2 with ⟨h, rfl⟩ | ⟨g, cap, cur, h, _, _, hnc, _⟩
    all_goals cases h
    · simp [Builtin.append_, run_underlying ht, Go.sizeOf, typeInfo, hi, Builtin.lenOf, Builtin.firstCells]
    · simp [Builtin.append_, run_underlying ht, Go.sizeOf, typeInfo, hi, Builtin.lenOf, Builtin.firstCells, storeCells, hnc]

theorem wpl_append {e : TypeId} {i : TypeInfo} {z : Value} {size bytes : Nat} {t : TypeId} (hE : Ent l w) (k : Nat) {v : Value} {n : Nat} {xs : List Value} (hk : l[k]? = some (row e size v n xs))
    {s y : Operand} (ho : o.op = .call { callee := .builtin .append, args := #[s, y], argTypes := #[t, t] }) (hw : Region.wanted o (yielded ops a.tmps) = true)
    (hs : a.eval s = v) {x : Value} (hy : a.eval y = x)
    (ht : P.underlying t = some (.slice e)) (hi : P.info? e = some i) (hz : i.zero = some z) (hsize : i.size = size) (hby : i.bytes = bytes) (hzs : z.cells.size = size) (hsz : 0 < size)
    {m : Nat} {news : List Value} (hx : reads x m news w) (hl : news.length = m * size) (h1 : ∀ u ∈ news, u.oneCell' = true) (h63 : n + m ≤ maxLen) (hbytes : (n + m) * bytes ≤ 140737488355328)
    (h : ∀ ao' c' w', Ent (l.set k (row e size (.slice ao' (n + m) c') (n + m) (xs ++ news))) w' → wpList P ops Q rest (a.put o.dst (.slice ao' (n + m) c')) w') : wpList P ops Q (o :: rest) a w := by
  obtain ⟨ao', c', w', hr, hE'⟩ := hE.append (P := P) o.type k hk ht hi hz hsize hby hzs hsz hx hl h1 h63 hbytes
  refine wpl_run hw (w' := w') (v := .slice ao' (n + m) c') ?_ (h ao' c' w' hE')
  simp [execOp, ho, resolve, invoke, builtin, hs, hy, hr]

theorem reads_pt (hE : Ent l w) (i : Nat) {b : Nat} {cs : Array Value} {T : TypeId} {fz : Nat × Nat} (hi : l[i]? = some (pt b (.cells cs T fz))) {off n c : Nat} {xs : List Value}
    (h : ∀ j u, xs[j]? = some u → cs[off + j]? = some u) : reads (.slice (some ⟨b, off, none⟩) n c) n xs w :=
  ⟨_, _, rfl, fun h => (by cases h), fun ad had j u hu => by cases had; rw [Addr.add_lit, hE.cell i hi]; exact h j u hu⟩

theorem reads_row {e : TypeId} {size : Nat} {v : Value} {n : Nat} {xs : List Value} (hE : Ent l w) (i : Nat) (hi : l[i]? = some (row e size v n xs)) : reads v n xs w := by
  have h := hE.owns i hi
  rcases h.2 with ⟨rfl, rfl⟩ | ⟨g, cap, cur, rfl, _⟩
  · exact ⟨none, 0, rfl, fun _ => ⟨rfl, List.eq_nil_of_length_eq_zero (by simpa using h.1)⟩, fun _ h => (by cases h)⟩
  · exact ⟨_, _, rfl, fun h => (by cases h), fun ad had => by cases had; exact h.cells rfl⟩

theorem reads_nil (n c : Nat) (h : n = 0) (w : World) : reads (.slice none n c) n [] w := ⟨none, c, rfl, fun _ => ⟨h, rfl⟩, fun _ h => by cases h⟩

/-- opening and closing an assertion that is given by a family -/
theorem Ent.unpack {α : Sort _} {f : α → List HProp} (hE : Ent (ex f :: l) w) : ∃ x, Ent (f x ++ l) w := by
  obtain ⟨F, F1, F2, ⟨x, h1⟩, h2, hd, hF⟩ := hE
  exact ⟨x, F, all_append_on.2 ⟨F1, F2, h1, h2, hd, hF⟩⟩
theorem Ent.pack {α : Sort _} {f : α → List HProp} (x : α) (hE : Ent (f x ++ l) w) : Ent (ex f :: l) w := by
  obtain ⟨F, hF⟩ := hE
  obtain ⟨F1, F2, h1, h2, hd, hF'⟩ := all_append_on.1 hF
  exact ⟨F, F1, F2, ⟨x, h1⟩, h2, hd, hF'⟩

theorem Ent.setCell (hE : Ent l w) (i : Nat) {b : Nat} {cs : Array Value} {T : TypeId} {fz : Nat × Nat} (hi : l[i]? = some (pt b (.cells cs T fz))) (off : Nat) (v : Value) :
    Ent (l.set i (pt b (.cells (cs.setIfInBounds off v) T fz))) (w.setCell ⟨b, off, none⟩ v) := by
  refine hE.turn i hi ⟨rfl, rfl, rfl⟩ (by simp) ?_ (fun k _ hk => RowKit.Below.heap_setCell w _ v k hk)
  simp [World.setCell, Array.getElem?_modify, hE.at i hi]

theorem Ent.frozen (hE : Ent l w) (i : Nat) {b : Nat} {cs : Array Value} {T : TypeId} (hi : l[i]? = some (pt b (.cells cs T (0, 0)))) (off : Nat) : w.frozen? ⟨b, off, none⟩ = false := by
  simp [World.frozen?, hE.at i hi]

theorem hid {p : Prop} (h : p) : RowKit.Hid p := h
theorem getD_lit (l : List Value) (i : Nat) (d : Value) : l.toArray.getD i d = l.getD i d := by simp

end
attribute [irreducible] pt row rest ex pure' Ent
end Go.SL
