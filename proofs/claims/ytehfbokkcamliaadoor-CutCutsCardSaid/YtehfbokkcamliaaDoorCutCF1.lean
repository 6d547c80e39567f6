/-
  Separation lists over the model's worlds: what is known of memory is a list of assertions with disjoint footprints; the rules for loads, stores, new blocks and appends are stated over such a list. Conditions: none; plain lemmas over any program.
-/
import Derived.WalkKit
import Derived.WalkSpells
import Derived.WalkLawsBesides
import Derived.Maps.AppendAt
import Derived.Deep.AppendSrc
import Derived.Lib.ConvBytes
import Derived.ChangeKeysEq
import Derived.ProofKit
import Derived.OpenShut
import Derived.ShutString
import Derived.ChangeOld
import Derived.ChangeMaps5
import Derived.Carry
import Derived.Below
import Derived.Deep.Slices
import Derived.Deep.Fields
import Derived.ChangeSame
import Derived.Test.YtehfbokkcamliaaDoorChecked
import Derived.Deep.RegionLaw
import Derived.Deep.DrawnRows
import Derived.BigQuiet
import Derived.Deep.QuietTactic
namespace Go.SL

structure Same (w w' : World) : Prop where
  os : w'.os = w.os
  tape : w'.tape = w.tape
  output : w'.output = w.output

theorem Same.refl (w : World) : Same w w := ⟨rfl, rfl, rfl⟩
theorem Same.trans {a b c : World} (h : Same a b) (k : Same b c) : Same a c := ⟨k.os.trans h.os, k.tape.trans h.tape, k.output.trans h.output⟩

structure HProp where
  on : World → (Nat → Prop) → Prop
  stable : ∀ {w w' : World} {F : Nat → Prop}, Same w w' → w.heap.size ≤ w'.heap.size → (∀ b, F b → w'.heap[b]? = w.heap[b]?) → on w F → on w' F
  bound : ∀ {w : World} {F : Nat → Prop} {b : Nat}, on w F → F b → b < w.heap.size

def emp : HProp where
  on _ F := ∀ b, ¬ F b
  stable _ _ _ h := h
  bound h hb := (h _ hb).elim

def star (A B : HProp) : HProp where
  on w F := ∃ F1 F2, A.on w F1 ∧ B.on w F2 ∧ (∀ b, F1 b → ¬ F2 b) ∧ (∀ b, F b ↔ F1 b ∨ F2 b)
  stable := fun hs hz h ⟨F1, F2, h1, h2, hd, hF⟩ =>
    ⟨F1, F2, A.stable hs hz (fun b hb => h b ((hF b).2 (.inl hb))) h1, B.stable hs hz (fun b hb => h b ((hF b).2 (.inr hb))) h2, hd, hF⟩
  bound := fun ⟨F1, F2, h1, h2, _, hF⟩ hb => by
    rcases (hF _).1 hb with h | h
    · exact A.bound h1 h
    · exact B.bound h2 h

def all : List HProp → HProp
  | [] => emp
  | A :: l => star A (all l)

/-- what is known of a world -/
def Ent (l : List HProp) (w : World) : Prop := ∃ F, (all l).on w F

/-- a block, known whole -/
def pt (b : Nat) (o : Obj) : HProp where
  on w F := w.heap[b]? = some o ∧ ∀ x, F x ↔ x = b
  stable := fun _ _ h ⟨hb, hF⟩ => ⟨(h b ((hF b).2 rfl)).trans hb, hF⟩
  bound := fun ⟨hb, hF⟩ hx => by
    obtain rfl := (hF _).1 hx
    exact (Array.getElem?_eq_some_iff.1 hb).1

/-- a fact of no footprint -/
def pure' (p : Prop) : HProp where
  on _ F := p ∧ ∀ b, ¬ F b
  stable _ _ _ h := h
  bound h hb := (h.2 _ hb).elim

/-- what was there at the beginning, but for the blocks of S, is as it was -/
def rest (w0 : World) (S : Nat → Prop) : HProp where
  on w F := Same w0 w ∧ w0.heap.size ≤ w.heap.size ∧ (∀ b, F b ↔ b < w0.heap.size ∧ ¬ S b) ∧ ∀ b, F b → w.heap[b]? = w0.heap[b]?
  stable := fun hs hz h ⟨h1, h2, h3, h4⟩ => ⟨h1.trans hs, Nat.le_trans h2 hz, h3, fun b hb => (h b hb).trans (h4 b hb)⟩
  bound := fun ⟨_, h2, h3, _⟩ hb => Nat.lt_of_lt_of_le ((h3 _).1 hb).1 h2

/-- an assertion given by a family of lists -/
def ex {α : Sort _} (f : α → List HProp) : HProp where
  on w F := ∃ x, (all (f x)).on w F
  stable := fun hs hz h ⟨x, hx⟩ => ⟨x, (all (f x)).stable hs hz h hx⟩
  bound := fun ⟨x, hx⟩ hb => (all (f x)).bound hx hb

theorem all_append_on {l m : List HProp} {w : World} {F : Nat → Prop} : (all (l ++ m)).on w F ↔ (star (all l) (all m)).on w F := by
  induction l generalizing F with
  | nil =>
    constructor
    · intro h
      exact ⟨fun _ => False, F, fun b hb => hb, h, fun _ hb => hb.elim, fun b => by simp⟩
    · rintro ⟨F1, F2, h1, h2, hd, hF⟩
      have : F = F2 := funext fun b => propext ⟨fun hb => ((hF b).1 hb).resolve_left (h1 b), fun hb => (hF b).2 (.inr hb)⟩
      subst this
      exact h2
  | cons A l ih =>
    constructor
    · rintro ⟨F1, F2, h1, h2, hd, hF⟩
      obtain ⟨G1, G2, g1, g2, gd, gF⟩ := ih.1 h2
      refine ⟨fun b => F1 b ∨ G1 b, G2, ⟨F1, G1, h1, g1, fun b hb hb' => hd b hb ((gF b).2 (.inl hb')), fun _ => Iff.rfl⟩, g2, ?_, ?_⟩
      · rintro b (hb | hb) hb2
        · exact hd b hb ((gF b).2 (.inr hb2))
        · exact gd b hb hb2
      · intro b
        rw [hF, gF, or_assoc]
    · rintro ⟨F1, F2, ⟨G1, G2, g1, g2, gd, gF⟩, h2, hd, hF⟩
      refine ⟨G1, fun b => G2 b ∨ F2 b, g1, ih.2 ⟨G2, F2, g2, h2, fun b hb hb' => hd b ((gF b).2 (.inr hb)) hb', fun _ => Iff.rfl⟩, ?_, ?_⟩
      · rintro b hb (hb2 | hb2)
        · exact gd b hb hb2
        · exact hd b ((gF b).2 (.inl hb)) hb2
      · intro b
        rw [hF, gF, or_assoc]

theorem star_comm_on {A B : HProp} {w : World} {F : Nat → Prop} (h : (star A B).on w F) : (star B A).on w F := by
  obtain ⟨F1, F2, h1, h2, hd, hF⟩ := h
  exact ⟨F2, F1, h2, h1, fun b hb hb' => hd b hb' hb, fun b => by rw [hF, or_comm]⟩

theorem perm_on {l m : List HProp} (h : l.Perm m) {w : World} {F : Nat → Prop} (hl : (all l).on w F) : (all m).on w F := by
  induction h generalizing F with
  | nil => exact hl
  | cons A _ ih =>
    obtain ⟨F1, F2, h1, h2, hd, hF⟩ := hl
    exact ⟨F1, F2, h1, ih h2, hd, hF⟩
  | swap A B l =>
    obtain ⟨F1, F2, h1, ⟨G1, G2, g1, g2, gd, gF⟩, hd, hF⟩ := hl
    refine ⟨G1, fun b => F1 b ∨ G2 b, g1, ⟨F1, G2, h1, g2, fun b hb hb' => hd b hb ((gF b).2 (.inr hb')), fun _ => Iff.rfl⟩, ?_, ?_⟩
    · rintro b hb (hb2 | hb2)
      · exact hd b hb2 ((gF b).2 (.inl hb))
      · exact gd b hb hb2
    · intro b
      rw [hF, gF]
      constructor <;> (rintro (h | h | h) <;> simp [h])
  | trans _ _ ih1 ih2 => exact ih2 (ih1 hl)

theorem Ent.perm {l m : List HProp} {w : World} (hl : Ent l w) (h : l.Perm m) : Ent m w := let ⟨F, hF⟩ := hl; ⟨F, perm_on h hF⟩

theorem perm_front {l : List HProp} {i : Nat} {A : HProp} (h : l[i]? = some A) : l.Perm (A :: l.eraseIdx i) := by
  obtain ⟨hi, rfl⟩ := List.getElem?_eq_some_iff.1 h
  clear h
  induction l generalizing i with
  | nil => simp at hi
  | cons B l ih =>
    cases i with
    | zero => simp
    | succ i =>
      have := ih (i := i) (by simpa using hi)
      simp only [List.getElem_cons_succ, List.eraseIdx_cons_succ]
      exact (this.cons B).trans (.swap _ _ _)

/-- the i-th to the front -/
theorem Ent.front {l : List HProp} {w : World} (hl : Ent l w) (i : Nat) {A : HProp} (h : l[i]? = some A) : Ent (A :: l.eraseIdx i) w := hl.perm (perm_front h)

/-- and back to its place -/
theorem Ent.put {l : List HProp} {w : World} {i : Nat} {A : HProp} (hl : Ent (A :: l.eraseIdx i) w) (h : i < l.length) : Ent (l.set i A) w := by
  refine hl.perm ?_
  have h1 : (l.set i A)[i]? = some A := by simp [h]
  have h2 := perm_front h1
  rw [List.eraseIdx_set_eq] at h2
  exact h2.symm

theorem Ent.tail {A : HProp} {l : List HProp} {w : World} (h : Ent (A :: l) w) : Ent l w := let ⟨_, _, F2, _, h2, _⟩ := h; ⟨F2, h2⟩
theorem Ent.drop {l m : List HProp} {w : World} (h : Ent (l ++ m) w) : Ent m w := let ⟨_, hF⟩ := h; let ⟨_, F2, _, h2, _⟩ := all_append_on.1 hF; ⟨F2, h2⟩
theorem Ent.erase {l : List HProp} {w : World} (h : Ent l w) (i : Nat) : Ent (l.eraseIdx i) w := by
  by_cases hi : i < l.length
  · exact (h.front i (List.getElem?_eq_getElem hi)).tail
  · rw [List.eraseIdx_of_length_le (by omega)]; exact h

/-- THE STEP: the head's blocks may turn, new ones come, all else is as it was -/
theorem Ent.step {A : HProp} {Bs l : List HProp} {w w' : World} (h : Ent (A :: l) w) (hs : Same w w') (hz : w.heap.size ≤ w'.heap.size)
    (hup : ∀ F, A.on w F → (∀ b, b < w.heap.size → ¬ F b → w'.heap[b]? = w.heap[b]?) ∧ ∃ F', (all Bs).on w' F' ∧ ∀ b, F' b → F b ∨ w.heap.size ≤ b) : Ent (Bs ++ l) w' := by
  obtain ⟨F, F1, F2, h1, h2, hd, hF⟩ := h
  obtain ⟨hk, F', h', hF'⟩ := hup F1 h1
  have h2' : (all l).on w' F2 := (all l).stable hs hz (fun b hb => hk b ((all l).bound h2 hb) (fun h => hd b h hb)) h2
  refine ⟨_, all_append_on.2 ⟨F', F2, h', h2', ?_, fun _ => Iff.rfl⟩⟩
  intro b hb hb2
  rcases hF' b hb with h | h
  · exact hd b h hb2
  · have := (all l).bound h2 hb2
    omega

theorem Ent.step0 {Bs l : List HProp} {w w' : World} (h : Ent l w) (hs : Same w w') (hz : w.heap.size ≤ w'.heap.size)
    (hk : ∀ b, b < w.heap.size → w'.heap[b]? = w.heap[b]?) (hup : ∃ F', (all Bs).on w' F' ∧ ∀ b, F' b → w.heap.size ≤ b) : Ent (Bs ++ l) w' := by
  have h' : Ent (emp :: l) w := by
    obtain ⟨F, hF⟩ := h
    exact ⟨F, fun _ => False, F, fun _ hb => hb, hF, fun _ hb => hb.elim, fun b => by simp⟩
  refine h'.step hs hz fun F hF => ⟨fun b hb _ => hk b hb, ?_⟩
  obtain ⟨F', h1, h2⟩ := hup
  exact ⟨F', h1, fun b hb => .inr (h2 b hb)⟩

theorem Ent.drew {l : List HProp} {w : World} (h : Ent l w) : Ent l w.drew :=
  let ⟨F, hF⟩ := h; ⟨F, (all l).stable (w := w) ⟨rfl, rfl, rfl⟩ (Nat.le_refl _) (fun _ _ => rfl) hF⟩
theorem Ent.drewN {l : List HProp} {w : World} (h : Ent l w) (n : Nat) : Ent l (w.drewN n) :=
  let ⟨F, hF⟩ := h; ⟨F, (all l).stable (w := w) ⟨rfl, rfl, rfl⟩ (Nat.le_refl _) (fun _ _ => rfl) hF⟩

theorem Ent.head {b : Nat} {o : Obj} {l : List HProp} {w : World} (h : Ent (pt b o :: l) w) : w.heap[b]? = some o := let ⟨_, _, _, h1, _⟩ := h; h1.1
theorem Ent.at {b : Nat} {o : Obj} {l : List HProp} {w : World} (h : Ent l w) (i : Nat) (hi : l[i]? = some (pt b o)) : w.heap[b]? = some o := (h.front i hi).head

theorem on_single {A : HProp} {w : World} {F : Nat → Prop} (h : A.on w F) : (all [A]).on w F :=
  ⟨F, fun _ => False, h, fun _ hb => hb, fun _ _ hb => hb, fun b => by simp⟩

/-- a new block -/
theorem Ent.alloc {l : List HProp} {w : World} (h : Ent l w) (o : Obj) : Ent (pt w.heap.size o :: l) (w.alloc o) := by
  refine h.step0 (Bs := [pt w.heap.size o]) ⟨rfl, rfl, rfl⟩ (by simp) (fun b hb => RowKit.Below.heap_alloc w o b hb) ⟨fun b => b = w.heap.size, on_single ⟨heap_alloc_new w o, fun _ => Iff.rfl⟩, fun b hb => by omega⟩

/-- a block's turn, whatever the new object -/
theorem Ent.turn {b : Nat} {o o' : Obj} {l : List HProp} {w w' : World} (h : Ent l w) (i : Nat) (hi : l[i]? = some (pt b o)) (hs : Same w w') (hz : w.heap.size ≤ w'.heap.size)
    (hn : w'.heap[b]? = some o') (hk : ∀ k, k < w.heap.size → k ≠ b → w'.heap[k]? = w.heap[k]?) : Ent (l.set i (pt b o')) w' := by
  have h1 := h.front i hi
  refine Ent.put ?_ (List.getElem?_eq_some_iff.1 hi).1
  refine h1.step (Bs := [pt b o']) hs hz fun F hF => ⟨fun k hk' hkF => hk k hk' (fun e => hkF ((hF.2 k).2 e)), fun x => x = b, on_single ⟨hn, fun _ => Iff.rfl⟩, fun x hx => .inl ((hF.2 x).2 hx)⟩

theorem Ent.size {b : Nat} {o : Obj} {l : List HProp} {w : World} (h : Ent l w) (i : Nat) (hi : l[i]? = some (pt b o)) : b < w.heap.size := (Array.getElem?_eq_some_iff.1 (h.at i hi)).1

theorem Ent.cell {b : Nat} {cs : Array Value} {T : TypeId} {fz : Nat × Nat} {l : List HProp} {w : World} (h : Ent l w) (i : Nat) (hi : l[i]? = some (pt b (.cells cs T fz))) (off : Nat) : w.cell? ⟨b, off, none⟩ = cs[off]? := by
  simp [World.cell?, h.at i hi]

/-- what the list says of the world, as a fact that goes with the list -/
def Knows (l : List HProp) (p : World → Prop) : Prop := ∀ w, Ent l w → p w
theorem Knows.cons {A : HProp} {l : List HProp} {p : World → Prop} (h : Knows l p) : Knows (A :: l) p := fun w hw => h w hw.tail
theorem Knows.append {m l : List HProp} {p : World → Prop} (h : Knows l p) : Knows (m ++ l) p := fun w hw => h w hw.drop

theorem Ent.below {w0 w : World} {l : List HProp} (h : Ent l w) (i : Nat) (hi : l[i]? = some (rest w0 fun _ => False)) : RowKit.Below w0.heap.size w0 w := by
  obtain ⟨F, F1, F2, ⟨hs, hz, hF, hk⟩, _⟩ := h.front i hi
  exact ⟨hs.os, hs.tape, hs.output, hz, fun k hk' => hk k ((hF k).2 ⟨hk', fun h => h⟩)⟩

theorem Ent.start (w : World) : Ent [rest w fun _ => False] w :=
  ⟨_, on_single ⟨Same.refl w, Nat.le_refl _, fun _ => Iff.rfl, fun _ _ => rfl⟩⟩

section
variable {P : Program} {ops : Array Oper} {rest : List Oper} {o : Oper} {a : Act} {Q : Exit → Act → World → Prop} {w : World} {l : List HProp}

theorem wpl_run (hw : Region.wanted o (yielded ops a.tmps) = true) {v : Value} {w' : World} (hr : (execOp a.eval o).run P w = .ok (.value v) w')
    (h : wpList P ops Q rest (a.put o.dst v) w') : wpList P ops Q (o :: rest) a w := by
  unfold wpList
  rw [if_pos hw]
  left
  simp only [Oper.wp, hr, Oper.upon]
  exact h

theorem wpl_run_skip (hw : Region.wanted o (yielded ops a.tmps) = true) {w' : World} (hr : (execOp a.eval o).run P w = .ok .skip w')
    (h : wpList P ops Q rest (a.put o.dst undef) w') : wpList P ops Q (o :: rest) a w := by
  unfold wpList
  rw [if_pos hw]
  left
  simp only [Oper.wp, hr, Oper.upon]
  exact h

theorem run_load1 (hE : Ent l w) (i : Nat) {b : Nat} {cs : Array Value} {T : TypeId} {fz : Nat × Nat} (hi : l[i]? = some (pt b (.cells cs T fz)))
    {t : TypeId} (hA : ∀ w, (isAgg t).run P w = .ok false w) {off : Nat} {v : Value} (hv : cs[off]? = some v) :
    (Instr.loadAt t (.pointer (some ⟨b, off, none⟩))).run P w = .ok v w := by
  simp [Instr.loadAt, Instr.sureAddr, loadVar, hA, hE.cell i hi, hv]

theorem wpl_load1 (hE : Ent l w) (i : Nat) {b : Nat} {cs : Array Value} {T : TypeId} {fz : Nat × Nat} (hi : l[i]? = some (pt b (.cells cs T fz)))
    {t : TypeId} {x : Operand} (ho : o.op = .load t x) (hw : Region.wanted o (yielded ops a.tmps) = true)
    {off : Nat} (hx : a.eval x = .pointer (some ⟨b, off, none⟩)) (hA : ∀ w, (isAgg t).run P w = .ok false w) {v : Value} (hv : cs[off]? = some v)
    (h : wpList P ops Q rest (a.put o.dst v) w) : wpList P ops Q (o :: rest) a w := by
  refine wpl_run hw (w' := w) (v := v) ?_ h
  simp [execOp, ho, hx, run_load1 hE i hi hA hv]

theorem run_loadA (hE : Ent l w) (i : Nat) {b : Nat} {cs : Array Value} {T : TypeId} {fz : Nat × Nat} (hi : l[i]? = some (pt b (.cells cs T fz)))
    {t : TypeId} (hA : ∀ w, (isAgg t).run P w = .ok true w) {n : Nat} (hn : ∀ w, (Go.sizeOf t).run P w = .ok n w) {off : Nat} {vs : List Value} (hl : vs.length = n)
    (hv : ∀ j, j < n → cs[off + j]? = vs[j]?) :
    (Instr.loadAt t (.pointer (some ⟨b, off, none⟩))).run P w = .ok (.agg vs.toArray) w := by
  have hc : ∀ j v, vs[j]? = some v → w.cell? ((⟨b, off, none⟩ : Addr).add j) = some v := by
    intro j v hj
    rw [Addr.add_lit, hE.cell i hi, hv j (by rw [← hl]; exact (List.getElem?_eq_some_iff.1 hj).1), hj]
  have hr := run_loadCells_list (P := P) w ⟨b, off, none⟩ vs hc
  subst hl
  simp [Instr.loadAt, Instr.sureAddr, loadVar, hA, hn, hr]

theorem wpl_loadA (hE : Ent l w) (i : Nat) {b : Nat} {cs : Array Value} {T : TypeId} {fz : Nat × Nat} (hi : l[i]? = some (pt b (.cells cs T fz)))
    {t : TypeId} {x : Operand} (ho : o.op = .load t x) (hw : Region.wanted o (yielded ops a.tmps) = true)
    {off : Nat} (hx : a.eval x = .pointer (some ⟨b, off, none⟩)) (hA : ∀ w, (isAgg t).run P w = .ok true w) {n : Nat} (hn : ∀ w, (Go.sizeOf t).run P w = .ok n w)
    (vs : List Value) (hl : vs.length = n) (hv : ∀ j, j < n → cs[off + j]? = vs[j]?)
    (h : wpList P ops Q rest (a.put o.dst (.agg vs.toArray)) w) : wpList P ops Q (o :: rest) a w := by
  refine wpl_run hw (w' := w) (v := .agg vs.toArray) ?_ h
  simp [execOp, ho, hx, run_loadA hE i hi hA hn hl hv]

/-- a load out of memory that is known by a fact on cells -/
theorem wpl_loadC {t : TypeId} {x : Operand} (ho : o.op = .load t x) (hw : Region.wanted o (yielded ops a.tmps) = true)
    {ad : Addr} (hx : a.eval x = .pointer (some ad)) (hA : ∀ w, (isAgg t).run P w = .ok true w) {n : Nat} (hn : ∀ w, (Go.sizeOf t).run P w = .ok n w)
    (vs : List Value) (hl : vs.length = n) (hc : ∀ j v, vs[j]? = some v → w.cell? (ad.add j) = some v)
    (h : wpList P ops Q rest (a.put o.dst (.agg vs.toArray)) w) : wpList P ops Q (o :: rest) a w := by
  refine wpl_run hw (w' := w) (v := .agg vs.toArray) ?_ h
  have hr := run_loadCells_list (P := P) w ad vs hc
  subst hl
  simp [execOp, ho, hx, Instr.loadAt, Instr.sureAddr, loadVar, hA, hn, hr]

theorem setRow_same (w : World) (b : Nat) (cs : Array Value) : Same w (w.setRow b cs) := ⟨rfl, rfl, rfl⟩

/-- a block is written to: the i-th of the list -/
theorem Ent.setRow (hE : Ent l w) (i : Nat) {b : Nat} {cs : Array Value} {T : TypeId} {fz : Nat × Nat} (hi : l[i]? = some (pt b (.cells cs T fz))) (cs' : Array Value) :
    Ent (l.set i (pt b (.cells cs' T fz))) (w.setRow b cs') :=
  hE.turn i hi (setRow_same w b cs') (by simp [World.setRow]) (setRow_heap w b cs cs' T fz (hE.at i hi)) (fun k _ hk => setRow_other w b k cs' hk)

theorem run_storeV (hE : Ent l w) (i : Nat) {b : Nat} {cs : Array Value} {T : TypeId} (hi : l[i]? = some (pt b (.cells cs T (0, 0))))
    {t : TypeId} {v : Value} {n : Nat} (hn : ∀ w, (Go.sizeOf t).run P w = .ok n w) (hc : v.cells.size = n) (h1 : ∀ u ∈ v.cells.toList, u.oneCell' = true) {off : Nat} (hfit : off + n ≤ cs.size) :
    (Instr.storeAt t (.pointer (some ⟨b, off, none⟩)) v).run P w = .ok () (w.setRow b (cs.toList.take off ++ v.cells.toList ++ cs.toList.drop (off + v.cells.toList.length)).toArray) := by
  have hst := run_storeCells_at P b off T v.cells.toList 0 cs w (hE.at i hi) (by simp; omega) h1
  simp only [Nat.add_zero] at hst
  simp only [Instr.storeAt, Instr.sureAddr, storeVar, Sem.run_bind, Sem.run_pure, Result.andThen_ok, hn, hc]
  simp only [ne_eq, not_true_eq_false, if_false]
  simpa using hst

theorem wpl_store (hE : Ent l w) (i : Nat) {b : Nat} {cs : Array Value} {T : TypeId} (hi : l[i]? = some (pt b (.cells cs T (0, 0))))
    {t : TypeId} {x y : Operand} (ho : o.op = .store t x y) (hw : Region.wanted o (yielded ops a.tmps) = true)
    {off : Nat} (hx : a.eval x = .pointer (some ⟨b, off, none⟩)) {v : Value} (hy : a.eval y = v) {n : Nat} (hn : ∀ w, (Go.sizeOf t).run P w = .ok n w) (hc : v.cells.size = n)
    (h1 : ∀ u ∈ v.cells.toList, u.oneCell' = true) (hfit : off + n ≤ cs.size)
    (h : ∀ w', Ent (l.set i (pt b (.cells (cs.toList.take off ++ v.cells.toList ++ cs.toList.drop (off + v.cells.toList.length)).toArray T (0, 0)))) w' → wpList P ops Q rest (a.put o.dst undef) w') : wpList P ops Q (o :: rest) a w := by
  refine wpl_run_skip hw (w' := w.setRow b (cs.toList.take off ++ v.cells.toList ++ cs.toList.drop (off + v.cells.toList.length)).toArray) ?_ (h _ (hE.setRow i hi _))
  simp [execOp, ho, hx, hy, run_storeV hE i hi hn hc h1 hfit]

theorem wpl_box (hE : Ent l w) {t : TypeId} {x : Operand} (ho : o.op = .box t x) (hw : Region.wanted o (yielded ops a.tmps) = true) {v : Value} (hx : a.eval x = v)
    (h : ∀ b w', Ent (pt b (.cells v.cells t) :: l) w' → wpList P ops Q rest (a.put o.dst (.pointer (some ⟨b, 0, none⟩))) w') : wpList P ops Q (o :: rest) a w := by
  refine wpl_run hw (w' := w.alloc (.cells v.cells t)) (v := .pointer (some ⟨w.heap.size, 0, none⟩)) ?_ (h _ _ (hE.alloc _))
  simp [execOp, ho, hx, Instr.box, newVar, newRow]

theorem wpl_alloc (hE : Ent l w) {t : TypeId} (ho : o.op = .alloc t) (hw : Region.wanted o (yielded ops a.tmps) = true) {v : Value} (hz : ∀ w, (zeroValue t).run P w = .ok v w)
    (h : ∀ b w', Ent (pt b (.cells v.cells t) :: l) w' → wpList P ops Q rest (a.put o.dst (.pointer (some ⟨b, 0, none⟩))) w') : wpList P ops Q (o :: rest) a w := by
  refine wpl_run hw (w' := w.alloc (.cells v.cells t)) (v := .pointer (some ⟨w.heap.size, 0, none⟩)) ?_ (h _ _ (hE.alloc _))
  simp [execOp, ho, hz, Instr.alloc, newVar, newRow]

/-- an owned row, its capacity and block hidden -/
def row (e : TypeId) (size : Nat) (v : Value) (n : Nat) (xs : List Value) : HProp where
  on w F := w.ownsRow 0 e size v n xs ∧ ∀ b, F b ↔ v.ownBlock = some b
  stable := fun {w w' F} _ _ h ⟨h1, hF⟩ => by
    refine ⟨⟨h1.1, ?_⟩, hF⟩
    rcases h1.2 with h2 | ⟨g, cap, cur, rfl, hb, hg, r⟩
    · exact .inl h2
    · exact .inr ⟨g, cap, cur, rfl, hb, (h g ((hF g).2 rfl)).trans hg, r⟩
  bound := fun {w F b} ⟨h1, hF⟩ hb => (h1.lt b ((hF b).1 hb)).2

theorem Ent.owns {e : TypeId} {size : Nat} {v : Value} {n : Nat} {xs : List Value} (hE : Ent l w) (i : Nat) (hi : l[i]? = some (row e size v n xs)) : w.ownsRow 0 e size v n xs := by
  obtain ⟨F, F1, F2, ⟨h1, _⟩, _⟩ := hE.front i hi
  exact h1

/-- an empty row comes at no cost -/
theorem Ent.nil (hE : Ent l w) (e : TypeId) (size : Nat) : Ent (row e size (.slice none 0 0) 0 [] :: l) w :=
  hE.step0 (Bs := [row e size (.slice none 0 0) 0 []]) (Same.refl w) (Nat.le_refl _) (fun _ _ => rfl) ⟨fun _ => False, on_single ⟨World.ownsRow_nil _ _ _ _, fun b => by simp [Value.ownBlock]⟩, fun _ h => h.elim⟩

/-- a block of one's own as an owned row -/
theorem Ent.toRow (hE : Ent l w) (i : Nat) {b : Nat} {cs : Array Value} {e : TypeId} (hi : l[i]? = some (pt b (.cells cs e (0, 0)))) {size n cap : Nat} {xs : List Value}
    (h1 : xs.length = n * size) (hn : n ≤ cap) (hm : cap ≤ maxLen) (hs : cs.size = cap * size) (ht : cs.toList.take (n * size) = xs) :
    Ent (l.set i (row e size (.slice (some ⟨b, 0, none⟩) n cap) n xs)) w := by
  refine Ent.put ((hE.front i hi).step (Bs := [row e size (.slice (some ⟨b, 0, none⟩) n cap) n xs]) (Same.refl w) (Nat.le_refl _) fun F hF => ⟨fun _ _ _ => rfl, F, on_single ⟨⟨h1, .inr ⟨b, cap, cs, rfl, Nat.zero_le _, hF.1, hn, hm, hs, ht⟩⟩, fun x => ?_⟩, fun _ h => .inl h⟩) (List.getElem?_eq_some_iff.1 hi).1
  rw [hF.2]
  simp [Value.ownBlock, eq_comm]

theorem Ent.grown {e : TypeId} {size : Nat} {v v' : Value} {n n' : Nat} {xs xs' : List Value} {w' : World} (hE : Ent l w) (i : Nat) (hi : l[i]? = some (row e size v n xs))
    (hg : w.grownBy w' v.ownBlock) (ho : w'.ownsRow 0 e size v' n' xs') (hat : v'.ownBlock = v.ownBlock ∨ v'.ownBlock = some w.heap.size) : Ent (l.set i (row e size v' n' xs')) w' := by
  refine Ent.put ((hE.front i hi).step (Bs := [row e size v' n' xs']) ⟨hg.os, hg.tape, hg.output⟩ hg.size fun F hF => ⟨fun b hb hbF => hg.block b hb fun h => hbF ((hF.2 b).2 h.symm), fun b => v'.ownBlock = some b, on_single ⟨ho, fun _ => Iff.rfl⟩, fun b hb => ?_⟩) (List.getElem?_eq_some_iff.1 hi).1
  rcases hat with h | h
  · exact .inl ((hF.2 b).2 (h ▸ hb))
  · right
    rw [h] at hb
    simp at hb
    omega

/-- a slice value whose elements' cells are xs, in a world -/
def reads (v : Value) (n : Nat) (xs : List Value) (w : World) : Prop :=
  ∃ ao c, v = .slice ao n c ∧ (ao = none → n = 0 ∧ xs = []) ∧ ∀ ad, ao = some ad → ∀ j u, xs[j]? = some u → w.cell? (ad.add j) = some u

theorem owns_shape {e : TypeId} {size : Nat} {v : Value} {n : Nat} {xs : List Value} (h : w.ownsRow 0 e size v n xs) : ∃ ao c, v = .slice ao n c := by
  rcases h.2 with ⟨rfl, rfl⟩ | ⟨g, cap, cur, rfl, _⟩
  · exact ⟨_, _, rfl⟩
  · exact ⟨_, _, rfl⟩

theorem Ent.append {e : TypeId} {i : TypeInfo} {z : Value} {size bytes : Nat} {t : TypeId} (ty : TypeId) (hE : Ent l w) (k : Nat) {v : Value} {n : Nat} {xs : List Value} (hk : l[k]? = some (row e size v n xs))
    (ht : P.underlying t = some (.slice e)) (hi : P.info? e = some i) (hz : i.zero = some z) (hsize : i.size = size) (hby : i.bytes = bytes) (hzs : z.cells.size = size) (hsz : 0 < size)
    {x : Value} {m : Nat} {news : List Value} (hx : reads x m news w) (hl : news.length = m * size) (h1 : ∀ u ∈ news, u.oneCell' = true) (h63 : n + m ≤ maxLen) (hbytes : (n + m) * bytes ≤ 140737488355328) :
    ∃ ao' c' w', (Builtin.append_ #[t, t] ty #[v, x]).run P w = .ok (.slice ao' (n + m) c') w' ∧ Ent (l.set k (row e size (.slice ao' (n + m) c') (n + m) (xs ++ news))) w' := by
  have hown := hE.owns k hk
  obtain ⟨ao, c, rfl, hnone, hc⟩ := hx
  cases ao with
  | some ad =>
    obtain ⟨v', w', hr, h2, h3, _, h5⟩ := run_append_own_at (P := P) w 0 t ty e i z size bytes ht hi hz hsize hby hzs hsz v n xs hown ad m c news hl (hc ad rfl) h1 h63 hbytes (Nat.zero_le _)
    obtain ⟨ao', c', rfl⟩ := owns_shape h2
    exact ⟨ao', c', w', hr, hE.grown k hk h3 h2 h5⟩
  | none =>
    obtain ⟨rfl, rfl⟩ := hnone rfl
    obtain ⟨ao', c', rfl⟩ := owns_shape hown
    refine ⟨ao', c', w, ?_, by simpa using hE.grown k hk (World.grownBy.refl w _) hown (.inl rfl)⟩
    rcases hown.2 with ⟨h, rfl⟩ | ⟨g, cap, cur, h, _, _, hnc, _⟩
    all_goals cases h
    · simp [Builtin.append_, run_underlying ht, Go.sizeOf, typeInfo, hi, Builtin.lenOf, Builtin.firstCells]
    · simp [Builtin.append_, run_underlying ht, Go.sizeOf, typeInfo, hi, Builtin.lenOf, Builtin.firstCells, storeCells, hnc]

theorem wpl_append {e : TypeId} {i : TypeInfo} {z : Value} {size bytes : Nat} {t : TypeId} (hE : Ent l w) (k : Nat) {v : Value} {n : Nat} {xs : List Value} (hk : l[k]? = some (row e size v n xs))
    {s y : Operand} (ho : o.op = .call { callee := .builtin .append, args := #[s, y], argTypes := #[t, t] }) (hw : Region.wanted o (yielded ops a.tmps) = true)
    (hs : a.eval s = v) {x : Value} (hy : a.eval y = x)
    (ht : P.underlying t = some (.slice e)) (hi : P.info? e = some i) (hz : i.zero = some z) (hsize : i.size = size) (hby : i.bytes = bytes) (hzs : z.cells.size = size) (hsz : 0 < size)
    {m : Nat} {news : List Value} (hx : reads x m news w) (hl : news.length = m * size) (h1 : ∀ u ∈ news, u.oneCell' = true) (h63 : n + m ≤ maxLen) (hbytes : (n + m) * bytes ≤ 140737488355328)
    (h : ∀ ao' c' w', Ent (l.set k (row e size (.slice ao' (n + m) c') (n + m) (xs ++ news))) w' → wpList P ops Q rest (a.put o.dst (.slice ao' (n + m) c')) w') : wpList P ops Q (o :: rest) a w := by
  obtain ⟨ao', c', w', hr, hE'⟩ := hE.append (P := P) o.type k hk ht hi hz hsize hby hzs hsz hx hl h1 h63 hbytes
  refine wpl_run hw (w' := w') (v := .slice ao' (n + m) c') ?_ (h ao' c' w' hE')
  simp [execOp, ho, resolve, invoke, builtin, hs, hy, hr]

theorem reads_pt (hE : Ent l w) (i : Nat) {b : Nat} {cs : Array Value} {T : TypeId} {fz : Nat × Nat} (hi : l[i]? = some (pt b (.cells cs T fz))) {off n c : Nat} {xs : List Value}
    (h : ∀ j u, xs[j]? = some u → cs[off + j]? = some u) : reads (.slice (some ⟨b, off, none⟩) n c) n xs w :=
  ⟨_, _, rfl, fun h => (by cases h), fun ad had j u hu => by cases had; rw [Addr.add_lit, hE.cell i hi]; exact h j u hu⟩

theorem reads_row {e : TypeId} {size : Nat} {v : Value} {n : Nat} {xs : List Value} (hE : Ent l w) (i : Nat) (hi : l[i]? = some (row e size v n xs)) : reads v n xs w := by
  have h := hE.owns i hi
  rcases h.2 with ⟨rfl, rfl⟩ | ⟨g, cap, cur, rfl, _⟩
  · exact ⟨none, 0, rfl, fun _ => ⟨rfl, List.eq_nil_of_length_eq_zero (by simpa using h.1)⟩, fun _ h => (by cases h)⟩
  · exact ⟨_, _, rfl, fun h => (by cases h), fun ad had => by cases had; exact h.cells rfl⟩

theorem reads_nil (n c : Nat) (h : n = 0) (w : World) : reads (.slice none n c) n [] w := ⟨none, c, rfl, fun _ => ⟨h, rfl⟩, fun _ h => by cases h⟩

/-- opening and closing an assertion that is given by a family -/
theorem Ent.unpack {α : Sort _} {f : α → List HProp} (hE : Ent (ex f :: l) w) : ∃ x, Ent (f x ++ l) w := by
  obtain ⟨F, F1, F2, ⟨x, h1⟩, h2, hd, hF⟩ := hE
  exact ⟨x, F, all_append_on.2 ⟨F1, F2, h1, h2, hd, hF⟩⟩
theorem Ent.pack {α : Sort _} {f : α → List HProp} (x : α) (hE : Ent (f x ++ l) w) : Ent (ex f :: l) w := by
  obtain ⟨F, hF⟩ := hE
  obtain ⟨F1, F2, h1, h2, hd, hF'⟩ := all_append_on.1 hF
  exact ⟨F, F1, F2, ⟨x, h1⟩, h2, hd, hF'⟩

theorem Ent.setCell (hE : Ent l w) (i : Nat) {b : Nat} {cs : Array Value} {T : TypeId} {fz : Nat × Nat} (hi : l[i]? = some (pt b (.cells cs T fz))) (off : Nat) (v : Value) :
    Ent (l.set i (pt b (.cells (cs.setIfInBounds off v) T fz))) (w.setCell ⟨b, off, none⟩ v) := by
  refine hE.turn i hi ⟨rfl, rfl, rfl⟩ (by simp) ?_ (fun k _ hk => RowKit.Below.heap_setCell w _ v k hk)
  simp [World.setCell, Array.getElem?_modify, hE.at i hi]

theorem Ent.frozen (hE : Ent l w) (i : Nat) {b : Nat} {cs : Array Value} {T : TypeId} (hi : l[i]? = some (pt b (.cells cs T (0, 0)))) (off : Nat) : w.frozen? ⟨b, off, none⟩ = false := by
  simp [World.frozen?, hE.at i hi]

theorem hid {p : Prop} (h : p) : RowKit.Hid p := h
theorem getD_lit (l : List Value) (i : Nat) (d : Value) : l.toArray.getD i d = l.getD i d := by simp

end
attribute [irreducible] pt row rest ex pure' Ent
end Go.SL
namespace Go.SL
section
variable {P : Program} {w : World} {l : List HProp}

theorem heap_setCell_self (w : World) (g o : Nat) (cur : Array Value) (e : TypeId) (fz : Nat × Nat) (v : Value) (h : w.heap[g]? = some (.cells cur e fz)) :
    (w.setCell ⟨g, o, none⟩ v).heap[g]? = some (.cells (cur.setIfInBounds o v) e fz) := by
  simp [World.setCell, Array.getElem?_modify, h]

theorem setCells_cells (g : Nat) (e : TypeId) (fz : Nat × Nat) : ∀ (vs : List Value) (o : Nat) (w : World) (cur : Array Value), w.heap[g]? = some (.cells cur e fz) →
    ∃ cur', (w.setCells g o vs).heap[g]? = some (.cells cur' e fz) ∧ cur'.size = cur.size ∧ (∀ j, j < o → cur'[j]? = cur[j]?) ∧ (o + vs.length ≤ cur.size → ∀ j, j < vs.length → cur'[o + j]? = vs[j]?)
  | [], o, w, cur, h => ⟨cur, h, rfl, fun _ _ => rfl, fun _ j hj => by simp at hj⟩
  | v :: vs, o, w, cur, h => by
    obtain ⟨cur', h1, h2, h3, h4⟩ := setCells_cells g e fz vs (o + 1) (w.setCell ⟨g, o, none⟩ v) _ (heap_setCell_self w g o cur e fz v h)
    refine ⟨cur', h1, by simpa using h2, fun j hj => ?_, fun hfit j hj => ?_⟩
    · rw [h3 j (by omega), Array.getElem?_setIfInBounds_ne (by omega)]
    · simp only [List.length_cons] at hfit hj
      cases j with
      | zero =>
        have ho : o < cur.size := by omega
        rw [Nat.add_zero, h3 o (by omega)]
        simp [ho]
      | succ j =>
        have hsz : (cur.setIfInBounds o v).size = cur.size := by simp
        have := h4 (by omega) j (by omega)
        rw [show o + (j + 1) = o + 1 + j by omega, this]
        simp

theorem setCells_same (g : Nat) : ∀ (vs : List Value) (o : Nat) (w : World), Same w (w.setCells g o vs) ∧ (w.setCells g o vs).heap.size = w.heap.size ∧ ∀ k, k ≠ g → (w.setCells g o vs).heap[k]? = w.heap[k]?
  | [], _, w => ⟨Same.refl w, rfl, fun _ _ => rfl⟩
  | v :: vs, o, w => by
    obtain ⟨h1, h2, h3⟩ := setCells_same g vs (o + 1) (w.setCell ⟨g, o, none⟩ v)
    exact ⟨Same.trans (b := w.setCell ⟨g, o, none⟩ v) ⟨rfl, rfl, rfl⟩ h1, by rw [World.setCells, h2]; simp, fun k hk => by rw [World.setCells, h3 k hk]; exact RowKit.Below.heap_setCell w _ v k hk⟩

theorem append_src {e : TypeId} {i : TypeInfo} {z : Value} {size bytes : Nat} {t tx : TypeId} (ty : TypeId)
    (ht : P.underlying t = some (.slice e)) (hi : P.info? e = some i) (hz : i.zero = some z) (hsize : i.size = size) (hby : i.bytes = bytes) (hzs : z.cells.size = size) (hsz : 0 < size)
    {v : Value} {n : Nat} {xs : List Value} (hown : w.ownsRow 0 e size v n xs) {x : Value} {m : Nat} {news : List Value} (hs : Src P size tx x m news w) (h63 : n + m ≤ maxLen) (hbytes : (n + m) * bytes ≤ 140737488355328) :
    ∃ ao' c' w', (Builtin.append_ #[t, tx] ty #[v, x]).run P w = .ok (.slice ao' (n + m) c') w' ∧ w'.ownsRow 0 e size (.slice ao' (n + m) c') (n + m) (xs ++ news) ∧ w.grownBy w' v.ownBlock ∧
      ((Value.slice ao' (n + m) c').ownBlock = v.ownBlock ∨ (Value.slice ao' (n + m) c').ownBlock = some w.heap.size) := by
  subst hsize
  subst hby
  have hm : n + m ≤ 9223372036854775807 := by simp only [maxLen] at h63; omega
  have hlen : (xs ++ news).length = (n + m) * i.size := by rw [List.length_append, hown.1, hs.newsLen, Nat.add_mul]
  have hzero : ∀ k, (Builtin.zeroCells z.cells k).size = k * i.size := fun k => by rw [size_zeroCells, hzs]
  -- a new row
  have key : ∀ (base : Option Addr) (cap : Nat), (Builtin.firstCells i.size n (.slice base n cap)).run P w.drew = .ok xs.toArray w.drew → cap < n + m → v = .slice base n cap →
      ∃ ao' c' w', (Builtin.append_ #[t, tx] ty #[v, x]).run P w = .ok (.slice ao' (n + m) c') w' ∧ w'.ownsRow 0 e i.size (.slice ao' (n + m) c') (n + m) (xs ++ news) ∧ w.grownBy w' v.ownBlock ∧
      ((Value.slice ao' (n + m) c').ownBlock = v.ownBlock ∨ (Value.slice ao' (n + m) c').ownBlock = some w.heap.size) := by
    intro base cap hold hc hv
    have hr := run_append_grow_src w t tx ty e i z ht hi hz base n cap xs hold x m news hs hc (by omega) (growslice_fits (by omega) hbytes)
    have hge := grownCap_ge w (n + m) cap e
    refine ⟨_, _, _, by rw [hv]; exact hr, ⟨hlen, .inr ⟨w.heap.size, _, _, rfl, Nat.zero_le _, heap_alloc_new w.drew _, hge, grownCap_le_maxLen w (n + m) cap e h63, ?_, ?_⟩⟩,
      ⟨rfl, rfl, rfl, by simp, fun k hk _ => RowKit.Below.heap_alloc w.drew _ k hk⟩, .inr rfl⟩
    · rw [Array.size_append, hzero, List.size_toArray, hlen, ← Nat.add_mul]
      congr 1
      omega
    · rw [Array.toList_append, ← hlen]
      exact List.take_left
  rcases hown.2 with ⟨hv, h0⟩ | ⟨g, cap, cur, hv, _, hg, hnc, hcm, hcs, htake⟩
  · have hx : xs = [] := List.eq_nil_of_length_eq_zero (by rw [hown.1, h0]; simp)
    by_cases hm0 : m = 0
    · have hn : news = [] := List.eq_nil_of_length_eq_zero (by rw [hs.newsLen, hm0]; simp)
      subst hv h0 hx hn hm0
      refine ⟨none, 0, w, ?_, by simpa using World.ownsRow_nil w 0 e i.size, World.grownBy.refl _ _, .inl rfl⟩
      have hc := hs.cells
      rcases hs.kind with ⟨e', hk⟩ | hk <;> simp [Builtin.append_, run_underlying ht, run_underlying hk, Go.sizeOf, typeInfo, hi, hs.len, hc]
    · exact key none 0 (by subst hx h0; exact run_firstCells_none w.drew i.size 0 0 0) (by omega) (by rw [hv, h0])
  · by_cases hroom : n + m ≤ cap
    · have hfit : n * i.size + news.length ≤ cur.size := by rw [hs.newsLen, hcs, ← Nat.add_mul]; exact Nat.mul_le_mul_right _ hroom
      have hr := run_append_room_src w t tx ty e i ht hi g 0 n cap x m news hs hroom (fun j hj => by simp [World.cell?, hg]; omega) (fun j hj => by simp [World.frozen?, hg])
      obtain ⟨cur', h1, h2, h3, h4⟩ := setCells_cells g e (0, 0) news (0 + n * i.size) w cur hg
      obtain ⟨s1, s2, s3⟩ := setCells_same g news (0 + n * i.size) w
      refine ⟨_, _, _, by rw [hv]; exact hr, ⟨hlen, .inr ⟨g, cap, cur', rfl, Nat.zero_le _, h1, hroom, hcm, by rw [h2, hcs], ?_⟩⟩, ⟨s1.os, s1.tape, s1.output, Nat.le_of_eq s2.symm, fun k _ hk => s3 k fun hkg => hk (by rw [hv, hkg]; rfl)⟩, .inl (by rw [hv]; rfl)⟩
      apply List.ext_getElem?
      intro j
      rw [List.getElem?_take]
      by_cases hj : j < n * i.size
      · rw [if_pos (by rw [Nat.add_mul]; omega), Array.getElem?_toList, h3 j (by omega), List.getElem?_append_left (by rw [hown.1]; exact hj), ← htake, List.getElem?_take, if_pos hj, Array.getElem?_toList]
      · by_cases hj2 : j < (n + m) * i.size
        · have := h4 (by omega) (j - n * i.size) (by rw [hs.newsLen]; rw [Nat.add_mul] at hj2; omega)
          rw [if_pos hj2, Array.getElem?_toList, List.getElem?_append_right (by rw [hown.1]; omega), hown.1, ← this]
          congr 1
          omega
        · rw [if_neg hj2, List.getElem?_eq_none (by rw [hlen]; omega)]
    · refine key (some ⟨g, 0, none⟩) cap ?_ (by omega) hv
      have holds : ∀ j u, xs[j]? = some u → w.drew.cell? ((⟨g, 0, none⟩ : Addr).add j) = some u := hown.cells (by rw [hv]; rfl)
      exact run_firstCells_some w.drew i.size n ⟨g, 0, none⟩ n cap xs hown.1 holds

/-- append of a string onto a row of bytes -/
theorem Ent.appendS {e : TypeId} {i : TypeInfo} {t tx : TypeId} (ty : TypeId) (hE : Ent l w) (k : Nat) {v : Value} {n : Nat} {xs : List Value} (hk : l[k]? = some (row e 1 v n xs))
    (ht : P.underlying t = some (.slice e)) (htx : P.underlying tx = some .string) (hi : P.info? e = some i) (hz : i.zero = some (.int .u8 0)) (hsize : i.size = 1) (hby : i.bytes = 1) (s : ByteArray)
    (h63 : n + s.size ≤ 140737488355328) :
    ∃ ao' c' w', (Builtin.append_ #[t, tx] ty #[v, .string s]).run P w = .ok (.slice ao' (n + s.size) c') w' ∧ Ent (l.set k (row e 1 (.slice ao' (n + s.size) c') (n + s.size) (xs ++ byteCells s))) w' := by
  obtain ⟨ao', c', w', hr, h1, h2, h3⟩ := append_src ty ht hi hz hsize hby rfl (by decide) (hE.owns k hk) (Src.ofString w htx s) (by unfold maxLen; omega) (by omega)
  exact ⟨ao', c', w', hr, hE.grown k hk h2 h1 h3⟩

/-- a slice of one's own that is only read -/
def view (v : Value) (n : Nat) (xs : List Value) : HProp where
  on w F := reads v n xs w ∧ (∀ b, v.ownBlock = some b → b < w.heap.size) ∧ ∀ b, F b ↔ v.ownBlock = some b
  stable := fun {w w' F} _ hz h ⟨⟨ao, c, hv, h1, h2⟩, h3, h4⟩ => by
    refine ⟨⟨ao, c, hv, h1, fun ad had j u hu => ?_⟩, fun b hb => Nat.lt_of_lt_of_le (h3 b hb) hz, h4⟩
    have hb : F ad.block := (h4 _).2 (by rw [hv, had]; rfl)
    rw [World.cell?_of_block (w := w)]
    · exact h2 ad had j u hu
    · unfold Addr.add
      split <;> exact h _ hb
  bound := fun ⟨_, h3, h4⟩ hb => h3 _ ((h4 _).1 hb)

theorem Ent.views {v : Value} {n : Nat} {xs : List Value} (hE : Ent l w) (i : Nat) (hi : l[i]? = some (view v n xs)) : reads v n xs w := by
  have h := hE.front i hi
  unfold Ent at h
  obtain ⟨F, F1, F2, ⟨h1, _⟩, _⟩ := h
  exact h1

theorem Ent.toView {e : TypeId} {size : Nat} {v : Value} {n : Nat} {xs : List Value} (hE : Ent l w) (i : Nat) (hi : l[i]? = some (row e size v n xs)) : Ent (l.set i (view v n xs)) w := by
  have hr := reads_row hE i hi
  have ho := hE.owns i hi
  refine Ent.put ((hE.front i hi).step (Bs := [view v n xs]) (Same.refl w) (Nat.le_refl _) fun F hF => ⟨fun _ _ _ => rfl, F, on_single ⟨hr, fun b hb => (ho.lt b hb).2, ?_⟩, fun _ h => .inl h⟩) (List.getElem?_eq_some_iff.1 hi).1
  unfold row at hF
  exact hF.2

/-- where a slice of some elements lies -/
theorem reads_form {ao : Option Addr} {n c : Nat} {xs : List Value} (hr : reads (.slice ao n c) n xs w) (h0 : 0 < n) (hx : 0 < xs.length) :
    ∃ b off, ao = some ⟨b, off, none⟩ ∧ ∀ j u, xs[j]? = some u → w.cell? ⟨b, off + j, none⟩ = some u := by
  obtain ⟨ao', c', e, h1, h2⟩ := hr
  cases e
  cases ao with
  | none => have := (h1 rfl).1; omega
  | some ad =>
    have h3 := h2 ad rfl 0 _ (List.getElem?_eq_getElem hx)
    have hs : ad.spot = none := by
      simp only [Addr.add_zero'] at h3
      cases hs : ad.spot with
      | none => rfl
      | some x =>
        unfold World.cell? at h3
        split at h3
        · simp [hs] at h3
        · cases h3
    obtain ⟨b, off, sp⟩ := ad
    simp only at hs
    subst hs
    exact ⟨b, off, rfl, fun j u hu => by have := h2 _ rfl j u hu; rwa [Addr.add_lit] at this⟩

/-- a new block that reads as a slice -/
theorem Ent.newView {w' : World} {b c : Nat} {xs : List Value} {n : Nat} (hE : Ent l w) (hs : Same w w') (hz : w'.heap.size = w.heap.size + 1) (hb : b = w.heap.size) (hk : ∀ k, k < w.heap.size → w'.heap[k]? = w.heap[k]?)
    (hr : ∀ j u, xs[j]? = some u → w'.cell? ⟨b, j, none⟩ = some u) : Ent (view (.slice (some ⟨b, 0, none⟩) n c) n xs :: l) w' := by
  refine hE.step0 (Bs := [view (.slice (some ⟨b, 0, none⟩) n c) n xs]) hs (by omega) hk ⟨fun x => x = b, on_single ⟨⟨_, _, rfl, fun h => (by cases h), fun ad had j u hu => by cases had; rw [Addr.add_lit, Nat.zero_add]; exact hr j u hu⟩, fun x hx => ?_, fun x => ?_⟩, fun x hx => by omega⟩
  · simp [Value.ownBlock] at hx; omega
  · simp [Value.ownBlock, eq_comm]

theorem Ent.strBytes {src dst e : TypeId} {u : TypeDesc} (hE : Ent l w) (hs : P.underlying src = some u) (hd : P.underlying dst = some (.slice e)) (he : P.underlying e = some (.int .u8)) (s : ByteArray) :
    ∃ b c w', (convert src dst (.string s)).run P w = .ok (.slice (some ⟨b, 0, none⟩) s.size c) w' ∧ Ent (view (.slice (some ⟨b, 0, none⟩) s.size c) s.size (byteCells s) :: l) w' := by
  refine ⟨_, _, _, Lib.run_convert_string_bytes w src dst e s hs hd he, hE.newView ⟨rfl, rfl, rfl⟩ (Lib.bytesWorld_size w e s) rfl (fun k hk => Lib.bytesWorld_at_old w e s k hk) fun j u hu => ?_⟩
  obtain ⟨hj, rfl⟩ := List.getElem?_eq_some_iff.1 hu
  have hj' : j < s.size := by simpa [byteCells_length] using hj
  rw [Lib.bytesWorld_cell w e s j hj']
  have hj'' : j < s.data.toList.length := by simpa using hj'
  simp [byteCells, List.getD, List.getElem?_eq_getElem hj'']

theorem bytesToString_reads {src dst e : TypeId} (hs : P.underlying src = some (.slice e)) (he : P.underlying e = some (.int .u8)) (hd : P.underlying dst = some .string) {v : Value} {n : Nat} {bs : List UInt8}
    (hr : reads v n (bs.map fun b => Value.int .u8 b.toNat) w) (hn : n = bs.length) : (convert src dst v).run P w = .ok (.string ⟨bs.toArray⟩) w := by
  obtain ⟨ao, c, rfl, h1, h2⟩ := hr
  rw [run_convert_bytes_string w src dst e ao n c hs he hd]
  cases ao with
  | none =>
    obtain ⟨rfl, h⟩ := h1 rfl
    have : bs = [] := by simpa using h
    subst this
    simp [Conv.bytesToString, ByteArray.empty, ByteArray.emptyWithCapacity]
    rfl
  | some ad =>
    have hl := run_loadCells_list (P := P) w ad _ (h2 ad rfl)
    rw [List.length_map, ← hn] at hl
    have hm : (bs.map fun b => Value.int .u8 b.toNat) = ((bs.map fun b => (b.toNat : Int)).map (Value.int .u8)) := by simp
    rw [hm] at hl
    rw [run_bytesToString w ad n c _ hl, foldl_push_bytes]
    congr 3
    apply Array.ext'
    simp [ByteArray.empty, ByteArray.emptyWithCapacity, Function.comp_def]
    rfl
theorem wpl_bytesStr {ops : Array Oper} {rest : List Oper} {o : Oper} {a : Act} {Q : Exit → Act → World → Prop} {src dst e : TypeId} {x : Operand} (ho : o.op = .convert src dst x) (hw : Region.wanted o (yielded ops a.tmps) = true) {v : Value} (hx : a.eval x = v)
    (hs : P.underlying src = some (.slice e)) (he : P.underlying e = some (.int .u8)) (hd : P.underlying dst = some .string) {n : Nat} {bs : List UInt8}
    (hr : reads v n (bs.map fun b => Value.int .u8 b.toNat) w) (hn : n = bs.length) (h : wpList P ops Q rest (a.put o.dst (.string ⟨bs.toArray⟩)) w) : wpList P ops Q (o :: rest) a w := by
  refine wpl_run hw (w' := w) (v := .string ⟨bs.toArray⟩) ?_ h
  simp [execOp, ho, hx, bytesToString_reads hs he hd hr hn]

end
attribute [irreducible] view
end Go.SL
namespace Go.SL

/-- where the part of a slice from l on begins (at the capacity's end Go keeps the old address) -/
def cutAt (size : Nat) (ao : Option Addr) (c l : Nat) : Option Addr := if c = l then ao else ao.map (·.add (l * size))

theorem Addr.add_add (a : Addr) (m j : Nat) : (a.add m).add j = a.add (m + j) := by
  unfold Addr.add
  by_cases hm : m = 0
  · subst hm; simp
  · by_cases hj : j = 0
    · subst hj; simp [hm]
    · simp [hm, hj, Nat.add_assoc]

theorem cutAt_block (size : Nat) (ao : Option Addr) (c l n n' c' : Nat) : (Value.slice (cutAt size ao c l) n' c').ownBlock = (Value.slice ao n c).ownBlock := by
  unfold cutAt
  split
  · cases ao <;> rfl
  · cases ao with
    | none => rfl
    | some a =>
      simp only [Option.map_some, Value.ownBlock, Addr.add]
      split <;> rfl

theorem reads_cut {w : World} {size : Nat} {ao : Option Addr} {n c : Nat} {xs : List Value} (hr : reads (.slice ao n c) n xs w) (hxs : xs.length = n * size) {l h : Nat} (hlh : l ≤ h) (hn : h ≤ n) (hc : n ≤ c) :
    reads (.slice (cutAt size ao c l) (h - l) (c - l)) (h - l) ((xs.drop (l * size)).take ((h - l) * size)) w := by
  obtain ⟨ao', c', e, h1, h2⟩ := hr
  cases e
  refine ⟨_, _, rfl, ?_, ?_⟩
  · intro hnone
    have : ao = none := by
      unfold cutAt at hnone
      split at hnone
      · exact hnone
      · simpa using hnone
    obtain ⟨rfl, rfl⟩ := h1 this
    have : h = 0 := by omega
    subst this
    simp
  · intro ad had j u hu
    rw [List.getElem?_take] at hu
    split at hu
    · rename_i hj
      rw [List.getElem?_drop] at hu
      have hne : ¬ c = l := by
        intro e
        have : h - l = 0 := by omega
        rw [this] at hj
        simp at hj
      unfold cutAt at had
      rw [if_neg hne] at had
      cases ao with
      | none => simp at had
      | some a =>
        simp only [Option.map_some, Option.some.injEq] at had
        subst had
        have h3 := h2 a rfl (l * size + j) u hu
        rw [← h3, Addr.add_add]
    · cases hu

section
variable {P : Program} {ops : Array Oper} {rest : List Oper} {o : Oper} {a : Act} {Q : Exit → Act → World → Prop} {w : World} {l : List HProp}

theorem run_cut {t e : TypeId} {size : Nat} (ht : P.underlying t = some (.slice e)) (hs : ∀ w, (Go.sizeOf e).run P w = .ok size w) (ao : Option Addr) (n c : Nat) (kl kh : IntKind) (lo hi : Nat) (h1 : lo ≤ hi) (h2 : hi ≤ c) :
    (Instr.slice t (.slice ao n c) (some (.int kl lo)) (some (.int kh hi)) none).run P w = .ok (.slice (cutAt size ao c lo) (hi - lo) (c - lo)) w := by
  have a1 : ((hi : Int) ≤ (c : Int)) := by omega
  have a2 : ((lo : Int) ≤ (hi : Int)) := by omega
  simp [Instr.slice, run_underlying ht, Instr.sliceBounds, Instr.sliceBound, asIntOf, hs, a1, a2, h1, h2, cutAt]

theorem run_cut_lo {t e : TypeId} {size : Nat} (ht : P.underlying t = some (.slice e)) (hs : ∀ w, (Go.sizeOf e).run P w = .ok size w) (ao : Option Addr) (n c : Nat) (kl : IntKind) (lo : Nat) (h1 : lo ≤ n) :
    (Instr.slice t (.slice ao n c) (some (.int kl lo)) none none).run P w = .ok (.slice (cutAt size ao c lo) (n - lo) (c - lo)) w := by
  have a2 : ((lo : Int) ≤ (n : Int)) := by omega
  simp [Instr.slice, run_underlying ht, Instr.sliceBounds, Instr.sliceBound, asIntOf, hs, a2, Nat.not_lt.2 h1, h1, cutAt]

theorem run_cut_hi {t e : TypeId} {size : Nat} (ht : P.underlying t = some (.slice e)) (hs : ∀ w, (Go.sizeOf e).run P w = .ok size w) (ao : Option Addr) (n c : Nat) (kh : IntKind) (hi : Nat) (h2 : hi ≤ c) :
    (Instr.slice t (.slice ao n c) none (some (.int kh hi)) none).run P w = .ok (.slice (cutAt size ao c 0) (hi - 0) (c - 0)) w := by
  have a1 : ((hi : Int) ≤ (c : Int)) := by omega
  simp [Instr.slice, run_underlying ht, Instr.sliceBounds, Instr.sliceBound, asIntOf, hs, a1, h2, cutAt]

theorem sliceAt_slice {t e : TypeId} (ht : P.underlying t = some (.slice e)) (x : Value) (lo hi mx : Option Value) : (Instr.sliceAt t x lo hi mx).run P w = (Instr.slice t x lo hi mx).run P w := by
  simp [Instr.sliceAt, run_underlying ht]

/-- x[lo:] -/
theorem wpl_cut_lo {t e : TypeId} {size : Nat} {x lo' : Operand} (ho : o.op = .slice t x (some lo') none none) (hw : Region.wanted o (yielded ops a.tmps) = true) {ao : Option Addr} {n c : Nat} (hx : a.eval x = .slice ao n c) {kl : IntKind} {i : Int} (hl : a.eval lo' = .int kl i) (lo : Nat)
    (hi : i = (lo : Int)) (ht : P.underlying t = some (.slice e)) (hs : ∀ w, (Go.sizeOf e).run P w = .ok size w) (h1 : lo ≤ n)
    (h : wpList P ops Q rest (a.put o.dst (.slice (cutAt size ao c lo) (n - lo) (c - lo))) w) : wpList P ops Q (o :: rest) a w := by
  refine wpl_run hw (w' := w) ?_ h
  subst hi
  simp [execOp, ho, hx, hl, sliceAt_slice ht, run_cut_lo ht hs ao n c kl lo h1]

/-- x[:hi] -/
theorem wpl_cut_hi {t e : TypeId} {size : Nat} {x hi' : Operand} (ho : o.op = .slice t x none (some hi') none) (hw : Region.wanted o (yielded ops a.tmps) = true) {ao : Option Addr} {n c : Nat} (hx : a.eval x = .slice ao n c) {kh : IntKind} {i : Int} (hl : a.eval hi' = .int kh i) (hi : Nat)
    (hi2 : i = (hi : Int)) (ht : P.underlying t = some (.slice e)) (hs : ∀ w, (Go.sizeOf e).run P w = .ok size w) (h1 : hi ≤ c)
    (h : wpList P ops Q rest (a.put o.dst (.slice (cutAt size ao c 0) (hi - 0) (c - 0))) w) : wpList P ops Q (o :: rest) a w := by
  refine wpl_run hw (w' := w) ?_ h
  subst hi2
  simp [execOp, ho, hx, hl, sliceAt_slice ht, run_cut_hi ht hs ao n c kh hi h1]

/-- x[lo:hi] -/
theorem wpl_cut {t e : TypeId} {size : Nat} {x lo' hi' : Operand} (ho : o.op = .slice t x (some lo') (some hi') none) (hw : Region.wanted o (yielded ops a.tmps) = true) {ao : Option Addr} {n c : Nat} (hx : a.eval x = .slice ao n c) {kl kh : IntKind} {i j : Int} (hl : a.eval lo' = .int kl i) (hh : a.eval hi' = .int kh j) (lo hi : Nat)
    (hi1 : i = (lo : Int)) (hi2 : j = (hi : Int)) (ht : P.underlying t = some (.slice e)) (hs : ∀ w, (Go.sizeOf e).run P w = .ok size w) (h0 : lo ≤ hi) (h1 : hi ≤ c)
    (h : wpList P ops Q rest (a.put o.dst (.slice (cutAt size ao c lo) (hi - lo) (c - lo))) w) : wpList P ops Q (o :: rest) a w := by
  refine wpl_run hw (w' := w) ?_ h
  subst hi1 hi2
  simp [execOp, ho, hx, hl, hh, sliceAt_slice ht, run_cut ht hs ao n c kl kh lo hi h0 h1]

/-- a view, cut -/
theorem Ent.cutView {size : Nat} {ao : Option Addr} {n c : Nat} {xs : List Value} (hE : Ent l w) (i : Nat) (hi : l[i]? = some (view (.slice ao n c) n xs)) (hxs : xs.length = n * size) {lo h : Nat} (hlh : lo ≤ h) (hn : h ≤ n) (hc : n ≤ c) :
    Ent (l.set i (view (.slice (cutAt size ao c lo) (h - lo) (c - lo)) (h - lo) ((xs.drop (lo * size)).take ((h - lo) * size)))) w := by
  refine Ent.put ((hE.front i hi).step (Bs := [view _ _ _]) (Same.refl w) (Nat.le_refl _) fun F hF => ⟨fun _ _ _ => rfl, F, on_single ?_, fun _ h => .inl h⟩) (List.getElem?_eq_some_iff.1 hi).1
  unfold view at hF ⊢
  refine ⟨reads_cut hF.1 hxs hlh hn hc, fun b hb => hF.2.1 b ?_, fun b => ?_⟩
  · rw [cutAt_block size ao c lo n] at hb; exact hb
  · rw [hF.2.2 b, cutAt_block size ao c lo n]

/-- a slice as an array's pointer -/
theorem wpl_arrayPtr {t e : TypeId} {x : Operand} (ho : o.op = .sliceToArrayPointer t x) (hw : Region.wanted o (yielded ops a.tmps) = true) {ao : Option Addr} {n c m : Nat} (hx : a.eval x = .slice ao n c) (ht : P.underlying t = some (.array m e)) (hm : m ≤ n)
    (h : wpList P ops Q rest (a.put o.dst (.pointer ao)) w) : wpList P ops Q (o :: rest) a w := by
  refine wpl_run hw (w' := w) (v := .pointer ao) ?_ h
  simp [execOp, ho, hx, Instr.arrayAt, run_underlying ht, Nat.not_lt.2 hm]

/-- a whole array loaded from where a slice begins -/
theorem wpl_loadR {t : TypeId} {x : Operand} (ho : o.op = .load t x) (hw : Region.wanted o (yielded ops a.tmps) = true) {ad : Addr} (hx : a.eval x = .pointer (some ad))
    (hA : ∀ w, (isAgg t).run P w = .ok true w) {n : Nat} (hn : ∀ w, (Go.sizeOf t).run P w = .ok n w) {m c : Nat} {xs : List Value} (hr : reads (.slice (some ad) m c) m xs w) (hl : xs.length = n)
    (h : wpList P ops Q rest (a.put o.dst (.agg xs.toArray)) w) : wpList P ops Q (o :: rest) a w := by
  obtain ⟨ao, c', e, _, h2⟩ := hr
  cases e
  exact wpl_loadC ho hw hx hA hn xs hl (h2 ad rfl) h

/-- a whole block stored anew -/
theorem wpl_storeW (hE : Ent l w) (i : Nat) {b : Nat} {cs : Array Value} {T : TypeId} (hi : l[i]? = some (pt b (.cells cs T (0, 0))))
    {t : TypeId} {x y : Operand} (ho : o.op = .store t x y) (hw : Region.wanted o (yielded ops a.tmps) = true) (hx : a.eval x = .pointer (some ⟨b, 0, none⟩)) {xs : List Value} (hy : a.eval y = .agg xs.toArray)
    {n : Nat} (hn : ∀ w, (Go.sizeOf t).run P w = .ok n w) (hc : xs.length = n) (h1 : ∀ u ∈ xs, u.oneCell' = true) (hfit : cs.size = n)
    (h : ∀ w', Ent (l.set i (pt b (.cells xs.toArray T (0, 0)))) w' → wpList P ops Q rest (a.put o.dst undef) w') : wpList P ops Q (o :: rest) a w := by
  refine wpl_store hE i hi ho hw hx hy hn (by simpa [Value.cells] using hc) (by simpa [Value.cells] using h1) (by omega) fun w' hE' => h w' ?_
  have e : (cs.toList.take 0 ++ (Value.agg xs.toArray).cells.toList ++ cs.toList.drop (0 + (Value.agg xs.toArray).cells.toList.length)).toArray = xs.toArray := by
    simp [Value.cells, hc, ← hfit]
  rw [e] at hE'
  exact hE'

theorem wpl_loadW (hE : Ent l w) (i : Nat) {b : Nat} {xs : List Value} {T : TypeId} {fz : Nat × Nat} (hi : l[i]? = some (pt b (.cells xs.toArray T fz)))
    {t : TypeId} {x : Operand} (ho : o.op = .load t x) (hw : Region.wanted o (yielded ops a.tmps) = true)
    (hx : a.eval x = .pointer (some ⟨b, 0, none⟩)) (hA : ∀ w, (isAgg t).run P w = .ok true w) {n : Nat} (hn : ∀ w, (Go.sizeOf t).run P w = .ok n w) (hl : xs.length = n)
    (h : wpList P ops Q rest (a.put o.dst (.agg xs.toArray)) w) : wpList P ops Q (o :: rest) a w :=
  wpl_loadA hE i hi ho hw hx hA hn xs hl (fun j _ => by simp) h

/-- what a result that lies in a block reads as -/
theorem run_resultA (hE : Ent l w) (i : Nat) {b : Nat} {xs : List Value} {T : TypeId} {fz : Nat × Nat} (hi : l[i]? = some (pt b (.cells xs.toArray T fz)))
    {t : TypeId} (hA : ∀ w, (isAgg t).run P w = .ok true w) {n : Nat} (hn : ∀ w, (Go.sizeOf t).run P w = .ok n w) (hl : xs.length = n) : (loadVar t ⟨b, 0, none⟩).run P w = .ok (.agg xs.toArray) w := by
  have h := run_loadA (P := P) hE i hi hA hn (off := 0) hl (fun j _ => by simp)
  simpa [Instr.loadAt, Instr.sureAddr] using h

theorem results_cellA {fn : Func} {k : Tmp} {t : TypeId} (h : fn.results = #[.cell k t]) {tmps : Array Value} (hE : Ent l w) (i : Nat) {b : Nat} {xs : List Value} {T : TypeId} {fz : Nat × Nat} (hi : l[i]? = some (pt b (.cells xs.toArray T fz)))
    (hp : tmps.getD k undef = .pointer (some ⟨b, 0, none⟩)) (hA : ∀ w, (isAgg t).run P w = .ok true w) {n : Nat} (hn : ∀ w, (Go.sizeOf t).run P w = .ok n w) (hl : xs.length = n) : (results fn tmps).run P w = .ok (.agg xs.toArray) w := by
  have hp' : tmps[k]?.getD undef = .pointer (some ⟨b, 0, none⟩) := by simpa using hp
  simp only [results, h]
  simp [hp', asAddr, run_resultA hE i hi hA hn hl]

/-- nothing of what is known of memory is lost -/
def Keeps (w w' : World) : Prop := ∀ l, Ent l w → Ent l w'
theorem Keeps.refl (w : World) : Keeps w w := fun _ h => h
theorem Keeps.trans {a b c : World} (h : Keeps a b) (k : Keeps b c) : Keeps a c := fun l hl => k l (h l hl)
theorem Keeps.alloc (w : World) (o : Obj) : Keeps w (w.alloc o) := fun _ h => (h.alloc o).tail
theorem Keeps.drew (w : World) : Keeps w w.drew := fun _ h => h.drew
/-- steps in a short form: the place of a block in the list is found by the tactic of the lemma itself (the texts of a claim are bounded); here: an assertion put in the place of another one -/
inductive Upd (A A' : HProp) : List HProp → List HProp → Prop
  | z {m : List HProp} : Upd A A' (A :: m) (A' :: m)
  | s {B : HProp} {m m' : List HProp} (h : Upd A A' m m') : Upd A A' (B :: m) (B :: m')
theorem Upd.at {A A' : HProp} {m m' : List HProp} (h : Upd A A' m m') : ∃ i, m[i]? = some A ∧ m.set i A' = m' := by
  induction h with
  | z => exact ⟨0, rfl, rfl⟩
  | s _ ih => obtain ⟨i, h1, h2⟩ := ih; exact ⟨i + 1, by simpa using h1, by simpa using h2⟩
theorem ldX (hE : Ent l w) {b : Nat} {cs : Array Value} {T : TypeId} {fz : Nat × Nat} {t : TypeId} {x : Operand} {off : Nat} {v : Value}
    (h : wpList P ops Q rest (a.put o.dst v) w)
    (ho : o.op = .load t x := by with_reducible rfl) (hw : Region.wanted o (yielded ops a.tmps) = true := by rfl)
    (hx : a.eval x = .pointer (some ⟨b, off, none⟩) := by rfl)
    (hm : pt b (.cells cs T fz) ∈ l := by first | ((repeat (first | with_reducible exact List.Mem.head _ | refine List.Mem.tail _ ?_)); done) | ((repeat (first | exact List.Mem.head _ | refine List.Mem.tail _ ?_)); done))
    (hA : ∀ w, (isAgg t).run P w = .ok false w := by simp [go_sem]) (hv : cs[off]? = some v := by rfl) : wpList P ops Q (o :: rest) a w := by
  obtain ⟨i, hi⟩ := List.getElem?_of_mem hm
  exact wpl_load1 hE i hi ho hw hx hA hv h
theorem lwX (hE : Ent l w) {b : Nat} {xs : List Value} {T : TypeId} {fz : Nat × Nat} {t : TypeId} {x : Operand}
    (hA : ∀ w, (isAgg t).run P w = .ok true w) {n : Nat} (hn : ∀ w, (Go.sizeOf t).run P w = .ok n w)
    (h : wpList P ops Q rest (a.put o.dst (.agg xs.toArray)) w)
    (ho : o.op = .load t x := by with_reducible rfl) (hw : Region.wanted o (yielded ops a.tmps) = true := by rfl)
    (hx : a.eval x = .pointer (some ⟨b, 0, none⟩) := by rfl)
    (hm : pt b (.cells xs.toArray T fz) ∈ l := by first | ((repeat (first | with_reducible exact List.Mem.head _ | refine List.Mem.tail _ ?_)); done) | ((repeat (first | exact List.Mem.head _ | refine List.Mem.tail _ ?_)); done))
    (hl : xs.length = n := by rfl) : wpList P ops Q (o :: rest) a w := by
  obtain ⟨i, hi⟩ := List.getElem?_of_mem hm
  exact wpl_loadW hE i hi ho hw hx hA hn hl h
theorem swX (hE : Ent l w) {b : Nat} {cs : Array Value} {T : TypeId} {t : TypeId} {x y : Operand} {l' : List HProp} (xs : List Value) {n : Nat} (hn : ∀ w, (Go.sizeOf t).run P w = .ok n w)
    (h : ∀ w', Ent l' w' → wpList P ops Q rest (a.put o.dst undef) w')
    (ho : o.op = .store t x y := by with_reducible rfl) (hw : Region.wanted o (yielded ops a.tmps) = true := by rfl)
    (hx : a.eval x = .pointer (some ⟨b, 0, none⟩) := by rfl) (hy : a.eval y = .agg xs.toArray := by rfl)
    (hu : Upd (pt b (.cells cs T (0, 0))) (pt b (.cells xs.toArray T (0, 0))) l l' := by first | ((repeat (first | with_reducible exact Upd.z | apply Upd.s)); done) | ((repeat (first | exact Upd.z | apply Upd.s)); done))
    (hc : xs.length = n := by rfl) (h1 : ∀ u ∈ xs, u.oneCell' = true := by simp [Value.oneCell']) (hfit : cs.size = n := by rfl) : wpList P ops Q (o :: rest) a w := by
  obtain ⟨i, hi, rfl⟩ := hu.at
  exact wpl_storeW hE i hi ho hw hx hy hn hc h1 hfit h
theorem alX (hE : Ent l w) {t : TypeId} {v : Value} {cs : Array Value}
    (h : ∀ b w', Ent (pt b (.cells cs t) :: l) w' → wpList P ops Q rest (a.put o.dst (.pointer (some ⟨b, 0, none⟩))) w')
    (ho : o.op = .alloc t := by with_reducible rfl) (hw : Region.wanted o (yielded ops a.tmps) = true := by rfl)
    (hz : ∀ w, (zeroValue t).run P w = .ok v w := by simp [go_sem]; rfl) (hc : v.cells = cs := by first | (simp only [Value.cells]; rfl) | rfl) : wpList P ops Q (o :: rest) a w :=
  wpl_alloc hE ho hw hz (by rw [hc]; exact h)
theorem bxX (hE : Ent l w) {t : TypeId} {x : Operand} {v : Value} {cs : Array Value}
    (h : ∀ b w', Ent (pt b (.cells cs t) :: l) w' → wpList P ops Q rest (a.put o.dst (.pointer (some ⟨b, 0, none⟩))) w')
    (ho : o.op = .box t x := by with_reducible rfl) (hw : Region.wanted o (yielded ops a.tmps) = true := by rfl)
    (hx : a.eval x = v := by rfl)
    (hc : v.cells = cs := by first | (simp only [Act.eval, Act.put, List.setIfInBounds_toArray, List.set_cons_zero, List.set_cons_succ, getD_lit, List.getD_cons_succ, List.getD_cons_zero, Value.cells]; rfl) | rfl) : wpList P ops Q (o :: rest) a w :=
  wpl_box hE ho hw hx (by rw [hc]; exact h)
end
attribute [irreducible] cutAt
end Go.SL
namespace Go.SL
section
variable {P : Program} {w : World}

theorem run_part_byte {e : TypeId} (he : P.underlying e = some (.int .u8)) {xs : Array Value} {off : Nat} {v : Value} (hx : xs[off]? = some v) : (part e xs off).run P w = .ok v w := by
  simp [part, isAgg, run_underlying he, hx]

theorem run_eqItems_bytes (d : Nat) {e : TypeId} (he : P.underlying e = some (.int .u8)) (as1 bs : List UInt8) (hl : as1.length = bs.length) : ∀ is : List Nat, (∀ i ∈ is, i < as1.length) →
    (Op.eqItems (d + 1) e 1 (as1.map fun b => Value.int .u8 b.toNat).toArray (bs.map fun b => Value.int .u8 b.toNat).toArray is).run P w = .ok (is.all fun i => as1[i]? == bs[i]?) w
  | [], _ => by simp [Op.eqItems]
  | i :: is, h => by
    have ha : i < as1.length := h i (by simp)
    have hb : i < bs.length := by omega
    have e1 : (as1.map fun b => Value.int .u8 (b.toNat : Int)).toArray[i * 1]? = some (.int .u8 (as1[i].toNat : Int)) := by simp [ha]
    have e2 : (bs.map fun b => Value.int .u8 (b.toNat : Int)).toArray[i * 1]? = some (.int .u8 (bs[i].toNat : Int)) := by simp [hb]
    have ih := run_eqItems_bytes d he as1 bs hl is (fun j hj => h j (by simp [hj]))
    simp only [Op.eqItems, Sem.run_bind, run_part_byte he e1, run_part_byte he e2, Result.andThen_ok, run_equalIn_int w d e .u8 .u8 _ _ he]
    have e3 : ((as1[i].toNat : Int) == (bs[i].toNat : Int)) = (as1[i]? == bs[i]?) := by
      rw [List.getElem?_eq_getElem ha, List.getElem?_eq_getElem hb, Bool.eq_iff_iff]
      simp [← UInt8.toNat_inj]
      omega
    cases hc : ((as1[i].toNat : Int) == (bs[i].toNat : Int)) with
    | false => simp [List.all_cons, ← e3, hc]
    | true =>
      simp only [Bool.not_true, Bool.false_eq_true, if_false, ih, List.all_cons, ← e3, hc, Bool.true_and]

theorem all_range_eq (as1 bs : List UInt8) (hl : as1.length = bs.length) : ((List.range as1.length).all fun i => as1[i]? == bs[i]?) = (as1 == bs) := by
  rw [Bool.eq_iff_iff]
  simp only [List.all_eq_true, List.mem_range, beq_iff_eq]
  constructor
  · intro h
    apply List.ext_getElem?
    intro i
    by_cases hi : i < as1.length
    · exact h i hi
    · rw [List.getElem?_eq_none (by omega), List.getElem?_eq_none (by omega)]
  · rintro rfl i _
    rfl

theorem run_equalA (d : Nat) {t e : TypeId} {n : Nat} {i : TypeInfo} (hu : P.underlying t = some (.array n e)) (hi : P.info? e = some i) (h1 : P.cellsOf e = 1) (he : P.underlying e = some (.int .u8)) (as1 bs : List UInt8) (ha : as1.length = n) (hb : bs.length = n) :
    (Op.equalIn (d + 2) t (.agg (as1.map fun b => Value.int .u8 b.toNat).toArray) (.agg (bs.map fun b => Value.int .u8 b.toNat).toArray)).run P w = .ok (as1 == bs) w := by
  rw [run_equalIn_array w (d + 1) _ _ hu hi, h1, run_eqItems_bytes d he as1 bs (by omega) _ (by simp [ha]), ← ha, all_range_eq as1 bs (by omega)]

section
variable {ops : Array Oper} {rest : List Oper} {o : Oper} {a : Act} {Q : Exit → Act → World → Prop}
theorem wpl_eqA {t e t' : TypeId} {x y : Operand} (ho : o.op = .binOp .eql t x y t') (hw : Region.wanted o (yielded ops a.tmps) = true) {ys zs : List UInt8} {n : Nat}
    (hx : a.eval x = .agg (ys.map fun b => Value.int .u8 b.toNat).toArray) (hy : a.eval y = .agg (zs.map fun b => Value.int .u8 b.toNat).toArray)
    (hm : P.eqGuardType P.depth t = false) (hu : P.underlying t = some (.array n e)) (hi : (P.info? e).isSome = true) (h1 : P.cellsOf e = 1) (he : P.underlying e = some (.int .u8)) (ha : ys.length = n) (hb : zs.length = n)
    (h : wpList P ops Q rest (a.put o.dst (.bool (ys == zs))) w) : wpList P ops Q (o :: rest) a w := by
  obtain ⟨i, hi⟩ := Option.isSome_iff_exists.1 hi
  refine wpl_run hw (w' := w) (v := .bool (ys == zs)) ?_ h
  simp [execOp, ho, hx, hy, run_eqGuard_agg _ _ _ _ _ _ _ hm, run_eql_struct, run_equalA 9998 hu hi h1 he ys zs ha hb]

theorem wpl_neA {t e t' : TypeId} {x y : Operand} (ho : o.op = .binOp .neq t x y t') (hw : Region.wanted o (yielded ops a.tmps) = true) {ys zs : List UInt8} {n : Nat}
    (hx : a.eval x = .agg (ys.map fun b => Value.int .u8 b.toNat).toArray) (hy : a.eval y = .agg (zs.map fun b => Value.int .u8 b.toNat).toArray)
    (hm : P.eqGuardType P.depth t = false) (hu : P.underlying t = some (.array n e)) (hi : (P.info? e).isSome = true) (h1 : P.cellsOf e = 1) (he : P.underlying e = some (.int .u8)) (ha : ys.length = n) (hb : zs.length = n)
    (h : wpList P ops Q rest (a.put o.dst (.bool (!(ys == zs)))) w) : wpList P ops Q (o :: rest) a w := by
  obtain ⟨i, hi⟩ := Option.isSome_iff_exists.1 hi
  refine wpl_run hw (w' := w) (v := .bool (!(ys == zs))) ?_ h
  simp [execOp, ho, hx, hy, run_eqGuard_agg _ _ _ _ _ _ _ hm, run_neq_struct, run_equalA 9998 hu hi h1 he ys zs ha hb]
end
end
end Go.SL
namespace Go.SL
open Go.ChangeShapes Go.WideShapes Go.Deep Go.RowKit

theorem cell_lt {w : World} {p : Addr} {v : Value} (h : w.cell? p = some v) : p.block < w.heap.size := by
  by_cases hb : p.block < w.heap.size
  · exact hb
  · have : w.heap[p.block]? = none := by rw [Array.getElem?_eq_none_iff]; omega
    simp [World.cell?, this] at h

theorem reads_below {W w : World} {v : Value} {n : Nat} {xs : List Value} (bel : Below W.heap.size W w) (hr : reads v n xs W) : reads v n xs w := by
  obtain ⟨ao, c, rfl, h1, h2⟩ := hr
  refine ⟨ao, c, rfl, h1, fun ad had j u hu => ?_⟩
  have h := h2 ad had j u hu
  rw [bel.cell (cell_lt h)]
  exact h

theorem knows_start {W : World} {v : Value} {n : Nat} {xs : List Value} (hr : reads v n xs W) : Knows [rest W fun _ => False] (reads v n xs) :=
  fun _ hE => reads_below (hE.below 0 rfl) hr

theorem choose_list {α : Type} (q : Nat → α → Prop) : ∀ n : Nat, (∀ i, i < n → ∃ x, q i x) → ∃ xs : List α, xs.length = n ∧ ∀ i x, xs[i]? = some x → q i x
  | 0, _ => ⟨[], rfl, fun i x h => by simp at h⟩
  | n + 1, h => by
    obtain ⟨xs, h1, h2⟩ := choose_list q n (fun i hi => h i (by omega))
    obtain ⟨y, hy⟩ := h n (by omega)
    refine ⟨xs ++ [y], by simp [h1], fun i x hx => ?_⟩
    by_cases hi : i < xs.length
    · rw [List.getElem?_append_left hi] at hx
      exact h2 i x hx
    · rw [List.getElem?_append_right (by omega)] at hx
      have : i - xs.length = 0 := by
        have := (List.getElem?_eq_some_iff.1 hx).1
        simp at this
        omega
      rw [this] at hx
      simp at hx
      subst hx
      rwa [show i = n by omega]

theorem flatMap_get {α : Type} (f : α → List Value) (k : Nat) (hk : ∀ x, (f x).length = k) : ∀ (xs : List α) (j : Nat) (u : Value), (xs.flatMap f)[j]? = some u → 0 < k → ∃ x, xs[j / k]? = some x ∧ (f x)[j % k]? = some u
  | [], j, u, h, _ => by simp at h
  | x :: xs, j, u, h, h0 => by
    rw [List.flatMap_cons] at h
    by_cases hj : j < k
    · rw [List.getElem?_append_left (by rw [hk]; exact hj)] at h
      refine ⟨x, by rw [Nat.div_eq_of_lt hj]; rfl, by rw [Nat.mod_eq_of_lt hj]; exact h⟩
    · rw [List.getElem?_append_right (by rw [hk]; omega), hk] at h
      obtain ⟨y, h1, h2⟩ := flatMap_get f k hk xs (j - k) u h h0
      refine ⟨y, ?_, ?_⟩
      · rw [show j / k = (j - k) / k + 1 by rw [Nat.div_eq_sub_div h0 (by omega)]]
        simpa using h1
      · rw [show j % k = (j - k) % k by rw [Nat.mod_eq_sub_mod (by omega)]]
        exact h2

theorem flatMap_len {α : Type} (f : α → List Value) (k : Nat) (hk : ∀ x, (f x).length = k) : ∀ xs : List α, (xs.flatMap f).length = xs.length * k
  | [] => by simp
  | x :: xs => by rw [List.flatMap_cons, List.length_append, hk, flatMap_len f k hk xs, List.length_cons, Nat.succ_mul, Nat.add_comm]

theorem flatMap_at {α : Type} (f : α → List Value) (k : Nat) (hk : ∀ x, (f x).length = k) (xs : List α) (i j : Nat) (x : α) (u : Value) (hx : xs[i]? = some x) (hu : (f x)[j]? = some u) : (xs.flatMap f)[i * k + j]? = some u := by
  induction xs generalizing i with
  | nil => simp at hx
  | cons y ys ih =>
    have hj : j < k := by rw [← hk x]; exact (List.getElem?_eq_some_iff.1 hu).1
    rw [List.flatMap_cons]
    cases i with
    | zero =>
      simp at hx
      subst hx
      rw [List.getElem?_append_left (by rw [hk]; omega)]
      simpa using hu
    | succ i =>
      rw [List.getElem?_append_right (by rw [hk]; rw [Nat.succ_mul]; omega), hk, show (i + 1) * k + j - k = i * k + j by rw [Nat.succ_mul]; omega]
      exact ih i (by simpa using hx)

section
variable {H : Type} {enc : TypeId × Value → H} {P : Program} {w : World} {held : Bool}

/-- a slice that came in, read by its elements -/
theorem open_row {t e : TypeId} {r : Reach} {b0 : Nat} {v : Value} {d : DataW H} {ps : List MemPlace} (ht : P.underlying t = some (.slice e)) {α : Type} (cells : α → List Value) (good : α → Prop) {k : Nat} (hk : ∀ x, (cells x).length = k) (h0 : 0 < k) (hC : P.cellsOf e = k)
    (hval : Value.okWide P w r b0 t v) (h : DataW.Trod enc P w 0 (fun _ => true) held t v d ps)
    (hel : ∀ (m : Nat) (cs : List Value) (y : DataW H × List MemPlace), cs.length = k → DataW.trod enc P w 0 (fun _ => true) held m e cs = some y → ∃ x, good x ∧ cs = cells x) :
    ∃ (ao : Option Addr) (c : Nat) (xs : List α), v = .slice ao xs.length c ∧ xs.length ≤ c ∧ c ≤ maxLen ∧ (∀ x ∈ xs, good x) ∧ reads v xs.length (xs.flatMap cells) w := by
  obtain ⟨ao, len, cap, rfl⟩ := okWide_slice ht hval
  obtain ⟨fuel, hf⟩ := h
  rcases open_slice ht hf with ⟨hcs, _⟩ | ⟨a, l, c, m, n, D, Pl, hcs, _, hl, hm, hmm, _, hi⟩
  · simp [Value.cells] at hcs
    obtain ⟨rfl, rfl, rfl⟩ := hcs
    exact ⟨none, 0, [], rfl, Nat.le_refl _, Nat.zero_le _, by simp, reads_nil 0 0 rfl w⟩
  · simp [Value.cells] at hcs
    obtain ⟨rfl, rfl, rfl⟩ := hcs
    simp at hmm
    subst hmm
    obtain ⟨xs, h1, h2⟩ := choose_list (fun i x => good x ∧ ∀ j u, (cells x)[j]? = some u → w.cell? (a.add (i * k + j)) = some u) len (fun i hil => by
      obtain ⟨cs', hc, htr⟩ := hi i (by omega)
      rw [hC] at hc
      obtain ⟨_, hcl, hat⟩ := World.cells?_some hc
      obtain ⟨x, hg, rfl⟩ := hel n cs' _ hcl htr
      refine ⟨x, hg, fun j u hu => ?_⟩
      rw [← Go.Deep.add_add, hat j (by rw [← hcl]; exact (List.getElem?_eq_some_iff.1 hu).1)]
      exact hu)
    subst h1
    refine ⟨some a, _, xs, rfl, hl, hm, fun x hx => ?_, some a, _, rfl, fun h => (by cases h), fun ad had j u hu => ?_⟩
    · obtain ⟨i, hi'⟩ := List.getElem?_of_mem hx
      exact (h2 i x hi').1
    · cases had
      obtain ⟨x, hx, hu'⟩ := flatMap_get cells k hk xs j u hu h0
      have := (h2 _ _ hx).2 _ _ hu'
      rwa [show j / k * k + j % k = j by rw [Nat.mul_comm]; exact Nat.div_add_mod j k] at this

/-- a slice of bytes that came in -/
theorem open_bytes {t e : TypeId} {r : Reach} {b0 : Nat} {v : Value} {d : DataW H} {ps : List MemPlace} (ht : P.underlying t = some (.slice e)) (he : P.underlying e = some (.int .u8)) (hC : P.cellsOf e = 1)
    (hval : Value.okWide P w r b0 t v) (h : DataW.Trod enc P w 0 (fun _ => true) held t v d ps) :
    ∃ (ao : Option Addr) (c : Nat) (bs : List UInt8), v = .slice ao bs.length c ∧ bs.length ≤ c ∧ c ≤ maxLen ∧ reads v bs.length (bs.map fun b => Value.int .u8 b.toNat) w := by
  obtain ⟨ao, c, xs, h1, h2, h3, _, h4⟩ := open_row ht (fun b : UInt8 => [Value.int .u8 (b.toNat : Int)]) (fun _ => True) (k := 1) (fun _ => rfl) (by omega) hC hval h (fun m cs y hl hy => by
    obtain ⟨n, rfl, _, hw⟩ := DataW.trod_int he hy
    refine ⟨UInt8.ofNat n.toNat, trivial, ?_⟩
    obtain ⟨h1, h2⟩ : 0 ≤ n ∧ n ≤ 255 := by simpa [Lit.wf, IntKind.min, IntKind.max, IntKind.signed, IntKind.bits] using hw
    rw [UInt8.toNat_ofNat', show n.toNat % 2 ^ 8 = n.toNat by omega, Int.toNat_of_nonneg h1])
  refine ⟨ao, c, xs, h1, h2, h3, ?_⟩
  have e : ∀ l : List UInt8, l.flatMap (fun b => [Value.int .u8 (b.toNat : Int)]) = l.map fun b => Value.int .u8 b.toNat := by
    intro l
    induction l with
    | nil => rfl
    | cons x l ih => simp [List.flatMap_cons, ih]
  rwa [e] at h4
end
end Go.SL
namespace Go.Proofs.YtehfbokkcamliaaDoor
open Go.RowKit Go.SL

def bval (u : UInt8) : Value := .int .u8 u.toNat
def bvals (l : List UInt8) : List Value := l.map bval

abbrev rowB (ao : Option Addr) (c : Nat) (bs : List UInt8) : HProp := row 5 1 (.slice ao bs.length c) bs.length (bvals bs)
theorem infoB : (Tryd.prog.info? 5).map (fun i => (i.zero, i.size, i.bytes)) = some (some (.int .u8 0), 1, 1) := by kernel_rfl
theorem bvals_append (a b : List UInt8) : bvals (a ++ b) = bvals a ++ bvals b := by simp [bvals]
theorem bvals_length (a : List UInt8) : (bvals a).length = a.length := by simp [bvals]
theorem bvals_one (a : List UInt8) : ∀ u ∈ bvals a, u.oneCell' = true := by
  intro u hu
  obtain ⟨_, _, rfl⟩ := List.mem_map.1 hu
  rfl

/-- append of bytes onto an owned row -/
theorem wpl_appendB {ops : Array Oper} {rest : List Oper} {o : Oper} {a : Act} {Q : Exit → Act → World → Prop} {w : World} {l : List HProp} (hE : Ent l w) (k : Nat) {ao : Option Addr} {c : Nat} {bs : List UInt8}
    (hk : l[k]? = some (rowB ao c bs)) {s y : Operand} (ho : o.op = .call { callee := .builtin .append, args := #[s, y], argTypes := #[52, 52] }) (hw : Region.wanted o (yielded ops a.tmps) = true)
    (hs : a.eval s = .slice ao bs.length c) {x : Value} (hy : a.eval y = x) {ys : List UInt8} (hx : reads x ys.length (bvals ys) w) (hb : bs.length + ys.length ≤ 1099511627776)
    (h : ∀ ao' c' w', Ent (l.set k (rowB ao' c' (bs ++ ys))) w' → wpList Tryd.prog ops Q rest (a.put o.dst (.slice ao' (bs ++ ys).length c')) w') : wpList Tryd.prog ops Q (o :: rest) a w := by
  obtain ⟨i, hi, hz0, hz1, hz2⟩ := info_parts infoB
  refine wpl_append hE k hk ho hw hs hy Tryd.underlying52 hi hz0 hz1 hz2 rfl (by decide) hx (by simp [bvals_length]) (bvals_one ys) (by unfold maxLen; omega) (by omega) ?_
  intro ao' c' w' hE'
  have h' := h ao' c' w'
  rw [rowB, bvals_append, List.length_append] at h'
  exact h' hE'

theorem step_appendB {ops : Array Oper} {o : Oper} {a : Act} {K : Act → World → Prop} {Q : Exit → Act → World → Prop} {E : Prop} {w : World} {l : List HProp} (hE : Ent l w) (k : Nat) {ao : Option Addr} {c : Nat} {bs : List UInt8}
    (hk : l[k]? = some (rowB ao c bs)) {s y : Operand} (ho : o.op = .call { callee := .builtin .append, args := #[s, y], argTypes := #[52, 52] }) (hw : Region.wanted o (yielded ops a.tmps) = true)
    (hs : a.eval s = .slice ao bs.length c) {x : Value} (hy : a.eval y = x) {ys : List UInt8} (hx : reads x ys.length (bvals ys) w) (hb : bs.length + ys.length ≤ 1099511627776)
    (h : ∀ ao' c' w', Ent (l.set k (rowB ao' c' (bs ++ ys))) w' → K (a.put o.dst (.slice ao' (bs ++ ys).length c')) w') : if Region.wanted o (yielded ops a.tmps) = true then Oper.wp Tryd.prog o a w K Q else E := by
  obtain ⟨i, hi, hz0, hz1, hz2⟩ := info_parts infoB
  rw [if_pos hw]
  obtain ⟨ao', c', w', hr, hE'⟩ := hE.append (P := Tryd.prog) o.type k hk Tryd.underlying52 hi hz0 hz1 hz2 rfl (by decide) hx (by simp [bvals_length]) (bvals_one ys) (by unfold maxLen; omega) (by omega)
  unfold Oper.wp execOp
  simp only [ho, resolve, invoke, builtin, Sem.run_bind, Sem.run_pure, Result.andThen_ok, List.map_toArray, List.map_cons, List.map_nil, hs, hy, hr]
  have h' := h ao' c' w'
  rw [rowB, bvals_append, List.length_append] at h'
  exact h' hE'

/-- one byte in a new block, as an owned row -/
theorem Ent.rowB1 {w : World} {l : List HProp} (hE : Ent l w) (x : UInt8) (v : Value) (hv : v = bval x) : Ent (rowB (some ⟨w.heap.size, 0, none⟩) 1 [x] :: l) (w.alloc (.cells #[v] 5)) :=
  (hE.alloc _).toRow 0 rfl (by simp [bvals]) (by simp) (by unfold maxLen; omega) (by simp) (by simp [bvals, hv])

def Ret (Φ : Value → World → Prop) (e : Ending) (w : World) : Prop := ∃ v, e = .returned v ∧ Φ v w
end Go.Proofs.YtehfbokkcamliaaDoor
namespace Go.Proofs.YtehfbokkcamliaaDoor
open Go.RowKit Go.SL

def packer (p : Nat) (bs : List UInt8) (err : Int) : HProp := ex fun x : Option Addr × Nat => [pt p (.cells #[.slice x.1 bs.length x.2, .int .i64 err] 165), rowB x.1 x.2 bs]

theorem packer_open {l : List HProp} {w : World} {p : Nat} {bs : List UInt8} {err : Int} (hE : Ent (packer p bs err :: l) w) :
    ∃ ao c, Ent (pt p (.cells #[.slice ao bs.length c, .int .i64 err] 165) :: rowB ao c bs :: l) w := let ⟨x, h⟩ := Ent.unpack hE; ⟨x.1, x.2, h⟩
theorem packer_close {l : List HProp} {w : World} {p : Nat} {bs : List UInt8} {err : Int} {ao : Option Addr} {c : Nat}
    (hE : Ent (pt p (.cells #[.slice ao bs.length c, .int .i64 err] 165) :: rowB ao c bs :: l) w) : Ent (packer p bs err :: l) w := Ent.pack (ao, c) hE
theorem packer_new {l : List HProp} {w : World} {p : Nat} (hE : Ent (pt p (.cells #[.slice none 0 0, .int .i64 0] 165) :: l) w) : Ent (packer p [] 0 :: l) w :=
  packer_close ((hE.nil _ _).perm (.swap _ _ _))


set_option maxHeartbeats 400000 in
theorem New_any {l : List HProp} {w : World} (hE : Ent l w) :
    Calls Tryd.prog 69 #[] w (Ret fun v w' => ∃ p, v = .pointer (some ⟨p, 0, none⟩) ∧ Ent (packer p [] 0 :: l) w') := by
  go_enter Tryd.func69, Tryd.ntmps69
  go_wp2_with (first | ((with_reducible (show Go.wpList _ _ _ (Go.Oper.mk _ (.load _ _) _ _ _ _ :: _) _ _)); first | (refine wpl_load1 hE 0 rfl rfl rfl rfl (by simp [go_sem]) rfl ?_) | (refine wpl_load1 hE 1 rfl rfl rfl rfl (by simp [go_sem]) rfl ?_) | (refine wpl_load1 hE 2 rfl rfl rfl rfl (by simp [go_sem]) rfl ?_) | (refine wpl_load1 hE 3 rfl rfl rfl rfl (by simp [go_sem]) rfl ?_) | (refine wpl_load1 hE 4 rfl rfl rfl rfl (by simp [go_sem]) rfl ?_) | (refine wpl_load1 hE 5 rfl rfl rfl rfl (by simp [go_sem]) rfl ?_)) | ((with_reducible (show Go.wpList _ _ _ (Go.Oper.mk _ (.box _ _) _ _ _ _ :: _) _ _)); refine wpl_box hE rfl rfl rfl ?_; clear hE; intro b w hE; simp only [Act.eval, Act.put, List.setIfInBounds_toArray, List.set_cons_zero, List.set_cons_succ, getD_lit, List.getD_cons_succ, List.getD_cons_zero, Value.cells] at hE))
  go_ret
  refine ⟨_, rfl, _, rfl, ?_⟩
  exact packer_new hE
end Go.Proofs.YtehfbokkcamliaaDoor
namespace Go.Proofs.YtehfbokkcamliaaDoor
open Go.RowKit Go.SL

def be : Nat → Nat → List UInt8
  | 0, _ => []
  | w + 1, n => UInt8.ofNat (n / 256 ^ w) :: be w n

theorem be_val (n k : Nat) : bvals [UInt8.ofNat (n / 256 ^ k)] = [.int .u8 ((n : Int) / 2 ^ (8 * k) % 256)] := by
  simp only [bvals, List.map_cons, List.map_nil, bval, UInt8.toNat_ofNat']
  congr 2
  rw [show (256 : Nat) = 2 ^ 8 from rfl, ← Nat.pow_mul]
  simp

/-- a closure that makes bytes -/
def Makes (k : FuncId) (caps : Array Value) (l : List HProp) (ys : List UInt8) : Prop :=
  ∀ (m : List HProp) (w : World), Ent (m ++ l) w → Calls Tryd.prog k caps w (Ret fun v w' => Ent (m ++ l) w' ∧ reads v ys.length (bvals ys) w')

def PutRel (width n : Nat) (l : List HProp) (sv i : Value) (wr : World) : Prop :=
  ∃ (dn : List UInt8) (k : Nat) (ao : Option Addr) (c : Nat), sv = .slice ao dn.length c ∧ dn.length + k ≤ 8 ∧ dn ++ be k n = be width n ∧ i = .int .i64 ((k : Int) - 1) ∧ Ent (rowB ao c dn :: l) wr

set_option maxRecDepth 100000 in
set_option maxHeartbeats 400000 in
theorem Put1_any (bw bn : Nat) (width n : Nat) (hw : width ≤ 8) (l : List HProp) (i j : Nat)
   (hi : l[i]? = some (pt bw (.cells #[.int .i64 width] 3))) (hj : l[j]? = some (pt bn (.cells #[.int .u64 n] 58))) : Makes 96 #[.pointer (some ⟨bw, 0, none⟩), .pointer (some ⟨bn, 0, none⟩)] l (be width n) := by
  intro m w hE
  have hcw : ∀ w, Ent (m ++ l) w → w.cell? ⟨bw, 0, none⟩ = some (.int .i64 width) := fun w h => by have := h.drop.cell i hi 0; simpa using this
  have hcn : ∀ w, Ent (m ++ l) w → w.cell? ⟨bn, 0, none⟩ = some (.int .u64 n) := fun w h => by have := h.drop.cell j hj 0; simpa using this
  have c1 := hcw w hE
  go_enter Tryd.func96, Tryd.ntmps96
  go_wp2
  clear c1
  go_loopw [3, 4] (fun sv i wr => PutRel width n (m ++ l) sv i wr) (fun _ i _ => (intOf i + 1).toNat)
  case atStart => exact ⟨[], width, none, 0, rfl, by simpa using hw, rfl, rfl, hE.nil _ _⟩
  case round =>
    obtain ⟨dn, k, ao, c, rfl, hk, hdn, rfl, hEr⟩ := hrel
    have c2 := hcn _ hEr.tail
    clear hcw hcn hi hj
    have Hdn := SL.hid hdn
    clear hdn
    rcases k with _ | k
    · go_wp2
      go_ret
      have hd := Hdn.out
      simp only [be, List.append_nil] at hd
      subst hd
      exact ⟨_, rfl, hEr.tail, reads_row hEr 0 rfl⟩
    · have hby : bvals [UInt8.ofNat (n / 256 ^ k)] = [.int .u8 ((n : Int) / 2 ^ (8 * k) % 256)] := be_val n k
      go_wp2_with (at_builtin; refine wpl_appendB (hEr.alloc _) 1 rfl rfl rfl rfl rfl (ys := [UInt8.ofNat (n / 256 ^ k)]) (reads_pt (hEr.alloc _) 0 rfl (by rw [hby]; simp)) (by simp; omega) ?_; intro ao' c' w1 hE1)
      go_roundw
      case rel => exact ⟨dn ++ [UInt8.ofNat (n / 256 ^ k)], k, ao', c', by simp, by simp; omega, by rw [← Hdn.out]; simp [be], rfl, hE1.tail⟩
      case measure => simp [intOf]
end Go.Proofs.YtehfbokkcamliaaDoor
namespace Go.Proofs.YtehfbokkcamliaaDoor
open Go.RowKit Go.SL

def orLimit (err : Int) : Int := if err = 0 then 6 else err

theorem puts_nil (k : FuncId) (caps : Array Value) (may : Bool) (w : World) :
    Calls Tryd.prog 95 #[.pointer none, .bool may, .func (.func k) #[] caps] w (fun e w' => e = .returned (.pointer none) ∧ w = w') := by
  go_enter Tryd.func95, Tryd.ntmps95
  go_wp2
  go_ret
  exact ⟨rfl, rfl⟩

set_option maxRecDepth 100000 in
set_option maxHeartbeats 400000 in
theorem puts_not (k : FuncId) (caps : Array Value) {l : List HProp} {w : World} {p : Nat} {bs : List UInt8} {err : Int} (hE : Ent (packer p bs err :: l) w) :
    Calls Tryd.prog 95 #[.pointer (some ⟨p, 0, none⟩), .bool false, .func (.func k) #[] caps] w (Ret fun v w' => v = .pointer (some ⟨p, 0, none⟩) ∧ Ent (packer p bs (orLimit err) :: l) w') := by
  obtain ⟨ao, c, hE⟩ := packer_open hE
  go_enter Tryd.func95, Tryd.ntmps95
  by_cases he : (err == 0) = true
  · go_wp2_with (first | ((with_reducible (show Go.wpList _ _ _ (Go.Oper.mk _ (.load _ _) _ _ _ _ :: _) _ _)); first | (refine wpl_load1 hE 0 rfl rfl rfl rfl (by simp [go_sem]) rfl ?_) | (refine wpl_load1 hE 1 rfl rfl rfl rfl (by simp [go_sem]) rfl ?_) | (refine wpl_load1 hE 2 rfl rfl rfl rfl (by simp [go_sem]) rfl ?_) | (refine wpl_load1 hE 3 rfl rfl rfl rfl (by simp [go_sem]) rfl ?_) | (refine wpl_load1 hE 4 rfl rfl rfl rfl (by simp [go_sem]) rfl ?_) | (refine wpl_load1 hE 5 rfl rfl rfl rfl (by simp [go_sem]) rfl ?_)) | ((with_reducible (show Go.wpList _ _ _ (Go.Oper.mk _ (.store _ _ _) _ _ _ _ :: _) _ _)); first | (refine wpl_store hE 0 rfl rfl rfl rfl rfl (by simp [go_sem]; rfl) (by rfl) (by simp [Value.cells, Value.oneCell', Act.eval]) (by simp) ?_; clear hE; intro w hE; simp only [Act.eval, getD_lit, List.getD_cons_succ, List.getD_cons_zero, Value.cells, List.set_cons_zero, List.set_cons_succ, List.take_succ_cons, List.take_zero, List.nil_append, List.cons_append, List.drop_succ_cons, List.drop_zero, List.length_cons, List.length_nil, Nat.reduceAdd, Nat.zero_add] at hE) | (refine wpl_store hE 1 rfl rfl rfl rfl rfl (by simp [go_sem]; rfl) (by rfl) (by simp [Value.cells, Value.oneCell', Act.eval]) (by simp) ?_; clear hE; intro w hE; simp only [Act.eval, getD_lit, List.getD_cons_succ, List.getD_cons_zero, Value.cells, List.set_cons_zero, List.set_cons_succ, List.take_succ_cons, List.take_zero, List.nil_append, List.cons_append, List.drop_succ_cons, List.drop_zero, List.length_cons, List.length_nil, Nat.reduceAdd, Nat.zero_add] at hE) | (refine wpl_store hE 2 rfl rfl rfl rfl rfl (by simp [go_sem]; rfl) (by rfl) (by simp [Value.cells, Value.oneCell', Act.eval]) (by simp) ?_; clear hE; intro w hE; simp only [Act.eval, getD_lit, List.getD_cons_succ, List.getD_cons_zero, Value.cells, List.set_cons_zero, List.set_cons_succ, List.take_succ_cons, List.take_zero, List.nil_append, List.cons_append, List.drop_succ_cons, List.drop_zero, List.length_cons, List.length_nil, Nat.reduceAdd, Nat.zero_add] at hE) | (refine wpl_store hE 3 rfl rfl rfl rfl rfl (by simp [go_sem]; rfl) (by rfl) (by simp [Value.cells, Value.oneCell', Act.eval]) (by simp) ?_; clear hE; intro w hE; simp only [Act.eval, getD_lit, List.getD_cons_succ, List.getD_cons_zero, Value.cells, List.set_cons_zero, List.set_cons_succ, List.take_succ_cons, List.take_zero, List.nil_append, List.cons_append, List.drop_succ_cons, List.drop_zero, List.length_cons, List.length_nil, Nat.reduceAdd, Nat.zero_add] at hE) | (refine wpl_store hE 4 rfl rfl rfl rfl rfl (by simp [go_sem]; rfl) (by rfl) (by simp [Value.cells, Value.oneCell', Act.eval]) (by simp) ?_; clear hE; intro w hE; simp only [Act.eval, getD_lit, List.getD_cons_succ, List.getD_cons_zero, Value.cells, List.set_cons_zero, List.set_cons_succ, List.take_succ_cons, List.take_zero, List.nil_append, List.cons_append, List.drop_succ_cons, List.drop_zero, List.length_cons, List.length_nil, Nat.reduceAdd, Nat.zero_add] at hE) | (refine wpl_store hE 5 rfl rfl rfl rfl rfl (by simp [go_sem]; rfl) (by rfl) (by simp [Value.cells, Value.oneCell', Act.eval]) (by simp) ?_; clear hE; intro w hE; simp only [Act.eval, getD_lit, List.getD_cons_succ, List.getD_cons_zero, Value.cells, List.set_cons_zero, List.set_cons_succ, List.take_succ_cons, List.take_zero, List.nil_append, List.cons_append, List.drop_succ_cons, List.drop_zero, List.length_cons, List.length_nil, Nat.reduceAdd, Nat.zero_add] at hE)))
    go_ret
    refine ⟨_, rfl, rfl, ?_⟩
    simpa [orLimit, show err = 0 by simpa using he] using packer_close hE
  · have he' : (err == 0) = false := by simpa using he
    go_wp2_with (first | ((with_reducible (show Go.wpList _ _ _ (Go.Oper.mk _ (.load _ _) _ _ _ _ :: _) _ _)); first | (refine wpl_load1 hE 0 rfl rfl rfl rfl (by simp [go_sem]) rfl ?_) | (refine wpl_load1 hE 1 rfl rfl rfl rfl (by simp [go_sem]) rfl ?_) | (refine wpl_load1 hE 2 rfl rfl rfl rfl (by simp [go_sem]) rfl ?_) | (refine wpl_load1 hE 3 rfl rfl rfl rfl (by simp [go_sem]) rfl ?_) | (refine wpl_load1 hE 4 rfl rfl rfl rfl (by simp [go_sem]) rfl ?_) | (refine wpl_load1 hE 5 rfl rfl rfl rfl (by simp [go_sem]) rfl ?_)) | ((with_reducible (show Go.wpList _ _ _ (Go.Oper.mk _ (.store _ _ _) _ _ _ _ :: _) _ _)); first | (refine wpl_store hE 0 rfl rfl rfl rfl rfl (by simp [go_sem]; rfl) (by rfl) (by simp [Value.cells, Value.oneCell', Act.eval]) (by simp) ?_; clear hE; intro w hE; simp only [Act.eval, getD_lit, List.getD_cons_succ, List.getD_cons_zero, Value.cells, List.set_cons_zero, List.set_cons_succ, List.take_succ_cons, List.take_zero, List.nil_append, List.cons_append, List.drop_succ_cons, List.drop_zero, List.length_cons, List.length_nil, Nat.reduceAdd, Nat.zero_add] at hE) | (refine wpl_store hE 1 rfl rfl rfl rfl rfl (by simp [go_sem]; rfl) (by rfl) (by simp [Value.cells, Value.oneCell', Act.eval]) (by simp) ?_; clear hE; intro w hE; simp only [Act.eval, getD_lit, List.getD_cons_succ, List.getD_cons_zero, Value.cells, List.set_cons_zero, List.set_cons_succ, List.take_succ_cons, List.take_zero, List.nil_append, List.cons_append, List.drop_succ_cons, List.drop_zero, List.length_cons, List.length_nil, Nat.reduceAdd, Nat.zero_add] at hE) | (refine wpl_store hE 2 rfl rfl rfl rfl rfl (by simp [go_sem]; rfl) (by rfl) (by simp [Value.cells, Value.oneCell', Act.eval]) (by simp) ?_; clear hE; intro w hE; simp only [Act.eval, getD_lit, List.getD_cons_succ, List.getD_cons_zero, Value.cells, List.set_cons_zero, List.set_cons_succ, List.take_succ_cons, List.take_zero, List.nil_append, List.cons_append, List.drop_succ_cons, List.drop_zero, List.length_cons, List.length_nil, Nat.reduceAdd, Nat.zero_add] at hE) | (refine wpl_store hE 3 rfl rfl rfl rfl rfl (by simp [go_sem]; rfl) (by rfl) (by simp [Value.cells, Value.oneCell', Act.eval]) (by simp) ?_; clear hE; intro w hE; simp only [Act.eval, getD_lit, List.getD_cons_succ, List.getD_cons_zero, Value.cells, List.set_cons_zero, List.set_cons_succ, List.take_succ_cons, List.take_zero, List.nil_append, List.cons_append, List.drop_succ_cons, List.drop_zero, List.length_cons, List.length_nil, Nat.reduceAdd, Nat.zero_add] at hE) | (refine wpl_store hE 4 rfl rfl rfl rfl rfl (by simp [go_sem]; rfl) (by rfl) (by simp [Value.cells, Value.oneCell', Act.eval]) (by simp) ?_; clear hE; intro w hE; simp only [Act.eval, getD_lit, List.getD_cons_succ, List.getD_cons_zero, Value.cells, List.set_cons_zero, List.set_cons_succ, List.take_succ_cons, List.take_zero, List.nil_append, List.cons_append, List.drop_succ_cons, List.drop_zero, List.length_cons, List.length_nil, Nat.reduceAdd, Nat.zero_add] at hE) | (refine wpl_store hE 5 rfl rfl rfl rfl rfl (by simp [go_sem]; rfl) (by rfl) (by simp [Value.cells, Value.oneCell', Act.eval]) (by simp) ?_; clear hE; intro w hE; simp only [Act.eval, getD_lit, List.getD_cons_succ, List.getD_cons_zero, Value.cells, List.set_cons_zero, List.set_cons_succ, List.take_succ_cons, List.take_zero, List.nil_append, List.cons_append, List.drop_succ_cons, List.drop_zero, List.length_cons, List.length_nil, Nat.reduceAdd, Nat.zero_add] at hE)))
    go_ret
    refine ⟨_, rfl, rfl, ?_⟩
    simpa [orLimit, show err ≠ 0 by simpa using he'] using packer_close hE
attribute [local go_sem ↓] Go.wp_at_zero Go.wp_at_succ

set_option maxRecDepth 100000 in
set_option maxHeartbeats 400000 in
theorem puts_may {k : FuncId} {caps : Array Value} {ys : List UInt8} {l : List HProp} {w : World} {p : Nat} {bs : List UInt8} {err : Int} (hk : ∀ (args : Array Value) (w : World), (callFunc k args).run Tryd.prog w = .ok (.enter k args) w) (hmk : Makes k caps l ys) (hE : Ent (packer p bs err :: l) w) (hb : bs.length + ys.length ≤ 1099511627776) :
    Calls Tryd.prog 95 #[.pointer (some ⟨p, 0, none⟩), .bool true, .func (.func k) #[] caps] w (Ret fun v w' => v = .pointer (some ⟨p, 0, none⟩) ∧ Ent (packer p (bs ++ ys) err :: l) w') := by
  obtain ⟨ao, c, hE⟩ := packer_open hE
  have c0 := hE.cell 0 rfl 0
  have c1 := hE.cell 0 rfl 1
  simp only [List.getElem?_toArray, List.getElem?_cons_zero, List.getElem?_cons_succ] at c0 c1
  go_enter Tryd.func95, Tryd.ntmps95
  go_wp2_with (fail)
  have hmk' := hmk [pt p (.cells #[.slice ao bs.length c, .int .i64 err] 165), rowB ao c bs]
  have f0 := hE.frozen 0 rfl 0
  go_region_law (first | ((refine step_appendB hE1 1 rfl (by rfl) (by rfl) (by rfl) (by rfl) hr1 hb ?_); (intro ao2 c2 w2 hE2; have d0 : w2.cell? ⟨p, 0, none⟩ = some (.slice ao bs.length c) := hE2.cell 0 rfl 0; have d1 : w2.frozen? ⟨p, 0, none⟩ = false := hE2.frozen 0 rfl 0)) | (go_simp; (refine (hmk' _ ?_).mono ?_); (exact hE.drew); (rintro e w1 ⟨v1, rfl, hE1, hr1⟩); have d0 : w1.cell? ⟨p, 0, none⟩ = some (.slice ao bs.length c) := hE1.cell 0 rfl 0))
  all_goals
    go_wp2
    go_ret
    refine ⟨_, rfl, rfl, packer_close (ao := ao2) (c := c2) ?_⟩
    have h3 := hE2.setCell 0 rfl 0 (.slice ao2 (bs.length + ys.length) c2)
    simp only [List.length_append]
    exact h3

def pbs (may : Bool) (bs ys : List UInt8) : List UInt8 := if may then bs ++ ys else bs
def perr (may : Bool) (err : Int) : Int := if may then err else orLimit err

theorem puts_any {k : FuncId} {caps : Array Value} {ys : List UInt8} {l : List HProp} {w : World} {p : Nat} {bs : List UInt8} {err : Int} (may : Bool) (hk : ∀ (args : Array Value) (w : World), (callFunc k args).run Tryd.prog w = .ok (.enter k args) w) (hmk : may = true → Makes k caps l ys) (hE : Ent (packer p bs err :: l) w) (hb : bs.length + ys.length ≤ 1099511627776) :
    Calls Tryd.prog 95 #[.pointer (some ⟨p, 0, none⟩), .bool may, .func (.func k) #[] caps] w (Ret fun v w' => v = .pointer (some ⟨p, 0, none⟩) ∧ Ent (packer p (pbs may bs ys) (perr may err) :: l) w') := by
  cases may with
  | true => exact puts_may hk (hmk rfl) hE hb
  | false => exact puts_not k caps hE
end Go.Proofs.YtehfbokkcamliaaDoor
namespace Go.Proofs.YtehfbokkcamliaaDoor
open Go.RowKit Go.SL

def wideB (n : Int) : Bool := n == 1 || n == 2 || n == 4 || n == 8

set_option maxHeartbeats 400000 in
theorem wide_any (n : Int) (w : World) : Calls Tryd.prog 61 #[.int .i64 n] w fun e w' => e = .returned (.bool (wideB n)) ∧ w = w' := by
  go_enter Tryd.func61, Tryd.ntmps61
  go_wp2
  all_goals go_ret
  all_goals refine ⟨?_, rfl⟩
  all_goals simp [wideB, *]

theorem wide_is (n : Int) (b : Bool) (h : wideB n = b) (w : World) : Calls Tryd.prog 61 #[.int .i64 n] w fun e w' => e = .returned (.bool b) ∧ w = w' := h ▸ wide_any n w

def numOk (width : Int) (n : Nat) : Bool := wideB width && (width == 8 || n / 256 ^ width.toNat == 0)

theorem numOk1 (n : Nat) : ((n : Int) / 256 == 0) = numOk 1 n := by
  rw [Bool.eq_iff_iff]; simp [numOk, wideB]; omega
theorem numOk2 (n : Nat) : ((n : Int) / 65536 == 0) = numOk 2 n := by
  rw [Bool.eq_iff_iff]; simp [numOk, wideB]; omega
theorem numOk4 (n : Nat) : ((n : Int) / 4294967296 == 0) = numOk 4 n := by
  rw [Bool.eq_iff_iff]; simp [numOk, wideB]; omega

set_option maxRecDepth 100000 in
set_option maxHeartbeats 400000 in
theorem Put_bad (p n : Nat) (width : Int) (hw : wideB width = false) {l : List HProp} {w : World} {bs : List UInt8} {err : Int} (hE : Ent (packer p bs err :: l) w) (hb : bs.length ≤ 1099511627776) :
    Calls Tryd.prog 70 #[.pointer (some ⟨p, 0, none⟩), .int .i64 width, .int .u64 n] w (Ret fun v w' => v = .pointer (some ⟨p, 0, none⟩) ∧ Ent (packer p bs (orLimit err) :: l) w') := by
  go_enter Tryd.func70, Tryd.ntmps70
  go_wp2_with (first | go_skip | ((with_reducible (show Go.wpList _ _ _ (Go.Oper.mk _ (.load _ _) _ _ _ _ :: _) _ _)); first | (refine wpl_load1 hE 0 rfl rfl rfl rfl (by simp [go_sem]) rfl ?_) | (refine wpl_load1 hE 1 rfl rfl rfl rfl (by simp [go_sem]) rfl ?_) | (refine wpl_load1 hE 2 rfl rfl rfl rfl (by simp [go_sem]) rfl ?_) | (refine wpl_load1 hE 3 rfl rfl rfl rfl (by simp [go_sem]) rfl ?_) | (refine wpl_load1 hE 4 rfl rfl rfl rfl (by simp [go_sem]) rfl ?_) | (refine wpl_load1 hE 5 rfl rfl rfl rfl (by simp [go_sem]) rfl ?_)) | ((with_reducible (show Go.wpList _ _ _ (Go.Oper.mk _ (.box _ _) _ _ _ _ :: _) _ _)); refine wpl_box hE rfl rfl rfl ?_; clear hE; intro b w hE; simp only [Act.eval, Act.put, List.setIfInBounds_toArray, List.set_cons_zero, List.set_cons_succ, getD_lit, List.getD_cons_succ, List.getD_cons_zero, Value.cells] at hE) | (go_at_call 61; refine (wide_is _ false hw _).mono ?_; rintro e w2 ⟨rfl, rfl⟩))
  refine (puts_any (ys := []) false Tryd.call96 (by simp) (hE.front 2 rfl) (by simpa using hb)).mono ?_
  rintro e w2 ⟨v, rfl, rfl, hE2⟩
  go_wp2
  go_ret
  exact ⟨_, rfl, rfl, hE2.erase 1 |>.erase 1⟩

set_option maxRecDepth 100000 in
set_option maxHeartbeats 400000 in
theorem Put_1 (p n : Nat) {l : List HProp} {w : World} {bs : List UInt8} {err : Int} (hE : Ent (packer p bs err :: l) w) (hb : bs.length + 8 ≤ 1099511627776) :
    Calls Tryd.prog 70 #[.pointer (some ⟨p, 0, none⟩), .int .i64 1, .int .u64 n] w (Ret fun v w' => v = .pointer (some ⟨p, 0, none⟩) ∧ Ent (packer p (pbs (numOk 1 n) bs (be 1 n)) (perr (numOk 1 n) err) :: l) w') := by
  rw [← numOk1]
  go_enter Tryd.func70, Tryd.ntmps70
  go_wp2_with (first | go_skip | ((with_reducible (show Go.wpList _ _ _ (Go.Oper.mk _ (.load _ _) _ _ _ _ :: _) _ _)); first | (refine wpl_load1 hE 0 rfl rfl rfl rfl (by simp [go_sem]) rfl ?_) | (refine wpl_load1 hE 1 rfl rfl rfl rfl (by simp [go_sem]) rfl ?_) | (refine wpl_load1 hE 2 rfl rfl rfl rfl (by simp [go_sem]) rfl ?_) | (refine wpl_load1 hE 3 rfl rfl rfl rfl (by simp [go_sem]) rfl ?_) | (refine wpl_load1 hE 4 rfl rfl rfl rfl (by simp [go_sem]) rfl ?_) | (refine wpl_load1 hE 5 rfl rfl rfl rfl (by simp [go_sem]) rfl ?_)) | ((with_reducible (show Go.wpList _ _ _ (Go.Oper.mk _ (.box _ _) _ _ _ _ :: _) _ _)); refine wpl_box hE rfl rfl rfl ?_; clear hE; intro b w hE; simp only [Act.eval, Act.put, List.setIfInBounds_toArray, List.set_cons_zero, List.set_cons_succ, getD_lit, List.getD_cons_succ, List.getD_cons_zero, Value.cells] at hE) | (go_at_call 61; refine (wide_is _ true rfl _).mono ?_; rintro e w2 ⟨rfl, rfl⟩))
  refine (puts_any (ys := be 1 n) _ Tryd.call96 (fun _ => Put1_any _ _ 1 n (by omega) _ 1 0 rfl rfl) (hE.front 2 rfl) (by simp [be]; omega)).mono ?_
  rintro e w2 ⟨v, rfl, rfl, hE2⟩
  go_wp2
  go_ret
  exact ⟨_, rfl, rfl, hE2.erase 1 |>.erase 1⟩

set_option maxRecDepth 100000 in
set_option maxHeartbeats 400000 in
theorem Put_2 (p n : Nat) {l : List HProp} {w : World} {bs : List UInt8} {err : Int} (hE : Ent (packer p bs err :: l) w) (hb : bs.length + 8 ≤ 1099511627776) :
    Calls Tryd.prog 70 #[.pointer (some ⟨p, 0, none⟩), .int .i64 2, .int .u64 n] w (Ret fun v w' => v = .pointer (some ⟨p, 0, none⟩) ∧ Ent (packer p (pbs (numOk 2 n) bs (be 2 n)) (perr (numOk 2 n) err) :: l) w') := by
  rw [← numOk2]
  go_enter Tryd.func70, Tryd.ntmps70
  go_wp2_with (first | go_skip | ((with_reducible (show Go.wpList _ _ _ (Go.Oper.mk _ (.load _ _) _ _ _ _ :: _) _ _)); first | (refine wpl_load1 hE 0 rfl rfl rfl rfl (by simp [go_sem]) rfl ?_) | (refine wpl_load1 hE 1 rfl rfl rfl rfl (by simp [go_sem]) rfl ?_) | (refine wpl_load1 hE 2 rfl rfl rfl rfl (by simp [go_sem]) rfl ?_) | (refine wpl_load1 hE 3 rfl rfl rfl rfl (by simp [go_sem]) rfl ?_) | (refine wpl_load1 hE 4 rfl rfl rfl rfl (by simp [go_sem]) rfl ?_) | (refine wpl_load1 hE 5 rfl rfl rfl rfl (by simp [go_sem]) rfl ?_)) | ((with_reducible (show Go.wpList _ _ _ (Go.Oper.mk _ (.box _ _) _ _ _ _ :: _) _ _)); refine wpl_box hE rfl rfl rfl ?_; clear hE; intro b w hE; simp only [Act.eval, Act.put, List.setIfInBounds_toArray, List.set_cons_zero, List.set_cons_succ, getD_lit, List.getD_cons_succ, List.getD_cons_zero, Value.cells] at hE) | (go_at_call 61; refine (wide_is _ true rfl _).mono ?_; rintro e w2 ⟨rfl, rfl⟩))
  refine (puts_any (ys := be 2 n) _ Tryd.call96 (fun _ => Put1_any _ _ 2 n (by omega) _ 1 0 rfl rfl) (hE.front 2 rfl) (by simp [be]; omega)).mono ?_
  rintro e w2 ⟨v, rfl, rfl, hE2⟩
  go_wp2
  go_ret
  exact ⟨_, rfl, rfl, hE2.erase 1 |>.erase 1⟩

set_option maxRecDepth 100000 in
set_option maxHeartbeats 400000 in
theorem Put_4 (p n : Nat) {l : List HProp} {w : World} {bs : List UInt8} {err : Int} (hE : Ent (packer p bs err :: l) w) (hb : bs.length + 8 ≤ 1099511627776) :
    Calls Tryd.prog 70 #[.pointer (some ⟨p, 0, none⟩), .int .i64 4, .int .u64 n] w (Ret fun v w' => v = .pointer (some ⟨p, 0, none⟩) ∧ Ent (packer p (pbs (numOk 4 n) bs (be 4 n)) (perr (numOk 4 n) err) :: l) w') := by
  rw [← numOk4]
  go_enter Tryd.func70, Tryd.ntmps70
  go_wp2_with (first | go_skip | ((with_reducible (show Go.wpList _ _ _ (Go.Oper.mk _ (.load _ _) _ _ _ _ :: _) _ _)); first | (refine wpl_load1 hE 0 rfl rfl rfl rfl (by simp [go_sem]) rfl ?_) | (refine wpl_load1 hE 1 rfl rfl rfl rfl (by simp [go_sem]) rfl ?_) | (refine wpl_load1 hE 2 rfl rfl rfl rfl (by simp [go_sem]) rfl ?_) | (refine wpl_load1 hE 3 rfl rfl rfl rfl (by simp [go_sem]) rfl ?_) | (refine wpl_load1 hE 4 rfl rfl rfl rfl (by simp [go_sem]) rfl ?_) | (refine wpl_load1 hE 5 rfl rfl rfl rfl (by simp [go_sem]) rfl ?_)) | ((with_reducible (show Go.wpList _ _ _ (Go.Oper.mk _ (.box _ _) _ _ _ _ :: _) _ _)); refine wpl_box hE rfl rfl rfl ?_; clear hE; intro b w hE; simp only [Act.eval, Act.put, List.setIfInBounds_toArray, List.set_cons_zero, List.set_cons_succ, getD_lit, List.getD_cons_succ, List.getD_cons_zero, Value.cells] at hE) | (go_at_call 61; refine (wide_is _ true rfl _).mono ?_; rintro e w2 ⟨rfl, rfl⟩))
  refine (puts_any (ys := be 4 n) _ Tryd.call96 (fun _ => Put1_any _ _ 4 n (by omega) _ 1 0 rfl rfl) (hE.front 2 rfl) (by simp [be]; omega)).mono ?_
  rintro e w2 ⟨v, rfl, rfl, hE2⟩
  go_wp2
  go_ret
  exact ⟨_, rfl, rfl, hE2.erase 1 |>.erase 1⟩

set_option maxRecDepth 100000 in
set_option maxHeartbeats 400000 in
theorem Put_8 (p n : Nat) {l : List HProp} {w : World} {bs : List UInt8} {err : Int} (hE : Ent (packer p bs err :: l) w) (hb : bs.length + 8 ≤ 1099511627776) :
    Calls Tryd.prog 70 #[.pointer (some ⟨p, 0, none⟩), .int .i64 8, .int .u64 n] w (Ret fun v w' => v = .pointer (some ⟨p, 0, none⟩) ∧ Ent (packer p (pbs (numOk 8 n) bs (be 8 n)) (perr (numOk 8 n) err) :: l) w') := by
  rw [show numOk 8 n = true from rfl]
  go_enter Tryd.func70, Tryd.ntmps70
  go_wp2_with (first | go_skip | ((with_reducible (show Go.wpList _ _ _ (Go.Oper.mk _ (.load _ _) _ _ _ _ :: _) _ _)); first | (refine wpl_load1 hE 0 rfl rfl rfl rfl (by simp [go_sem]) rfl ?_) | (refine wpl_load1 hE 1 rfl rfl rfl rfl (by simp [go_sem]) rfl ?_) | (refine wpl_load1 hE 2 rfl rfl rfl rfl (by simp [go_sem]) rfl ?_) | (refine wpl_load1 hE 3 rfl rfl rfl rfl (by simp [go_sem]) rfl ?_) | (refine wpl_load1 hE 4 rfl rfl rfl rfl (by simp [go_sem]) rfl ?_) | (refine wpl_load1 hE 5 rfl rfl rfl rfl (by simp [go_sem]) rfl ?_)) | ((with_reducible (show Go.wpList _ _ _ (Go.Oper.mk _ (.box _ _) _ _ _ _ :: _) _ _)); refine wpl_box hE rfl rfl rfl ?_; clear hE; intro b w hE; simp only [Act.eval, Act.put, List.setIfInBounds_toArray, List.set_cons_zero, List.set_cons_succ, getD_lit, List.getD_cons_succ, List.getD_cons_zero, Value.cells] at hE) | (go_at_call 61; refine (wide_is _ true rfl _).mono ?_; rintro e w2 ⟨rfl, rfl⟩))
  refine (puts_any (ys := be 8 n) _ Tryd.call96 (fun _ => Put1_any _ _ 8 n (by omega) _ 1 0 rfl rfl) (hE.front 2 rfl) (by simp [be]; omega)).mono ?_
  rintro e w2 ⟨v, rfl, rfl, hE2⟩
  go_wp2
  go_ret
  exact ⟨_, rfl, rfl, hE2.erase 1 |>.erase 1⟩

theorem be_length (w n : Nat) : (be w n).length = w := by
  induction w with
  | zero => rfl
  | succ w ih => simp [be, ih]

/-- what a number adds to a packer -/
theorem Put_any (p n : Nat) (width : Int) {l : List HProp} {w : World} {bs : List UInt8} {err : Int} (hE : Ent (packer p bs err :: l) w) (hb : bs.length + 8 ≤ 1099511627776) :
    Calls Tryd.prog 70 #[.pointer (some ⟨p, 0, none⟩), .int .i64 width, .int .u64 n] w (Ret fun v w' => v = .pointer (some ⟨p, 0, none⟩) ∧ Ent (packer p (pbs (numOk width n) bs (be width.toNat n)) (perr (numOk width n) err) :: l) w') := by
  cases hw : wideB width with
  | false =>
    have h0 : numOk width n = false := by simp [numOk, hw]
    rw [h0]
    exact Put_bad p n width hw (bs := bs) hE (by omega)
  | true =>
    simp only [wideB, Bool.or_eq_true, beq_iff_eq] at hw
    rcases hw with ((rfl | rfl) | rfl) | rfl
    · exact Put_1 p n hE hb
    · exact Put_2 p n hE hb
    · exact Put_4 p n hE hb
    · exact Put_8 p n hE hb

theorem Hash1_any (bh : Nat) (hs : List UInt8) (h32 : hs.length = 32) (l : List HProp) (i : Nat) (hi : l[i]? = some (pt bh (.cells (bvals hs).toArray 46))) : Makes 99 #[.pointer (some ⟨bh, 0, none⟩)] l hs := by
  intro m w hE
  go_enter Tryd.func99, Tryd.ntmps99
  go_wp2
  go_ret
  refine ⟨_, rfl, hE, ?_⟩
  rw [h32]
  exact reads_pt hE.drop i hi (fun j u hu => by simpa using hu)

theorem Hash_any (p : Nat) (hs : List UInt8) (h32 : hs.length = 32) {l : List HProp} {w : World} {bs : List UInt8} {err : Int} (hE : Ent (packer p bs err :: l) w) (hb : bs.length + 32 ≤ 1099511627776) :
    Calls Tryd.prog 73 #[.pointer (some ⟨p, 0, none⟩), .agg (bvals hs).toArray] w (Ret fun v w' => v = .pointer (some ⟨p, 0, none⟩) ∧ Ent (packer p (bs ++ hs) err :: l) w') := by
  go_enter Tryd.func73, Tryd.ntmps73
  go_wp2_with (first | ((with_reducible (show Go.wpList _ _ _ (Go.Oper.mk _ (.box _ _) _ _ _ _ :: _) _ _)); refine wpl_box hE rfl rfl rfl ?_; clear hE; intro b w hE; simp only [Act.eval, Act.put, List.setIfInBounds_toArray, List.set_cons_zero, List.set_cons_succ, getD_lit, List.getD_cons_succ, List.getD_cons_zero, Value.cells] at hE))
  refine (puts_any (ys := hs) true Tryd.call99 (fun _ => Hash1_any _ hs h32 _ 0 rfl) (hE.front 1 rfl) (by omega)).mono ?_
  rintro e w2 ⟨v, rfl, rfl, hE2⟩
  go_wp2
  go_ret
  exact ⟨_, rfl, rfl, hE2.erase 1⟩

theorem byteCells_mk (ys : List UInt8) : byteCells ⟨ys.toArray⟩ = bvals ys := by simp only [byteCells, bvals, List.toList_toArray]; rfl
theorem wpl_strB {ops : Array Oper} {rest : List Oper} {o : Oper} {a : Act} {Q : Exit → Act → World → Prop} {w : World} {l : List HProp} (hE : Ent l w) {x : Operand} (ho : o.op = .convert 9 52 x) (hw : Region.wanted o (yielded ops a.tmps) = true)
    {ys : List UInt8} (hx : a.eval x = .string ⟨ys.toArray⟩) (h : ∀ b c w', Ent (view (.slice (some ⟨b, 0, none⟩) ys.length c) ys.length (bvals ys) :: l) w' → wpList Tryd.prog ops Q rest (a.put o.dst (.slice (some ⟨b, 0, none⟩) ys.length c)) w') : wpList Tryd.prog ops Q (o :: rest) a w := by
  obtain ⟨b, c, w', hr, hE'⟩ := hE.strBytes (P := Tryd.prog) Tryd.underlying9 Tryd.underlying52 Tryd.underlying5 ⟨ys.toArray⟩
  rw [byteCells_mk] at hE'
  have e : (ByteArray.mk ys.toArray).size = ys.length := by simp [ByteArray.size]
  rw [e] at hr hE'
  refine wpl_run hw (w' := w') (v := .slice (some ⟨b, 0, none⟩) ys.length c) ?_ (h b c w' hE')
  simp [execOp, ho, hx, hr]

theorem wpl_appendS {ops : Array Oper} {rest : List Oper} {o : Oper} {a : Act} {Q : Exit → Act → World → Prop} {w : World} {l : List HProp} (hE : Ent l w) (k : Nat) {ao : Option Addr} {c : Nat} {bs : List UInt8}
    (hk : l[k]? = some (rowB ao c bs)) {s y : Operand} (ho : o.op = .call { callee := .builtin .append, args := #[s, y], argTypes := #[52, 9] }) (hw : Region.wanted o (yielded ops a.tmps) = true)
    (hs : a.eval s = .slice ao bs.length c) {ys : List UInt8} (hy : a.eval y = .string ⟨ys.toArray⟩) (hb : bs.length + ys.length ≤ 1099511627776)
    (h : ∀ ao' c' w', Ent (l.set k (rowB ao' c' (bs ++ ys))) w' → wpList Tryd.prog ops Q rest (a.put o.dst (.slice ao' (bs ++ ys).length c')) w') : wpList Tryd.prog ops Q (o :: rest) a w := by
  obtain ⟨i, hi, hz0, hz1, hz2⟩ := info_parts infoB
  have e : (ByteArray.mk ys.toArray).size = ys.length := by simp [ByteArray.size]
  obtain ⟨ao', c', w', hr, hE'⟩ := hE.appendS (P := Tryd.prog) o.type k hk Tryd.underlying52 Tryd.underlying9 hi hz0 hz1 hz2 ⟨ys.toArray⟩ (by rw [e]; omega)
  rw [byteCells_mk, e, ← bvals_append, ← List.length_append] at hE'
  rw [e, ← List.length_append] at hr
  refine wpl_run hw (w' := w') (v := .slice ao' (bs ++ ys).length c') ?_ (h ao' c' w' hE')
  simp only [execOp, ho, resolve, invoke, builtin, Sem.run_bind, Sem.run_pure, Result.andThen_ok, List.map_toArray, List.map_cons, List.map_nil, hs, hy, hr]

theorem Text1_any (bt : Nat) (ys : List UInt8) (l : List HProp) (i : Nat) (hi : l[i]? = some (pt bt (.cells #[.string ⟨ys.toArray⟩] 9))) : Makes 97 #[.pointer (some ⟨bt, 0, none⟩)] l ys := by
  intro m w hE
  have hc : w.cell? ⟨bt, 0, none⟩ = some (.string ⟨ys.toArray⟩) := by simpa using hE.drop.cell i hi 0
  go_enter Tryd.func97, Tryd.ntmps97
  go_wp2_with (first | (refine wpl_strB hE rfl rfl rfl ?_; intro b c w2 hE2))
  go_ret
  exact ⟨_, rfl, hE2.tail, hE2.views 0 rfl⟩

theorem Text_any (p : Nat) (ys : List UInt8) {l : List HProp} {w : World} {bs : List UInt8} {err : Int} (hE : Ent (packer p bs err :: l) w) (hb : bs.length + ys.length ≤ 1099511627776) :
    Calls Tryd.prog 71 #[.pointer (some ⟨p, 0, none⟩), .string ⟨ys.toArray⟩] w (Ret fun v w' => v = .pointer (some ⟨p, 0, none⟩) ∧ Ent (packer p (bs ++ ys) err :: l) w') := by
  go_enter Tryd.func71, Tryd.ntmps71
  go_wp2_with (first | ((with_reducible (show Go.wpList _ _ _ (Go.Oper.mk _ (.box _ _) _ _ _ _ :: _) _ _)); refine wpl_box hE rfl rfl rfl ?_; clear hE; intro b w hE; simp only [Act.eval, Act.put, List.setIfInBounds_toArray, List.set_cons_zero, List.set_cons_succ, getD_lit, List.getD_cons_succ, List.getD_cons_zero, Value.cells] at hE))
  refine (puts_any (ys := ys) true Tryd.call97 (fun _ => Text1_any _ ys _ 0 rfl) (hE.front 1 rfl) (by omega)).mono ?_
  rintro e w2 ⟨v, rfl, rfl, hE2⟩
  go_wp2
  go_ret
  exact ⟨_, rfl, rfl, hE2.erase 1⟩

theorem Name1_any (bt : Nat) (ys : List UInt8) (hl : ys.length < 256) (l : List HProp) (i : Nat) (hi : l[i]? = some (pt bt (.cells #[.string ⟨ys.toArray⟩] 9))) : Makes 98 #[.pointer (some ⟨bt, 0, none⟩)] l (UInt8.ofNat ys.length :: ys) := by
  intro m w hE
  have hc : w.cell? ⟨bt, 0, none⟩ = some (.string ⟨ys.toArray⟩) := by simpa using hE.drop.cell i hi 0
  have hz := hE.drop.size i hi
  have hby : Value.int .u8 (ys.length : Int) = bval (UInt8.ofNat ys.length) := by
    simp only [bval, UInt8.toNat_ofNat', Nat.reducePow]
    rw [Nat.mod_eq_of_lt hl]
  have Hby := SL.hid hby
  clear hby
  go_enter Tryd.func98, Tryd.ntmps98
  go_wp2_with (refine wpl_appendS (Ent.rowB1 hE _ _ Hby.out) 0 rfl rfl rfl rfl (ys := ys) rfl (by simp; omega) ?_; intro ao c w2 hE2)
  go_ret
  exact ⟨_, rfl, hE2.tail, reads_row hE2 0 rfl⟩

set_option maxRecDepth 100000 in
theorem Name_ok (p : Nat) (ys : List UInt8) (hl : ys.length < 256) {l : List HProp} {w : World} {bs : List UInt8} {err : Int} (hE : Ent (packer p bs err :: l) w) (hb : bs.length + 256 ≤ 1099511627776) :
    Calls Tryd.prog 72 #[.pointer (some ⟨p, 0, none⟩), .string ⟨ys.toArray⟩] w (Ret fun v w' => v = .pointer (some ⟨p, 0, none⟩) ∧ Ent (packer p (bs ++ UInt8.ofNat ys.length :: ys) err :: l) w') := by
  have hl' : decide ((ys.length : Int) < 256) = true := by simp; omega
  go_enter Tryd.func72, Tryd.ntmps72
  go_wp2_with (first | ((with_reducible (show Go.wpList _ _ _ (Go.Oper.mk _ (.box _ _) _ _ _ _ :: _) _ _)); refine wpl_box hE rfl rfl rfl ?_; clear hE; intro b w hE; simp only [Act.eval, Act.put, List.setIfInBounds_toArray, List.set_cons_zero, List.set_cons_succ, getD_lit, List.getD_cons_succ, List.getD_cons_zero, Value.cells] at hE) | ((with_reducible (show Go.wpList _ _ _ (Go.Oper.mk _ (.load _ _) _ _ _ _ :: _) _ _)); first | (refine wpl_load1 hE 0 rfl rfl rfl rfl (by simp [go_sem]) rfl ?_) | (refine wpl_load1 hE 1 rfl rfl rfl rfl (by simp [go_sem]) rfl ?_) | (refine wpl_load1 hE 2 rfl rfl rfl rfl (by simp [go_sem]) rfl ?_) | (refine wpl_load1 hE 3 rfl rfl rfl rfl (by simp [go_sem]) rfl ?_) | (refine wpl_load1 hE 4 rfl rfl rfl rfl (by simp [go_sem]) rfl ?_) | (refine wpl_load1 hE 5 rfl rfl rfl rfl (by simp [go_sem]) rfl ?_)))
  go_goals
  refine (puts_any (ys := UInt8.ofNat ys.length :: ys) true Tryd.call98 (fun _ => Name1_any _ ys hl _ 0 rfl) (hE.front 1 rfl) (by simp; omega)).mono ?_
  rintro e w2 ⟨v, rfl, rfl, hE2⟩
  go_wp2
  go_ret
  exact ⟨_, rfl, rfl, hE2.erase 1⟩

set_option maxRecDepth 100000 in
theorem Name_bad (p : Nat) (ys : List UInt8) (hl : 256 ≤ ys.length) {l : List HProp} {w : World} {bs : List UInt8} {err : Int} (hE : Ent (packer p bs err :: l) w) (hb : bs.length ≤ 1099511627776) :
    Calls Tryd.prog 72 #[.pointer (some ⟨p, 0, none⟩), .string ⟨ys.toArray⟩] w (Ret fun v w' => v = .pointer (some ⟨p, 0, none⟩) ∧ Ent (packer p bs (orLimit err) :: l) w') := by
  have hl' : decide ((ys.length : Int) < 256) = false := by simp; omega
  go_enter Tryd.func72, Tryd.ntmps72
  go_wp2_with (first | ((with_reducible (show Go.wpList _ _ _ (Go.Oper.mk _ (.box _ _) _ _ _ _ :: _) _ _)); refine wpl_box hE rfl rfl rfl ?_; clear hE; intro b w hE; simp only [Act.eval, Act.put, List.setIfInBounds_toArray, List.set_cons_zero, List.set_cons_succ, getD_lit, List.getD_cons_succ, List.getD_cons_zero, Value.cells] at hE) | ((with_reducible (show Go.wpList _ _ _ (Go.Oper.mk _ (.load _ _) _ _ _ _ :: _) _ _)); first | (refine wpl_load1 hE 0 rfl rfl rfl rfl (by simp [go_sem]) rfl ?_) | (refine wpl_load1 hE 1 rfl rfl rfl rfl (by simp [go_sem]) rfl ?_) | (refine wpl_load1 hE 2 rfl rfl rfl rfl (by simp [go_sem]) rfl ?_) | (refine wpl_load1 hE 3 rfl rfl rfl rfl (by simp [go_sem]) rfl ?_) | (refine wpl_load1 hE 4 rfl rfl rfl rfl (by simp [go_sem]) rfl ?_) | (refine wpl_load1 hE 5 rfl rfl rfl rfl (by simp [go_sem]) rfl ?_)))
  refine (puts_any (ys := []) false Tryd.call98 (by simp) (hE.front 1 rfl) (by simpa using hb)).mono ?_
  rintro e w2 ⟨v, rfl, rfl, hE2⟩
  go_wp2
  go_ret
  exact ⟨_, rfl, rfl, hE2.erase 1⟩
end Go.Proofs.YtehfbokkcamliaaDoor
namespace Go.Proofs.YtehfbokkcamliaaDoor
open Go.RowKit Go.SL

def numS (width : Int) (n : Nat) : List UInt8 := if wideB width then be width.toNat n else []

theorem Num_bad (n : Nat) (width : Int) (h1 : (width != 1) = true) (h2 : (width != 2) = true) (h4 : (width != 4) = true) (h8 : (width != 8) = true) (w : World) :
    Calls Tryd.prog 118 #[.int .i64 width, .int .u64 n] w (fun e w' => e = .returned (.tuple #[.string ⟨#[]⟩, .bool false]) ∧ w = w') := by
  go_enter Tryd.func118, Tryd.ntmps118
  go_wp2_with (go_skip)
  go_ret2
  exact ⟨rfl, rfl⟩

def NumRel (n : Nat) (width : Nat) (l : List HProp) (i s m : Value) (wr : World) : Prop := ∃ k : Nat, k ≤ width ∧ i = .int .i64 k ∧ s = .string ⟨(be k n).toArray⟩ ∧ m = .int .u64 ((n / 256 ^ k : Nat) : Int) ∧ Ent l wr

theorem num_byte (n k : Nat) : Value.int .u8 (((n : Int) / 256 ^ k).tmod 256 % 256) = bval (UInt8.ofNat (n / 256 ^ k)) := by
  have e : ((n : Int) / 256 ^ k) = ((n / 256 ^ k : Nat) : Int) := by simp
  rw [e, Int.tmod_eq_emod_of_nonneg (Int.natCast_nonneg _)]
  simp only [bval, UInt8.toNat_ofNat']
  congr 1
  generalize n / 256 ^ k = m
  omega

theorem bytes_add (a b : List UInt8) : (⟨a.toArray⟩ : ByteArray) ++ ⟨b.toArray⟩ = ⟨(a ++ b).toArray⟩ := by
  apply ByteArray.ext
  simp

theorem num_next (n k : Nat) (hn : n < 18446744073709551616) : Value.int .u64 (IntKind.u64.wrap (((n : Int) / 256 ^ k).tdiv 256)) = .int .u64 ((n / 256 ^ (k + 1) : Nat) : Int) := by
  have e : ((n : Int) / 256 ^ k) = ((n / 256 ^ k : Nat) : Int) := by simp
  have h1 : n / 256 ^ k ≤ n := Nat.div_le_self _ _
  have h2 : n / 256 ^ (k + 1) = n / 256 ^ k / 256 := by rw [Nat.pow_succ, Nat.div_div_eq_div_mul]
  rw [e, h2, Int.tdiv_eq_ediv_of_nonneg (Int.natCast_nonneg _)]
  generalize n / 256 ^ k = m at h1
  congr 1
  simp only [IntKind.wrap, IntKind.bits, IntKind.signed, Bool.false_and, Bool.false_eq_true, if_false]
  omega

theorem num_zero (n k : Nat) : (((n : Int) / 256 ^ k) == 0) = (n / 256 ^ k == 0) := by
  have e : ((n : Int) / 256 ^ k) = ((n / 256 ^ k : Nat) : Int) := by simp
  rw [e]
  generalize n / 256 ^ k = m
  rw [Bool.eq_iff_iff]
  simp

set_option maxRecDepth 100000 in
theorem Num_1 (n : Nat) (hn : n < 18446744073709551616) {l : List HProp} {w : World} (hE : Ent l w) :
    Calls Tryd.prog 118 #[.int .i64 1, .int .u64 n] w (Ret fun v w' => v = .tuple #[.string ⟨(be 1 n).toArray⟩, .bool (n / 256 ^ 1 == 0)] ∧ Ent l w') := by
  go_enter Tryd.func118, Tryd.ntmps118
  go_wp2_with (go_skip)
  go_loopw [7, 6, 1] (fun i s m wr => NumRel n 1 l i s m wr) (fun i _ _ _ => 1 - (intOf i).toNat)
  case atStart => exact ⟨0, by omega, rfl, rfl, by simp, hE⟩
  case round =>
    obtain ⟨k, hk, rfl, rfl, rfl, hE⟩ := hrel
    have Hby := SL.hid (num_byte n k)
    have hlen := be_length k n
    by_cases hlt : k < 1
    · go_wp2_with (refine wpl_bytesStr (bs := [UInt8.ofNat (n / 256 ^ k)]) rfl rfl rfl Tryd.underlying52 Tryd.underlying5 Tryd.underlying9 (reads_row (Ent.rowB1 hE _ _ Hby.out) 0 rfl) rfl ?_)
      go_roundw
      case rel => exact ⟨k + 1, hlt, by simp, by simp [be, bytes_add], num_next n k hn, (Ent.rowB1 hE _ _ Hby.out).tail⟩
      case measure => simp [intOf]; omega
    · have E1 := SL.hid (show k = 1 by omega)
      go_wp2
      go_ret2
      have hk := E1.out
      subst hk
      exact ⟨_, rfl, by rw [← num_zero]; rfl, hE⟩

set_option maxRecDepth 100000 in
theorem Num_2 (n : Nat) (hn : n < 18446744073709551616) {l : List HProp} {w : World} (hE : Ent l w) :
    Calls Tryd.prog 118 #[.int .i64 2, .int .u64 n] w (Ret fun v w' => v = .tuple #[.string ⟨(be 2 n).toArray⟩, .bool (n / 256 ^ 2 == 0)] ∧ Ent l w') := by
  go_enter Tryd.func118, Tryd.ntmps118
  go_wp2_with (go_skip)
  go_loopw [7, 6, 1] (fun i s m wr => NumRel n 2 l i s m wr) (fun i _ _ _ => 2 - (intOf i).toNat)
  case atStart => exact ⟨0, by omega, rfl, rfl, by simp, hE⟩
  case round =>
    obtain ⟨k, hk, rfl, rfl, rfl, hE⟩ := hrel
    have Hby := SL.hid (num_byte n k)
    have hlen := be_length k n
    by_cases hlt : k < 2
    · go_wp2_with (refine wpl_bytesStr (bs := [UInt8.ofNat (n / 256 ^ k)]) rfl rfl rfl Tryd.underlying52 Tryd.underlying5 Tryd.underlying9 (reads_row (Ent.rowB1 hE _ _ Hby.out) 0 rfl) rfl ?_)
      go_roundw
      case rel => exact ⟨k + 1, hlt, by simp, by simp [be, bytes_add], num_next n k hn, (Ent.rowB1 hE _ _ Hby.out).tail⟩
      case measure => simp [intOf]; omega
    · have E1 := SL.hid (show k = 2 by omega)
      go_wp2
      go_ret2
      have hk := E1.out
      subst hk
      exact ⟨_, rfl, by rw [← num_zero]; rfl, hE⟩

set_option maxRecDepth 100000 in
theorem Num_4 (n : Nat) (hn : n < 18446744073709551616) {l : List HProp} {w : World} (hE : Ent l w) :
    Calls Tryd.prog 118 #[.int .i64 4, .int .u64 n] w (Ret fun v w' => v = .tuple #[.string ⟨(be 4 n).toArray⟩, .bool (n / 256 ^ 4 == 0)] ∧ Ent l w') := by
  go_enter Tryd.func118, Tryd.ntmps118
  go_wp2_with (go_skip)
  go_loopw [7, 6, 1] (fun i s m wr => NumRel n 4 l i s m wr) (fun i _ _ _ => 4 - (intOf i).toNat)
  case atStart => exact ⟨0, by omega, rfl, rfl, by simp, hE⟩
  case round =>
    obtain ⟨k, hk, rfl, rfl, rfl, hE⟩ := hrel
    have Hby := SL.hid (num_byte n k)
    have hlen := be_length k n
    by_cases hlt : k < 4
    · go_wp2_with (refine wpl_bytesStr (bs := [UInt8.ofNat (n / 256 ^ k)]) rfl rfl rfl Tryd.underlying52 Tryd.underlying5 Tryd.underlying9 (reads_row (Ent.rowB1 hE _ _ Hby.out) 0 rfl) rfl ?_)
      go_roundw
      case rel => exact ⟨k + 1, hlt, by simp, by simp [be, bytes_add], num_next n k hn, (Ent.rowB1 hE _ _ Hby.out).tail⟩
      case measure => simp [intOf]; omega
    · have E1 := SL.hid (show k = 4 by omega)
      go_wp2
      go_ret2
      have hk := E1.out
      subst hk
      exact ⟨_, rfl, by rw [← num_zero]; rfl, hE⟩

set_option maxRecDepth 100000 in
theorem Num_8 (n : Nat) (hn : n < 18446744073709551616) {l : List HProp} {w : World} (hE : Ent l w) :
    Calls Tryd.prog 118 #[.int .i64 8, .int .u64 n] w (Ret fun v w' => v = .tuple #[.string ⟨(be 8 n).toArray⟩, .bool (n / 256 ^ 8 == 0)] ∧ Ent l w') := by
  go_enter Tryd.func118, Tryd.ntmps118
  go_wp2_with (go_skip)
  go_loopw [7, 6, 1] (fun i s m wr => NumRel n 8 l i s m wr) (fun i _ _ _ => 8 - (intOf i).toNat)
  case atStart => exact ⟨0, by omega, rfl, rfl, by simp, hE⟩
  case round =>
    obtain ⟨k, hk, rfl, rfl, rfl, hE⟩ := hrel
    have Hby := SL.hid (num_byte n k)
    have hlen := be_length k n
    by_cases hlt : k < 8
    · go_wp2_with (refine wpl_bytesStr (bs := [UInt8.ofNat (n / 256 ^ k)]) rfl rfl rfl Tryd.underlying52 Tryd.underlying5 Tryd.underlying9 (reads_row (Ent.rowB1 hE _ _ Hby.out) 0 rfl) rfl ?_)
      go_roundw
      case rel => exact ⟨k + 1, hlt, by simp, by simp [be, bytes_add], num_next n k hn, (Ent.rowB1 hE _ _ Hby.out).tail⟩
      case measure => simp [intOf]; omega
    · have E1 := SL.hid (show k = 8 by omega)
      go_wp2
      go_ret2
      have hk := E1.out
      subst hk
      exact ⟨_, rfl, by rw [← num_zero]; rfl, hE⟩

theorem Num_any (n : Nat) (hn : n < 18446744073709551616) (width : Int) {l : List HProp} {w : World} (hE : Ent l w) :
    Calls Tryd.prog 118 #[.int .i64 width, .int .u64 n] w (Ret fun v w' => v = .tuple #[.string ⟨(numS width n).toArray⟩, .bool (numOk width n)] ∧ Ent l w') := by
  cases hw : wideB width with
  | false =>
    have e1 : numS width n = [] := by simp [numS, hw]
    have e2 : numOk width n = false := by simp [numOk, hw]
    rw [e1, e2]
    simp only [wideB, Bool.or_eq_false_iff] at hw
    refine (Num_bad n width (by simp [bne, hw]) (by simp [bne, hw]) (by simp [bne, hw]) (by simp [bne, hw]) w).mono ?_
    rintro e w' ⟨rfl, rfl⟩
    exact ⟨_, rfl, rfl, hE⟩
  | true =>
    simp only [wideB, Bool.or_eq_true, beq_iff_eq] at hw
    rcases hw with ((rfl | rfl) | rfl) | rfl
    · exact Num_1 n hn hE
    · exact Num_2 n hn hE
    · exact Num_4 n hn hE
    · have h := Num_8 n hn hE
      have e : (n / 256 ^ 8 == 0) = true := by simp; omega
      rw [e] at h
      exact h
end Go.Proofs.YtehfbokkcamliaaDoor
namespace Go.Proofs.YtehfbokkcamliaaDoor
open Go.RowKit Go.SL

theorem Ent.rowB0 {w : World} {l : List HProp} (hE : Ent l w) : Ent (rowB (some ⟨w.heap.size, 0, none⟩) 0 [] :: l) (w.alloc (.cells #[] 5)) :=
  (hE.alloc _).toRow 0 rfl (by simp [bvals]) (by simp) (by unfold maxLen; omega) (by simp) (by simp [bvals])

/-- slices.Clone of bytes -/
theorem Clone_any {l : List HProp} {w : World} (hE : Ent l w) {ao : Option Addr} {c : Nat} {bs : List UInt8} (hk : Knows l (reads (.slice ao bs.length c) bs.length (bvals bs))) (hb : bs.length ≤ 1099511627776) :
    Calls Tryd.prog 60 #[.slice ao bs.length c] w (Ret fun v w' => ∃ ao c, v = .slice ao bs.length c ∧ Ent (rowB ao c bs :: l) w') := by
  have hn := fun W => Lib.run_eql_slice_nil (P := Tryd.prog) (w := W) 52
  cases ao with
  | none =>
    have hr := hk w hE
    obtain ⟨ao', c', e, h1, _⟩ := hr
    cases e
    have h0 : bs = [] := by
      have := (h1 rfl).2
      simpa [bvals] using this
    subst h0
    clear h1 hk
    go_enter Tryd.func60, Tryd.ntmps60
    go_wp2_with (fail)
    go_ret
    exact ⟨_, rfl, _, _, rfl, hE.nil _ _⟩
  | some ad =>
    go_enter Tryd.func60, Tryd.ntmps60
    go_wp2_with (at_builtin; refine wpl_appendB (Ent.rowB0 hE) 0 rfl rfl rfl rfl rfl (ys := bs) (hk _ (Ent.rowB0 hE).tail) (by simp; omega) ?_; intro ao2 c2 w2 hE2)
    go_ret
    refine ⟨_, rfl, ao2, c2, ?_, by simpa using hE2⟩
    simp

theorem Bytes_nil (w : World) : Calls Tryd.prog 74 #[.pointer none] w (fun e w' => e = .returned (.tuple #[.slice none 0 0, .int .i64 1]) ∧ w = w') := by
  go_enter Tryd.func74, Tryd.ntmps74
  go_wp2
  go_ret2
  exact ⟨rfl, rfl⟩

theorem Bytes_ok {l : List HProp} {w : World} {p : Nat} {bs : List UInt8} (hE : Ent (packer p bs 0 :: l) w) (hb : bs.length ≤ 1099511627776) :
    Calls Tryd.prog 74 #[.pointer (some ⟨p, 0, none⟩)] w (Ret fun v w' => ∃ ao c, v = .tuple #[.slice ao bs.length c, .int .i64 0] ∧ Ent (rowB ao c bs :: packer p bs 0 :: l) w') := by
  obtain ⟨ao, c, hE⟩ := packer_open hE
  go_enter Tryd.func74, Tryd.ntmps74
  go_wp2_with (first | ((with_reducible (show Go.wpList _ _ _ (Go.Oper.mk _ (.load _ _) _ _ _ _ :: _) _ _)); first | (refine wpl_load1 hE 0 rfl rfl rfl rfl (by simp [go_sem]) rfl ?_) | (refine wpl_load1 hE 1 rfl rfl rfl rfl (by simp [go_sem]) rfl ?_) | (refine wpl_load1 hE 2 rfl rfl rfl rfl (by simp [go_sem]) rfl ?_) | (refine wpl_load1 hE 3 rfl rfl rfl rfl (by simp [go_sem]) rfl ?_) | (refine wpl_load1 hE 4 rfl rfl rfl rfl (by simp [go_sem]) rfl ?_) | (refine wpl_load1 hE 5 rfl rfl rfl rfl (by simp [go_sem]) rfl ?_)) | (go_at_call 60; refine (Clone_any hE (fun w h => reads_row h 1 rfl) hb).mono ?_; rintro e w2 ⟨v, rfl, ao2, c2, rfl, hE2⟩))
  go_ret2
  exact ⟨_, rfl, ao2, c2, rfl, (packer_close (hE2.front 1 rfl |>.front 2 rfl |>.front 1 rfl)).perm (.swap _ _ _)⟩

theorem Bytes_err {l : List HProp} {w : World} {p : Nat} {bs : List UInt8} {err : Int} (he : (err == 0) = false) (hE : Ent (packer p bs err :: l) w) :
    Calls Tryd.prog 74 #[.pointer (some ⟨p, 0, none⟩)] w (Ret fun v w' => v = .tuple #[.slice none 0 0, .int .i64 err] ∧ Ent (packer p bs err :: l) w') := by
  have hE0 := hE
  obtain ⟨ao, c, hE⟩ := packer_open hE
  have c1 : w.cell? ⟨p, 1, none⟩ = some (.int .i64 err) := hE.cell 0 rfl 1
  go_enter Tryd.func74, Tryd.ntmps74
  go_wp2
  go_quiet (fail)
  go_wp2
  go_ret2
  exact ⟨_, rfl, rfl, hE0.drewN _⟩

/-- an opener: what is left of its bytes, and its error -/
def opener (o : Nat) (bs : List UInt8) (err : Int) : HProp := ex fun x : { x : Option Addr × Nat // bs.length ≤ x.2 } => [pt o (.cells #[.slice x.1.1 bs.length x.1.2, .int .i64 err] 128), view (.slice x.1.1 bs.length x.1.2) bs.length (bvals bs)]

theorem opener_open {l : List HProp} {w : World} {p : Nat} {bs : List UInt8} {err : Int} (hE : Ent (opener p bs err :: l) w) :
    ∃ ao c, bs.length ≤ c ∧ Ent (pt p (.cells #[.slice ao bs.length c, .int .i64 err] 128) :: view (.slice ao bs.length c) bs.length (bvals bs) :: l) w := let ⟨x, h⟩ := Ent.unpack hE; ⟨x.1.1, x.1.2, x.2, h⟩
theorem opener_close {l : List HProp} {w : World} {p : Nat} {bs : List UInt8} {err : Int} {ao : Option Addr} {c : Nat} (hc : bs.length ≤ c)
    (hE : Ent (pt p (.cells #[.slice ao bs.length c, .int .i64 err] 128) :: view (.slice ao bs.length c) bs.length (bvals bs) :: l) w) : Ent (opener p bs err :: l) w := Ent.pack ⟨(ao, c), hc⟩ hE

theorem row_cap {l : List HProp} {w : World} (hE : Ent l w) (i : Nat) {ao : Option Addr} {c : Nat} {bs : List UInt8} (hi : l[i]? = some (rowB ao c bs)) : bs.length ≤ c := by
  have h := hE.owns i hi
  rcases h.2 with ⟨h1, h2⟩ | ⟨g, cap, cur, h1, _, _, h2, _⟩
  · simp only [Value.slice.injEq] at h1; omega
  · simp only [Value.slice.injEq] at h1; omega

theorem Of_any {l : List HProp} {w : World} (hE : Ent l w) {ao : Option Addr} {c : Nat} {bs : List UInt8} (hk : Knows l (reads (.slice ao bs.length c) bs.length (bvals bs))) (hb : bs.length ≤ 1099511627776) :
    Calls Tryd.prog 29 #[.slice ao bs.length c] w (Ret fun v w' => ∃ o, v = .pointer (some ⟨o, 0, none⟩) ∧ Ent (opener o bs 0 :: l) w') := by
  go_enter Tryd.func29, Tryd.ntmps29
  go_wp2_with (first | ((with_reducible (show Go.wpList _ _ _ (Go.Oper.mk _ (.box _ _) _ _ _ _ :: _) _ _)); refine wpl_box hE rfl rfl rfl ?_; clear hE; intro b w hE; simp only [Act.eval, Act.put, List.setIfInBounds_toArray, List.set_cons_zero, List.set_cons_succ, getD_lit, List.getD_cons_succ, List.getD_cons_zero, Value.cells] at hE) | (go_at_call 60; refine (Clone_any hE hk hb).mono ?_; rintro e w2 ⟨v, rfl, ao2, c2, rfl, hE⟩))
  go_ret
  refine ⟨_, rfl, _, rfl, opener_close (row_cap hE 1 rfl) (hE.toView 1 rfl)⟩

def tkOk (n : Int) (bs : List UInt8) (err : Int) : Bool := err == 0 && decide (0 ≤ n) && decide (n ≤ bs.length)
def tkE (n : Int) (bs : List UInt8) (err : Int) : Int := if err == 0 && !(decide (0 ≤ n) && decide (n ≤ bs.length)) then 3 else err
def tkB (n : Int) (bs : List UInt8) (err : Int) : List UInt8 := if tkOk n bs err then bs.drop n.toNat else bs

/-- a reader of so many bytes -/
def Says (k : FuncId) (n : Nat) (f : List UInt8 → Value) : Prop :=
  ∀ (l : List HProp) (ao : Option Addr) (c : Nat) (ys : List UInt8) (w : World), ys.length = n → Ent l w → Knows l (reads (.slice ao n c) n (bvals ys)) →
    Calls Tryd.prog k #[.slice ao n c] w (Ret fun v w' => v = f ys ∧ Ent l w')

theorem bvals_cut (bs : List UInt8) (lo n : Nat) : ((bvals bs).drop (lo * 1)).take (n * 1) = bvals ((bs.drop lo).take n) := by simp [bvals, List.map_take, List.map_drop]

theorem take_uint64_nil (n : Int) (k : FuncId) (w : World) : Calls Tryd.prog 62 #[.pointer none, .int .i64 n, .func (.func k) #[] #[]] w (fun e w' => e = .returned (.int .u64 0) ∧ w = w') := by
  go_enter Tryd.func62, Tryd.ntmps62
  go_wp2_with (first | go_skip | fail)
  go_ret
  exact ⟨rfl, rfl⟩

theorem take_uint64_err {l : List HProp} {w : World} {o : Nat} {bs : List UInt8} {err : Int} (he : (err == 0) = false) (hE : Ent (opener o bs err :: l) w) (n : Int) (k : FuncId) :
    Calls Tryd.prog 62 #[.pointer (some ⟨o, 0, none⟩), .int .i64 n, .func (.func k) #[] #[]] w (Ret fun v w' => v = .int .u64 0 ∧ Ent (opener o bs err :: l) w') := by
  obtain ⟨ao, c, hc, hE⟩ := opener_open hE
  go_enter Tryd.func62, Tryd.ntmps62
  have he' : (err != 0) = true := by simpa using he
  go_wp2_with (first | go_skip | ((with_reducible (show Go.wpList _ _ _ (Go.Oper.mk _ (.load _ _) _ _ _ _ :: _) _ _)); first | (refine wpl_load1 hE 0 rfl rfl rfl rfl (by simp [go_sem]) rfl ?_) | (refine wpl_load1 hE 1 rfl rfl rfl rfl (by simp [go_sem]) rfl ?_) | (refine wpl_load1 hE 2 rfl rfl rfl rfl (by simp [go_sem]) rfl ?_) | (refine wpl_load1 hE 3 rfl rfl rfl rfl (by simp [go_sem]) rfl ?_) | (refine wpl_load1 hE 4 rfl rfl rfl rfl (by simp [go_sem]) rfl ?_) | (refine wpl_load1 hE 5 rfl rfl rfl rfl (by simp [go_sem]) rfl ?_)))
  go_ret
  exact ⟨_, rfl, rfl, opener_close hc hE⟩

theorem take_string_nil (n : Int) (k : FuncId) (w : World) : Calls Tryd.prog 64 #[.pointer none, .int .i64 n, .func (.func k) #[] #[]] w (fun e w' => e = .returned (.string ⟨#[]⟩) ∧ w = w') := by
  go_enter Tryd.func64, Tryd.ntmps64
  go_wp2_with (first | go_skip | fail)
  go_ret
  exact ⟨rfl, rfl⟩

theorem take_string_err {l : List HProp} {w : World} {o : Nat} {bs : List UInt8} {err : Int} (he : (err == 0) = false) (hE : Ent (opener o bs err :: l) w) (n : Int) (k : FuncId) :
    Calls Tryd.prog 64 #[.pointer (some ⟨o, 0, none⟩), .int .i64 n, .func (.func k) #[] #[]] w (Ret fun v w' => v = .string ⟨#[]⟩ ∧ Ent (opener o bs err :: l) w') := by
  obtain ⟨ao, c, hc, hE⟩ := opener_open hE
  go_enter Tryd.func64, Tryd.ntmps64
  have he' : (err != 0) = true := by simpa using he
  go_wp2_with (first | go_skip | ((with_reducible (show Go.wpList _ _ _ (Go.Oper.mk _ (.load _ _) _ _ _ _ :: _) _ _)); first | (refine wpl_load1 hE 0 rfl rfl rfl rfl (by simp [go_sem]) rfl ?_) | (refine wpl_load1 hE 1 rfl rfl rfl rfl (by simp [go_sem]) rfl ?_) | (refine wpl_load1 hE 2 rfl rfl rfl rfl (by simp [go_sem]) rfl ?_) | (refine wpl_load1 hE 3 rfl rfl rfl rfl (by simp [go_sem]) rfl ?_) | (refine wpl_load1 hE 4 rfl rfl rfl rfl (by simp [go_sem]) rfl ?_) | (refine wpl_load1 hE 5 rfl rfl rfl rfl (by simp [go_sem]) rfl ?_)))
  go_ret
  exact ⟨_, rfl, rfl, opener_close hc hE⟩

theorem reads_take {w : World} {ao : Option Addr} {c : Nat} {bs : List UInt8} (hr : reads (.slice ao bs.length c) bs.length (bvals bs) w) {n : Nat} (hn : n ≤ bs.length) (hc : bs.length ≤ c) : reads (.slice (cutAt 1 ao c 0) n c) n (bvals (bs.take n)) w := by
  have h := reads_cut (size := 1) hr (by simp [bvals]) (Nat.zero_le n) hn hc
  rw [bvals_cut] at h
  simpa using h

theorem opener_drop {l : List HProp} {w : World} {p : Nat} {bs : List UInt8} {err : Int} {ao : Option Addr} {c : Nat} (hc : bs.length ≤ c) {n : Nat} (hn : n ≤ bs.length)
    (hE : Ent (pt p (.cells #[.slice (cutAt 1 ao c n) (bs.length - n) (c - n), .int .i64 err] 128) :: view (.slice ao bs.length c) bs.length (bvals bs) :: l) w) : Ent (opener p (bs.drop n) err :: l) w := by
  have h := hE.cutView (size := 1) 1 rfl (by simp [bvals]) hn (Nat.le_refl _) hc
  rw [bvals_cut, ← List.length_drop, List.take_length] at h
  refine opener_close (ao := cutAt 1 ao c n) (c := c - n) (by simp; omega) ?_
  exact h
end Go.Proofs.YtehfbokkcamliaaDoor
namespace Go.Proofs.YtehfbokkcamliaaDoor
open Go.RowKit Go.SL

set_option maxRecDepth 100000 in
theorem take_uint64_neg {l : List HProp} {w : World} {o : Nat} {bs : List UInt8} (hE : Ent (opener o bs 0 :: l) w) (n : Int) (hn : n < 0) (k : FuncId) :
    Calls Tryd.prog 62 #[.pointer (some ⟨o, 0, none⟩), .int .i64 n, .func (.func k) #[] #[]] w (Ret fun v w' => v = .int .u64 0 ∧ Ent (opener o bs 3 :: l) w') := by
  obtain ⟨ao, c, hc, hE⟩ := opener_open hE
  have hn' : decide (n < 0) = true := by simpa using hn
  go_enter Tryd.func62, Tryd.ntmps62
  go_wp2_with (first | go_skip | ((with_reducible (show Go.wpList _ _ _ (Go.Oper.mk _ (.load _ _) _ _ _ _ :: _) _ _)); first | (refine wpl_load1 hE 0 rfl rfl rfl rfl (by simp [go_sem]) rfl ?_) | (refine wpl_load1 hE 1 rfl rfl rfl rfl (by simp [go_sem]) rfl ?_) | (refine wpl_load1 hE 2 rfl rfl rfl rfl (by simp [go_sem]) rfl ?_) | (refine wpl_load1 hE 3 rfl rfl rfl rfl (by simp [go_sem]) rfl ?_) | (refine wpl_load1 hE 4 rfl rfl rfl rfl (by simp [go_sem]) rfl ?_) | (refine wpl_load1 hE 5 rfl rfl rfl rfl (by simp [go_sem]) rfl ?_)) | ((with_reducible (show Go.wpList _ _ _ (Go.Oper.mk _ (.store _ _ _) _ _ _ _ :: _) _ _)); first | (refine wpl_store hE 0 rfl rfl rfl rfl rfl (by simp [go_sem]; rfl) (by rfl) (by simp [Value.cells, Value.oneCell', Act.eval]) (by simp) ?_; clear hE; intro w hE; simp only [Act.eval, getD_lit, List.getD_cons_succ, List.getD_cons_zero, Value.cells, List.set_cons_zero, List.set_cons_succ, List.take_succ_cons, List.take_zero, List.nil_append, List.cons_append, List.drop_succ_cons, List.drop_zero, List.length_cons, List.length_nil, Nat.reduceAdd, Nat.zero_add] at hE) | (refine wpl_store hE 1 rfl rfl rfl rfl rfl (by simp [go_sem]; rfl) (by rfl) (by simp [Value.cells, Value.oneCell', Act.eval]) (by simp) ?_; clear hE; intro w hE; simp only [Act.eval, getD_lit, List.getD_cons_succ, List.getD_cons_zero, Value.cells, List.set_cons_zero, List.set_cons_succ, List.take_succ_cons, List.take_zero, List.nil_append, List.cons_append, List.drop_succ_cons, List.drop_zero, List.length_cons, List.length_nil, Nat.reduceAdd, Nat.zero_add] at hE) | (refine wpl_store hE 2 rfl rfl rfl rfl rfl (by simp [go_sem]; rfl) (by rfl) (by simp [Value.cells, Value.oneCell', Act.eval]) (by simp) ?_; clear hE; intro w hE; simp only [Act.eval, getD_lit, List.getD_cons_succ, List.getD_cons_zero, Value.cells, List.set_cons_zero, List.set_cons_succ, List.take_succ_cons, List.take_zero, List.nil_append, List.cons_append, List.drop_succ_cons, List.drop_zero, List.length_cons, List.length_nil, Nat.reduceAdd, Nat.zero_add] at hE) | (refine wpl_store hE 3 rfl rfl rfl rfl rfl (by simp [go_sem]; rfl) (by rfl) (by simp [Value.cells, Value.oneCell', Act.eval]) (by simp) ?_; clear hE; intro w hE; simp only [Act.eval, getD_lit, List.getD_cons_succ, List.getD_cons_zero, Value.cells, List.set_cons_zero, List.set_cons_succ, List.take_succ_cons, List.take_zero, List.nil_append, List.cons_append, List.drop_succ_cons, List.drop_zero, List.length_cons, List.length_nil, Nat.reduceAdd, Nat.zero_add] at hE) | (refine wpl_store hE 4 rfl rfl rfl rfl rfl (by simp [go_sem]; rfl) (by rfl) (by simp [Value.cells, Value.oneCell', Act.eval]) (by simp) ?_; clear hE; intro w hE; simp only [Act.eval, getD_lit, List.getD_cons_succ, List.getD_cons_zero, Value.cells, List.set_cons_zero, List.set_cons_succ, List.take_succ_cons, List.take_zero, List.nil_append, List.cons_append, List.drop_succ_cons, List.drop_zero, List.length_cons, List.length_nil, Nat.reduceAdd, Nat.zero_add] at hE) | (refine wpl_store hE 5 rfl rfl rfl rfl rfl (by simp [go_sem]; rfl) (by rfl) (by simp [Value.cells, Value.oneCell', Act.eval]) (by simp) ?_; clear hE; intro w hE; simp only [Act.eval, getD_lit, List.getD_cons_succ, List.getD_cons_zero, Value.cells, List.set_cons_zero, List.set_cons_succ, List.take_succ_cons, List.take_zero, List.nil_append, List.cons_append, List.drop_succ_cons, List.drop_zero, List.length_cons, List.length_nil, Nat.reduceAdd, Nat.zero_add] at hE)))
  go_ret
  exact ⟨_, rfl, rfl, opener_close hc hE⟩

set_option maxRecDepth 100000 in
theorem take_uint64_many {l : List HProp} {w : World} {o : Nat} {bs : List UInt8} (hE : Ent (opener o bs 0 :: l) w) (n : Int) (h0 : 0 ≤ n) (hn : (bs.length : Int) < n) (k : FuncId) :
    Calls Tryd.prog 62 #[.pointer (some ⟨o, 0, none⟩), .int .i64 n, .func (.func k) #[] #[]] w (Ret fun v w' => v = .int .u64 0 ∧ Ent (opener o bs 3 :: l) w') := by
  obtain ⟨ao, c, hc, hE⟩ := opener_open hE
  have h0' : decide (n < 0) = false := by simpa using h0
  have hn' : decide ((bs.length : Int) < n) = true := by simpa using hn
  go_enter Tryd.func62, Tryd.ntmps62
  go_wp2_with (first | go_skip | ((with_reducible (show Go.wpList _ _ _ (Go.Oper.mk _ (.load _ _) _ _ _ _ :: _) _ _)); first | (refine wpl_load1 hE 0 rfl rfl rfl rfl (by simp [go_sem]) rfl ?_) | (refine wpl_load1 hE 1 rfl rfl rfl rfl (by simp [go_sem]) rfl ?_) | (refine wpl_load1 hE 2 rfl rfl rfl rfl (by simp [go_sem]) rfl ?_) | (refine wpl_load1 hE 3 rfl rfl rfl rfl (by simp [go_sem]) rfl ?_) | (refine wpl_load1 hE 4 rfl rfl rfl rfl (by simp [go_sem]) rfl ?_) | (refine wpl_load1 hE 5 rfl rfl rfl rfl (by simp [go_sem]) rfl ?_)) | ((with_reducible (show Go.wpList _ _ _ (Go.Oper.mk _ (.store _ _ _) _ _ _ _ :: _) _ _)); first | (refine wpl_store hE 0 rfl rfl rfl rfl rfl (by simp [go_sem]; rfl) (by rfl) (by simp [Value.cells, Value.oneCell', Act.eval]) (by simp) ?_; clear hE; intro w hE; simp only [Act.eval, getD_lit, List.getD_cons_succ, List.getD_cons_zero, Value.cells, List.set_cons_zero, List.set_cons_succ, List.take_succ_cons, List.take_zero, List.nil_append, List.cons_append, List.drop_succ_cons, List.drop_zero, List.length_cons, List.length_nil, Nat.reduceAdd, Nat.zero_add] at hE) | (refine wpl_store hE 1 rfl rfl rfl rfl rfl (by simp [go_sem]; rfl) (by rfl) (by simp [Value.cells, Value.oneCell', Act.eval]) (by simp) ?_; clear hE; intro w hE; simp only [Act.eval, getD_lit, List.getD_cons_succ, List.getD_cons_zero, Value.cells, List.set_cons_zero, List.set_cons_succ, List.take_succ_cons, List.take_zero, List.nil_append, List.cons_append, List.drop_succ_cons, List.drop_zero, List.length_cons, List.length_nil, Nat.reduceAdd, Nat.zero_add] at hE) | (refine wpl_store hE 2 rfl rfl rfl rfl rfl (by simp [go_sem]; rfl) (by rfl) (by simp [Value.cells, Value.oneCell', Act.eval]) (by simp) ?_; clear hE; intro w hE; simp only [Act.eval, getD_lit, List.getD_cons_succ, List.getD_cons_zero, Value.cells, List.set_cons_zero, List.set_cons_succ, List.take_succ_cons, List.take_zero, List.nil_append, List.cons_append, List.drop_succ_cons, List.drop_zero, List.length_cons, List.length_nil, Nat.reduceAdd, Nat.zero_add] at hE) | (refine wpl_store hE 3 rfl rfl rfl rfl rfl (by simp [go_sem]; rfl) (by rfl) (by simp [Value.cells, Value.oneCell', Act.eval]) (by simp) ?_; clear hE; intro w hE; simp only [Act.eval, getD_lit, List.getD_cons_succ, List.getD_cons_zero, Value.cells, List.set_cons_zero, List.set_cons_succ, List.take_succ_cons, List.take_zero, List.nil_append, List.cons_append, List.drop_succ_cons, List.drop_zero, List.length_cons, List.length_nil, Nat.reduceAdd, Nat.zero_add] at hE) | (refine wpl_store hE 4 rfl rfl rfl rfl rfl (by simp [go_sem]; rfl) (by rfl) (by simp [Value.cells, Value.oneCell', Act.eval]) (by simp) ?_; clear hE; intro w hE; simp only [Act.eval, getD_lit, List.getD_cons_succ, List.getD_cons_zero, Value.cells, List.set_cons_zero, List.set_cons_succ, List.take_succ_cons, List.take_zero, List.nil_append, List.cons_append, List.drop_succ_cons, List.drop_zero, List.length_cons, List.length_nil, Nat.reduceAdd, Nat.zero_add] at hE) | (refine wpl_store hE 5 rfl rfl rfl rfl rfl (by simp [go_sem]; rfl) (by rfl) (by simp [Value.cells, Value.oneCell', Act.eval]) (by simp) ?_; clear hE; intro w hE; simp only [Act.eval, getD_lit, List.getD_cons_succ, List.getD_cons_zero, Value.cells, List.set_cons_zero, List.set_cons_succ, List.take_succ_cons, List.take_zero, List.nil_append, List.cons_append, List.drop_succ_cons, List.drop_zero, List.length_cons, List.length_nil, Nat.reduceAdd, Nat.zero_add] at hE)))
  go_ret
  exact ⟨_, rfl, rfl, opener_close hc hE⟩

set_option maxRecDepth 100000 in
theorem take_uint64_ok {l : List HProp} {w : World} {o : Nat} {bs : List UInt8} (hE : Ent (opener o bs 0 :: l) w) (n : Nat) (hn : n ≤ bs.length) (k : FuncId) (hk : ∀ (args : Array Value) (w : World), (callFunc k args).run Tryd.prog w = .ok (.enter k args) w) (f : List UInt8 → Value) (hs : Says k n f) :
    Calls Tryd.prog 62 #[.pointer (some ⟨o, 0, none⟩), .int .i64 n, .func (.func k) #[] #[]] w (Ret fun v w' => v = f (bs.take n) ∧ Ent (opener o (bs.drop n) 0 :: l) w') := by
  obtain ⟨ao, c, hc, hE⟩ := opener_open hE
  have h0' : decide ((n : Int) < 0) = false := by simp
  have hn' : decide ((bs.length : Int) < n) = false := by simp; omega
  go_enter Tryd.func62, Tryd.ntmps62
  go_wp2_with (first | go_skip | ((with_reducible (show Go.wpList _ _ _ (Go.Oper.mk _ (.load _ _) _ _ _ _ :: _) _ _)); first | (refine wpl_load1 hE 0 rfl rfl rfl rfl (by simp [go_sem]) rfl ?_) | (refine wpl_load1 hE 1 rfl rfl rfl rfl (by simp [go_sem]) rfl ?_) | (refine wpl_load1 hE 2 rfl rfl rfl rfl (by simp [go_sem]) rfl ?_) | (refine wpl_load1 hE 3 rfl rfl rfl rfl (by simp [go_sem]) rfl ?_) | (refine wpl_load1 hE 4 rfl rfl rfl rfl (by simp [go_sem]) rfl ?_) | (refine wpl_load1 hE 5 rfl rfl rfl rfl (by simp [go_sem]) rfl ?_)) | ((with_reducible (show Go.wpList _ _ _ (Go.Oper.mk _ (.store _ _ _) _ _ _ _ :: _) _ _)); first | (refine wpl_store hE 0 rfl rfl rfl rfl rfl (by simp [go_sem]; rfl) (by rfl) (by simp [Value.cells, Value.oneCell', Act.eval]) (by simp) ?_; clear hE; intro w hE; simp only [Act.eval, getD_lit, List.getD_cons_succ, List.getD_cons_zero, Value.cells, List.set_cons_zero, List.set_cons_succ, List.take_succ_cons, List.take_zero, List.nil_append, List.cons_append, List.drop_succ_cons, List.drop_zero, List.length_cons, List.length_nil, Nat.reduceAdd, Nat.zero_add] at hE) | (refine wpl_store hE 1 rfl rfl rfl rfl rfl (by simp [go_sem]; rfl) (by rfl) (by simp [Value.cells, Value.oneCell', Act.eval]) (by simp) ?_; clear hE; intro w hE; simp only [Act.eval, getD_lit, List.getD_cons_succ, List.getD_cons_zero, Value.cells, List.set_cons_zero, List.set_cons_succ, List.take_succ_cons, List.take_zero, List.nil_append, List.cons_append, List.drop_succ_cons, List.drop_zero, List.length_cons, List.length_nil, Nat.reduceAdd, Nat.zero_add] at hE) | (refine wpl_store hE 2 rfl rfl rfl rfl rfl (by simp [go_sem]; rfl) (by rfl) (by simp [Value.cells, Value.oneCell', Act.eval]) (by simp) ?_; clear hE; intro w hE; simp only [Act.eval, getD_lit, List.getD_cons_succ, List.getD_cons_zero, Value.cells, List.set_cons_zero, List.set_cons_succ, List.take_succ_cons, List.take_zero, List.nil_append, List.cons_append, List.drop_succ_cons, List.drop_zero, List.length_cons, List.length_nil, Nat.reduceAdd, Nat.zero_add] at hE) | (refine wpl_store hE 3 rfl rfl rfl rfl rfl (by simp [go_sem]; rfl) (by rfl) (by simp [Value.cells, Value.oneCell', Act.eval]) (by simp) ?_; clear hE; intro w hE; simp only [Act.eval, getD_lit, List.getD_cons_succ, List.getD_cons_zero, Value.cells, List.set_cons_zero, List.set_cons_succ, List.take_succ_cons, List.take_zero, List.nil_append, List.cons_append, List.drop_succ_cons, List.drop_zero, List.length_cons, List.length_nil, Nat.reduceAdd, Nat.zero_add] at hE) | (refine wpl_store hE 4 rfl rfl rfl rfl rfl (by simp [go_sem]; rfl) (by rfl) (by simp [Value.cells, Value.oneCell', Act.eval]) (by simp) ?_; clear hE; intro w hE; simp only [Act.eval, getD_lit, List.getD_cons_succ, List.getD_cons_zero, Value.cells, List.set_cons_zero, List.set_cons_succ, List.take_succ_cons, List.take_zero, List.nil_append, List.cons_append, List.drop_succ_cons, List.drop_zero, List.length_cons, List.length_nil, Nat.reduceAdd, Nat.zero_add] at hE) | (refine wpl_store hE 5 rfl rfl rfl rfl rfl (by simp [go_sem]; rfl) (by rfl) (by simp [Value.cells, Value.oneCell', Act.eval]) (by simp) ?_; clear hE; intro w hE; simp only [Act.eval, getD_lit, List.getD_cons_succ, List.getD_cons_zero, Value.cells, List.set_cons_zero, List.set_cons_succ, List.take_succ_cons, List.take_zero, List.nil_append, List.cons_append, List.drop_succ_cons, List.drop_zero, List.length_cons, List.length_nil, Nat.reduceAdd, Nat.zero_add] at hE)) | (refine wpl_cut_hi rfl rfl rfl rfl n rfl Tryd.underlying52 Tryd.sizeOf5 (by omega) ?_) | (refine wpl_cut_lo rfl rfl rfl rfl n rfl Tryd.underlying52 Tryd.sizeOf5 (by omega) ?_))
  refine (hs _ (cutAt 1 ao c 0) c (bs.take n) _ (by simp; omega) hE (fun W hW => reads_take (hW.views 1 rfl) hn hc)).mono ?_
  rintro e w2 ⟨v, rfl, rfl, hE2⟩
  go_wp2
  go_ret
  exact ⟨_, rfl, rfl, opener_drop hc hn hE2⟩

set_option maxRecDepth 100000 in
theorem take_string_neg {l : List HProp} {w : World} {o : Nat} {bs : List UInt8} (hE : Ent (opener o bs 0 :: l) w) (n : Int) (hn : n < 0) (k : FuncId) :
    Calls Tryd.prog 64 #[.pointer (some ⟨o, 0, none⟩), .int .i64 n, .func (.func k) #[] #[]] w (Ret fun v w' => v = .string ⟨#[]⟩ ∧ Ent (opener o bs 3 :: l) w') := by
  obtain ⟨ao, c, hc, hE⟩ := opener_open hE
  have hn' : decide (n < 0) = true := by simpa using hn
  go_enter Tryd.func64, Tryd.ntmps64
  go_wp2_with (first | go_skip | ((with_reducible (show Go.wpList _ _ _ (Go.Oper.mk _ (.load _ _) _ _ _ _ :: _) _ _)); first | (refine wpl_load1 hE 0 rfl rfl rfl rfl (by simp [go_sem]) rfl ?_) | (refine wpl_load1 hE 1 rfl rfl rfl rfl (by simp [go_sem]) rfl ?_) | (refine wpl_load1 hE 2 rfl rfl rfl rfl (by simp [go_sem]) rfl ?_) | (refine wpl_load1 hE 3 rfl rfl rfl rfl (by simp [go_sem]) rfl ?_) | (refine wpl_load1 hE 4 rfl rfl rfl rfl (by simp [go_sem]) rfl ?_) | (refine wpl_load1 hE 5 rfl rfl rfl rfl (by simp [go_sem]) rfl ?_)) | ((with_reducible (show Go.wpList _ _ _ (Go.Oper.mk _ (.store _ _ _) _ _ _ _ :: _) _ _)); first | (refine wpl_store hE 0 rfl rfl rfl rfl rfl (by simp [go_sem]; rfl) (by rfl) (by simp [Value.cells, Value.oneCell', Act.eval]) (by simp) ?_; clear hE; intro w hE; simp only [Act.eval, getD_lit, List.getD_cons_succ, List.getD_cons_zero, Value.cells, List.set_cons_zero, List.set_cons_succ, List.take_succ_cons, List.take_zero, List.nil_append, List.cons_append, List.drop_succ_cons, List.drop_zero, List.length_cons, List.length_nil, Nat.reduceAdd, Nat.zero_add] at hE) | (refine wpl_store hE 1 rfl rfl rfl rfl rfl (by simp [go_sem]; rfl) (by rfl) (by simp [Value.cells, Value.oneCell', Act.eval]) (by simp) ?_; clear hE; intro w hE; simp only [Act.eval, getD_lit, List.getD_cons_succ, List.getD_cons_zero, Value.cells, List.set_cons_zero, List.set_cons_succ, List.take_succ_cons, List.take_zero, List.nil_append, List.cons_append, List.drop_succ_cons, List.drop_zero, List.length_cons, List.length_nil, Nat.reduceAdd, Nat.zero_add] at hE) | (refine wpl_store hE 2 rfl rfl rfl rfl rfl (by simp [go_sem]; rfl) (by rfl) (by simp [Value.cells, Value.oneCell', Act.eval]) (by simp) ?_; clear hE; intro w hE; simp only [Act.eval, getD_lit, List.getD_cons_succ, List.getD_cons_zero, Value.cells, List.set_cons_zero, List.set_cons_succ, List.take_succ_cons, List.take_zero, List.nil_append, List.cons_append, List.drop_succ_cons, List.drop_zero, List.length_cons, List.length_nil, Nat.reduceAdd, Nat.zero_add] at hE) | (refine wpl_store hE 3 rfl rfl rfl rfl rfl (by simp [go_sem]; rfl) (by rfl) (by simp [Value.cells, Value.oneCell', Act.eval]) (by simp) ?_; clear hE; intro w hE; simp only [Act.eval, getD_lit, List.getD_cons_succ, List.getD_cons_zero, Value.cells, List.set_cons_zero, List.set_cons_succ, List.take_succ_cons, List.take_zero, List.nil_append, List.cons_append, List.drop_succ_cons, List.drop_zero, List.length_cons, List.length_nil, Nat.reduceAdd, Nat.zero_add] at hE) | (refine wpl_store hE 4 rfl rfl rfl rfl rfl (by simp [go_sem]; rfl) (by rfl) (by simp [Value.cells, Value.oneCell', Act.eval]) (by simp) ?_; clear hE; intro w hE; simp only [Act.eval, getD_lit, List.getD_cons_succ, List.getD_cons_zero, Value.cells, List.set_cons_zero, List.set_cons_succ, List.take_succ_cons, List.take_zero, List.nil_append, List.cons_append, List.drop_succ_cons, List.drop_zero, List.length_cons, List.length_nil, Nat.reduceAdd, Nat.zero_add] at hE) | (refine wpl_store hE 5 rfl rfl rfl rfl rfl (by simp [go_sem]; rfl) (by rfl) (by simp [Value.cells, Value.oneCell', Act.eval]) (by simp) ?_; clear hE; intro w hE; simp only [Act.eval, getD_lit, List.getD_cons_succ, List.getD_cons_zero, Value.cells, List.set_cons_zero, List.set_cons_succ, List.take_succ_cons, List.take_zero, List.nil_append, List.cons_append, List.drop_succ_cons, List.drop_zero, List.length_cons, List.length_nil, Nat.reduceAdd, Nat.zero_add] at hE)))
  go_ret
  exact ⟨_, rfl, rfl, opener_close hc hE⟩

set_option maxRecDepth 100000 in
theorem take_string_many {l : List HProp} {w : World} {o : Nat} {bs : List UInt8} (hE : Ent (opener o bs 0 :: l) w) (n : Int) (h0 : 0 ≤ n) (hn : (bs.length : Int) < n) (k : FuncId) :
    Calls Tryd.prog 64 #[.pointer (some ⟨o, 0, none⟩), .int .i64 n, .func (.func k) #[] #[]] w (Ret fun v w' => v = .string ⟨#[]⟩ ∧ Ent (opener o bs 3 :: l) w') := by
  obtain ⟨ao, c, hc, hE⟩ := opener_open hE
  have h0' : decide (n < 0) = false := by simpa using h0
  have hn' : decide ((bs.length : Int) < n) = true := by simpa using hn
  go_enter Tryd.func64, Tryd.ntmps64
  go_wp2_with (first | go_skip | ((with_reducible (show Go.wpList _ _ _ (Go.Oper.mk _ (.load _ _) _ _ _ _ :: _) _ _)); first | (refine wpl_load1 hE 0 rfl rfl rfl rfl (by simp [go_sem]) rfl ?_) | (refine wpl_load1 hE 1 rfl rfl rfl rfl (by simp [go_sem]) rfl ?_) | (refine wpl_load1 hE 2 rfl rfl rfl rfl (by simp [go_sem]) rfl ?_) | (refine wpl_load1 hE 3 rfl rfl rfl rfl (by simp [go_sem]) rfl ?_) | (refine wpl_load1 hE 4 rfl rfl rfl rfl (by simp [go_sem]) rfl ?_) | (refine wpl_load1 hE 5 rfl rfl rfl rfl (by simp [go_sem]) rfl ?_)) | ((with_reducible (show Go.wpList _ _ _ (Go.Oper.mk _ (.store _ _ _) _ _ _ _ :: _) _ _)); first | (refine wpl_store hE 0 rfl rfl rfl rfl rfl (by simp [go_sem]; rfl) (by rfl) (by simp [Value.cells, Value.oneCell', Act.eval]) (by simp) ?_; clear hE; intro w hE; simp only [Act.eval, getD_lit, List.getD_cons_succ, List.getD_cons_zero, Value.cells, List.set_cons_zero, List.set_cons_succ, List.take_succ_cons, List.take_zero, List.nil_append, List.cons_append, List.drop_succ_cons, List.drop_zero, List.length_cons, List.length_nil, Nat.reduceAdd, Nat.zero_add] at hE) | (refine wpl_store hE 1 rfl rfl rfl rfl rfl (by simp [go_sem]; rfl) (by rfl) (by simp [Value.cells, Value.oneCell', Act.eval]) (by simp) ?_; clear hE; intro w hE; simp only [Act.eval, getD_lit, List.getD_cons_succ, List.getD_cons_zero, Value.cells, List.set_cons_zero, List.set_cons_succ, List.take_succ_cons, List.take_zero, List.nil_append, List.cons_append, List.drop_succ_cons, List.drop_zero, List.length_cons, List.length_nil, Nat.reduceAdd, Nat.zero_add] at hE) | (refine wpl_store hE 2 rfl rfl rfl rfl rfl (by simp [go_sem]; rfl) (by rfl) (by simp [Value.cells, Value.oneCell', Act.eval]) (by simp) ?_; clear hE; intro w hE; simp only [Act.eval, getD_lit, List.getD_cons_succ, List.getD_cons_zero, Value.cells, List.set_cons_zero, List.set_cons_succ, List.take_succ_cons, List.take_zero, List.nil_append, List.cons_append, List.drop_succ_cons, List.drop_zero, List.length_cons, List.length_nil, Nat.reduceAdd, Nat.zero_add] at hE) | (refine wpl_store hE 3 rfl rfl rfl rfl rfl (by simp [go_sem]; rfl) (by rfl) (by simp [Value.cells, Value.oneCell', Act.eval]) (by simp) ?_; clear hE; intro w hE; simp only [Act.eval, getD_lit, List.getD_cons_succ, List.getD_cons_zero, Value.cells, List.set_cons_zero, List.set_cons_succ, List.take_succ_cons, List.take_zero, List.nil_append, List.cons_append, List.drop_succ_cons, List.drop_zero, List.length_cons, List.length_nil, Nat.reduceAdd, Nat.zero_add] at hE) | (refine wpl_store hE 4 rfl rfl rfl rfl rfl (by simp [go_sem]; rfl) (by rfl) (by simp [Value.cells, Value.oneCell', Act.eval]) (by simp) ?_; clear hE; intro w hE; simp only [Act.eval, getD_lit, List.getD_cons_succ, List.getD_cons_zero, Value.cells, List.set_cons_zero, List.set_cons_succ, List.take_succ_cons, List.take_zero, List.nil_append, List.cons_append, List.drop_succ_cons, List.drop_zero, List.length_cons, List.length_nil, Nat.reduceAdd, Nat.zero_add] at hE) | (refine wpl_store hE 5 rfl rfl rfl rfl rfl (by simp [go_sem]; rfl) (by rfl) (by simp [Value.cells, Value.oneCell', Act.eval]) (by simp) ?_; clear hE; intro w hE; simp only [Act.eval, getD_lit, List.getD_cons_succ, List.getD_cons_zero, Value.cells, List.set_cons_zero, List.set_cons_succ, List.take_succ_cons, List.take_zero, List.nil_append, List.cons_append, List.drop_succ_cons, List.drop_zero, List.length_cons, List.length_nil, Nat.reduceAdd, Nat.zero_add] at hE)))
  go_ret
  exact ⟨_, rfl, rfl, opener_close hc hE⟩

set_option maxRecDepth 100000 in
theorem take_string_ok {l : List HProp} {w : World} {o : Nat} {bs : List UInt8} (hE : Ent (opener o bs 0 :: l) w) (n : Nat) (hn : n ≤ bs.length) (k : FuncId) (hk : ∀ (args : Array Value) (w : World), (callFunc k args).run Tryd.prog w = .ok (.enter k args) w) (f : List UInt8 → Value) (hs : Says k n f) :
    Calls Tryd.prog 64 #[.pointer (some ⟨o, 0, none⟩), .int .i64 n, .func (.func k) #[] #[]] w (Ret fun v w' => v = f (bs.take n) ∧ Ent (opener o (bs.drop n) 0 :: l) w') := by
  obtain ⟨ao, c, hc, hE⟩ := opener_open hE
  have h0' : decide ((n : Int) < 0) = false := by simp
  have hn' : decide ((bs.length : Int) < n) = false := by simp; omega
  go_enter Tryd.func64, Tryd.ntmps64
  go_wp2_with (first | go_skip | ((with_reducible (show Go.wpList _ _ _ (Go.Oper.mk _ (.load _ _) _ _ _ _ :: _) _ _)); first | (refine wpl_load1 hE 0 rfl rfl rfl rfl (by simp [go_sem]) rfl ?_) | (refine wpl_load1 hE 1 rfl rfl rfl rfl (by simp [go_sem]) rfl ?_) | (refine wpl_load1 hE 2 rfl rfl rfl rfl (by simp [go_sem]) rfl ?_) | (refine wpl_load1 hE 3 rfl rfl rfl rfl (by simp [go_sem]) rfl ?_) | (refine wpl_load1 hE 4 rfl rfl rfl rfl (by simp [go_sem]) rfl ?_) | (refine wpl_load1 hE 5 rfl rfl rfl rfl (by simp [go_sem]) rfl ?_)) | ((with_reducible (show Go.wpList _ _ _ (Go.Oper.mk _ (.store _ _ _) _ _ _ _ :: _) _ _)); first | (refine wpl_store hE 0 rfl rfl rfl rfl rfl (by simp [go_sem]; rfl) (by rfl) (by simp [Value.cells, Value.oneCell', Act.eval]) (by simp) ?_; clear hE; intro w hE; simp only [Act.eval, getD_lit, List.getD_cons_succ, List.getD_cons_zero, Value.cells, List.set_cons_zero, List.set_cons_succ, List.take_succ_cons, List.take_zero, List.nil_append, List.cons_append, List.drop_succ_cons, List.drop_zero, List.length_cons, List.length_nil, Nat.reduceAdd, Nat.zero_add] at hE) | (refine wpl_store hE 1 rfl rfl rfl rfl rfl (by simp [go_sem]; rfl) (by rfl) (by simp [Value.cells, Value.oneCell', Act.eval]) (by simp) ?_; clear hE; intro w hE; simp only [Act.eval, getD_lit, List.getD_cons_succ, List.getD_cons_zero, Value.cells, List.set_cons_zero, List.set_cons_succ, List.take_succ_cons, List.take_zero, List.nil_append, List.cons_append, List.drop_succ_cons, List.drop_zero, List.length_cons, List.length_nil, Nat.reduceAdd, Nat.zero_add] at hE) | (refine wpl_store hE 2 rfl rfl rfl rfl rfl (by simp [go_sem]; rfl) (by rfl) (by simp [Value.cells, Value.oneCell', Act.eval]) (by simp) ?_; clear hE; intro w hE; simp only [Act.eval, getD_lit, List.getD_cons_succ, List.getD_cons_zero, Value.cells, List.set_cons_zero, List.set_cons_succ, List.take_succ_cons, List.take_zero, List.nil_append, List.cons_append, List.drop_succ_cons, List.drop_zero, List.length_cons, List.length_nil, Nat.reduceAdd, Nat.zero_add] at hE) | (refine wpl_store hE 3 rfl rfl rfl rfl rfl (by simp [go_sem]; rfl) (by rfl) (by simp [Value.cells, Value.oneCell', Act.eval]) (by simp) ?_; clear hE; intro w hE; simp only [Act.eval, getD_lit, List.getD_cons_succ, List.getD_cons_zero, Value.cells, List.set_cons_zero, List.set_cons_succ, List.take_succ_cons, List.take_zero, List.nil_append, List.cons_append, List.drop_succ_cons, List.drop_zero, List.length_cons, List.length_nil, Nat.reduceAdd, Nat.zero_add] at hE) | (refine wpl_store hE 4 rfl rfl rfl rfl rfl (by simp [go_sem]; rfl) (by rfl) (by simp [Value.cells, Value.oneCell', Act.eval]) (by simp) ?_; clear hE; intro w hE; simp only [Act.eval, getD_lit, List.getD_cons_succ, List.getD_cons_zero, Value.cells, List.set_cons_zero, List.set_cons_succ, List.take_succ_cons, List.take_zero, List.nil_append, List.cons_append, List.drop_succ_cons, List.drop_zero, List.length_cons, List.length_nil, Nat.reduceAdd, Nat.zero_add] at hE) | (refine wpl_store hE 5 rfl rfl rfl rfl rfl (by simp [go_sem]; rfl) (by rfl) (by simp [Value.cells, Value.oneCell', Act.eval]) (by simp) ?_; clear hE; intro w hE; simp only [Act.eval, getD_lit, List.getD_cons_succ, List.getD_cons_zero, Value.cells, List.set_cons_zero, List.set_cons_succ, List.take_succ_cons, List.take_zero, List.nil_append, List.cons_append, List.drop_succ_cons, List.drop_zero, List.length_cons, List.length_nil, Nat.reduceAdd, Nat.zero_add] at hE)) | (refine wpl_cut_hi rfl rfl rfl rfl n rfl Tryd.underlying52 Tryd.sizeOf5 (by omega) ?_) | (refine wpl_cut_lo rfl rfl rfl rfl n rfl Tryd.underlying52 Tryd.sizeOf5 (by omega) ?_))
  refine (hs _ (cutAt 1 ao c 0) c (bs.take n) _ (by simp; omega) hE (fun W hW => reads_take (hW.views 1 rfl) hn hc)).mono ?_
  rintro e w2 ⟨v, rfl, rfl, hE2⟩
  go_wp2
  go_ret
  exact ⟨_, rfl, rfl, opener_drop hc hn hE2⟩
end Go.Proofs.YtehfbokkcamliaaDoor
namespace Go.Proofs.YtehfbokkcamliaaDoor
open Go.RowKit Go.SL

/-- the number of bytes -/
def beVal (l : List UInt8) : Nat := l.foldl (fun n c => (n * 256 + c.toNat) % 18446744073709551616) 0

theorem beVal_snoc (l : List UInt8) (c : UInt8) : beVal (l ++ [c]) = (beVal l * 256 + c.toNat) % 18446744073709551616 := by simp [beVal]
theorem beVal_lt (l : List UInt8) : beVal l < 18446744073709551616 := by
  rcases List.eq_nil_or_concat l with rfl | ⟨l', c, rfl⟩
  · simp [beVal]
  · rw [List.concat_eq_append, beVal_snoc]; omega

def TakeRel (ys : List UInt8) (n i : Value) : Prop := ∃ k : Nat, k ≤ ys.length ∧ i = .int .i64 k ∧ n = .int .u64 (beVal (ys.take k))

theorem be_or (a c : Nat) (ha : a < 18446744073709551616) (hc : c < 256) : bits BinOp.or IntKind.u64 (IntKind.u64.wrap ((a : Int) * 256)) (IntKind.u64.wrap (c : Int)) = ((a * 256 + c) % 18446744073709551616 : Nat) := by
  have e1 : IntKind.u64.wrap ((a : Int) * 256) = ((a % 72057594037927936 * 256 : Nat) : Int) := by
    simp only [IntKind.wrap, IntKind.bits, IntKind.signed, Bool.false_and, Bool.false_eq_true, if_false]
    omega
  have e2 : IntKind.u64.wrap (c : Int) = ((c : Nat) : Int) := by
    simp only [IntKind.wrap, IntKind.bits, IntKind.signed, Bool.false_and, Bool.false_eq_true, if_false]
    omega
  rw [e1, e2, u64_or_nat _ _ (by omega) (by omega)]
  have h := Nat.shiftLeft_add_eq_or_of_lt (a := a % 72057594037927936) (b := c) (i := 8) (by simpa using hc)
  rw [Nat.shiftLeft_eq] at h
  simp only [Nat.reducePow] at h
  rw [← h]
  congr 1
  omega

theorem TakeRel.step {ys : List UInt8} {k : Nat} (hlt : k < ys.length) : TakeRel ys (.int .u64 (bits BinOp.or IntKind.u64 (IntKind.u64.wrap ((beVal (ys.take k) : Nat) * 256 : Int)) (IntKind.u64.wrap (ys[k].toNat : Int)))) (.int .i64 ((k : Int) + 1)) := by
  refine ⟨k + 1, hlt, by simp, ?_⟩
  rw [be_or _ _ (beVal_lt _) (by have := ys[k].toNat_lt; omega), List.take_succ_eq_append_getElem hlt, beVal_snoc]

set_option maxRecDepth 100000 in
theorem Take1_any (n : Nat) (hmax : n ≤ 1099511627776) : Says 63 n (fun ys => .int .u64 (beVal ys)) := by
  intro l ao c ys w hn hE hk
  have hr := hk w hE
  subst hn
  rcases Nat.eq_zero_or_pos ys.length with h0 | h0
  · obtain rfl := List.eq_nil_of_length_eq_zero h0
    clear hr h0 hk
    go_enter Tryd.func63, Tryd.ntmps63
    go_wp2
    go_loop [3, 8] (fun n i => i = .int .i64 0 ∧ n = .int .u64 0) (fun _ _ => 0)
    case atStart => exact ⟨rfl, rfl⟩
    case round =>
      obtain ⟨rfl, rfl⟩ := hrel
      go_wp2
      go_ret
      exact ⟨_, rfl, rfl, hE⟩
  · obtain ⟨b, off, rfl, hc⟩ := reads_form hr h0 (by simpa [bvals] using h0)
    clear hr hk
    go_enter Tryd.func63, Tryd.ntmps63
    go_wp2
    go_loop [3, 8] (fun n i => TakeRel ys n i) (fun _ i => ys.length - (intOf i).toNat)
    case atStart => exact ⟨0, Nat.zero_le _, rfl, by simp [beVal]⟩
    case round =>
      obtain ⟨k, hk, rfl, rfl⟩ := hrel
      by_cases hlt : k < ys.length
      · have hck : w.cell? ⟨b, off + k, none⟩ = some (.int .u8 (ys[k].toNat : Int)) := hc k _ (by simp [bvals, bval, hlt])
        clear hc
        have hv := beVal_lt (ys.take k)
        go_wp2
        go_round
        case rel => exact TakeRel.step hlt
        case measure => simp [intOf]; omega
      · go_wp2
        go_ret
        have : k = ys.length := by omega
        subst this
        exact ⟨_, rfl, by simp, hE⟩

theorem Text1_says (n : Nat) : Says 65 n (fun ys => .string ⟨ys.toArray⟩) := by
  intro l ao c ys w hn hE hk
  have hr := hk w hE
  go_enter Tryd.func65, Tryd.ntmps65
  go_wp2_with (refine wpl_bytesStr rfl rfl rfl Tryd.underlying52 Tryd.underlying5 Tryd.underlying9 hr hn.symm ?_)
  go_ret
  exact ⟨_, rfl, rfl, hE⟩

def hashZero : Value := .agg (Array.replicate 32 (.int .u8 0))

set_option maxRecDepth 100000 in
theorem Hash1_says : Says 67 32 (fun ys => .agg (bvals ys).toArray) := by
  intro l ao c ys w hn hE hk
  have hr := hk w hE
  obtain ⟨b, off, rfl, _⟩ := reads_form hr (by decide) (by simp [bvals, hn])
  go_enter Tryd.func67, Tryd.ntmps67
  go_wp2_with (first | ((with_reducible (show Go.wpList _ _ _ (Go.Oper.mk _ (.alloc _) _ _ _ _ :: _) _ _)); refine wpl_alloc hE rfl rfl (by simp [go_sem]; rfl) ?_; clear hE; intro b w hE; simp only [Act.eval, Act.put, List.setIfInBounds_toArray, List.set_cons_zero, List.set_cons_succ, getD_lit, List.getD_cons_succ, List.getD_cons_zero, Value.cells] at hE) | (refine wpl_arrayPtr rfl rfl rfl Tryd.underlying46 (by decide) ?_) | (refine wpl_loadR rfl rfl rfl Tryd.isAgg46 Tryd.sizeOf46 (hk _ hE.tail) (by simp [bvals, hn]) ?_) | (refine wpl_storeW hE 0 rfl rfl rfl rfl rfl Tryd.sizeOf46 (by simp [bvals, hn]) (bvals_one ys) rfl ?_; clear hE; intro w hE))
  refine bodyPost_ret (v := .agg (bvals ys).toArray) (results_cellA rfl hE 0 rfl rfl Tryd.isAgg46 Tryd.sizeOf46 (by simp [bvals, hn])) rfl ?_
  exact ⟨_, rfl, rfl, hE.tail⟩
end Go.Proofs.YtehfbokkcamliaaDoor
namespace Go.Proofs.YtehfbokkcamliaaDoor
open Go.RowKit Go.SL

def hz : List UInt8 := List.replicate 32 0
theorem zeros_one : ∀ u ∈ bvals (List.replicate 32 0), u.oneCell' = true := bvals_one _

set_option maxRecDepth 100000 in
theorem take_Hash_nil {l : List HProp} {w : World} (hE : Ent l w) (n : Int) (k : FuncId) : Calls Tryd.prog 66 #[.pointer none, .int .i64 n, .func (.func k) #[] #[]] w (Ret fun v w' => v = .agg (bvals hz).toArray ∧ Ent l w') := by
  go_enter Tryd.func66, Tryd.ntmps66
  go_wp2_with (first | go_skip | ((with_reducible (show Go.wpList _ _ _ (Go.Oper.mk _ (.alloc _) _ _ _ _ :: _) _ _)); refine wpl_alloc hE rfl rfl (by simp [go_sem]; rfl) ?_; clear hE; intro b w hE; simp only [Act.eval, Act.put, List.setIfInBounds_toArray, List.set_cons_zero, List.set_cons_succ, getD_lit, List.getD_cons_succ, List.getD_cons_zero, Value.cells] at hE) | (first | (refine wpl_loadW hE 0 rfl rfl rfl rfl Tryd.isAgg46 Tryd.sizeOf46 rfl ?_) | (refine wpl_loadW hE 1 rfl rfl rfl rfl Tryd.isAgg46 Tryd.sizeOf46 rfl ?_)) | (first | (refine wpl_storeW hE 0 rfl rfl rfl rfl rfl Tryd.sizeOf46 rfl (by simp [Value.oneCell']) rfl ?_; clear hE; intro w hE) | (refine wpl_storeW hE 1 rfl rfl rfl rfl rfl Tryd.sizeOf46 rfl (by simp [Value.oneCell']) rfl ?_; clear hE; intro w hE)) | ((with_reducible (show Go.wpList _ _ _ (Go.Oper.mk _ (.load _ _) _ _ _ _ :: _) _ _)); first | (refine wpl_load1 hE 0 rfl rfl rfl rfl (by simp [go_sem]) rfl ?_) | (refine wpl_load1 hE 1 rfl rfl rfl rfl (by simp [go_sem]) rfl ?_) | (refine wpl_load1 hE 2 rfl rfl rfl rfl (by simp [go_sem]) rfl ?_) | (refine wpl_load1 hE 3 rfl rfl rfl rfl (by simp [go_sem]) rfl ?_) | (refine wpl_load1 hE 4 rfl rfl rfl rfl (by simp [go_sem]) rfl ?_) | (refine wpl_load1 hE 5 rfl rfl rfl rfl (by simp [go_sem]) rfl ?_)))
  refine bodyPost_ret (v := .agg (bvals (List.replicate 32 0)).toArray) (results_cellA rfl hE 1 rfl rfl Tryd.isAgg46 Tryd.sizeOf46 rfl) rfl ?_
  exact ⟨_, rfl, rfl, hE.tail.tail⟩

set_option maxRecDepth 100000 in
theorem take_Hash_err {l : List HProp} {w : World} {o : Nat} {bs : List UInt8} {err : Int} (he : (err == 0) = false) (hE : Ent (opener o bs err :: l) w) (n : Int) (k : FuncId) :
    Calls Tryd.prog 66 #[.pointer (some ⟨o, 0, none⟩), .int .i64 n, .func (.func k) #[] #[]] w (Ret fun v w' => v = .agg (bvals hz).toArray ∧ Ent (opener o bs err :: l) w') := by
  obtain ⟨ao, c, hc, hE⟩ := opener_open hE
  have he' : (err != 0) = true := by simpa using he
  go_enter Tryd.func66, Tryd.ntmps66
  go_wp2_with (first | go_skip | ((with_reducible (show Go.wpList _ _ _ (Go.Oper.mk _ (.alloc _) _ _ _ _ :: _) _ _)); refine wpl_alloc hE rfl rfl (by simp [go_sem]; rfl) ?_; clear hE; intro b w hE; simp only [Act.eval, Act.put, List.setIfInBounds_toArray, List.set_cons_zero, List.set_cons_succ, getD_lit, List.getD_cons_succ, List.getD_cons_zero, Value.cells] at hE) | (first | (refine wpl_loadW hE 0 rfl rfl rfl rfl Tryd.isAgg46 Tryd.sizeOf46 rfl ?_) | (refine wpl_loadW hE 1 rfl rfl rfl rfl Tryd.isAgg46 Tryd.sizeOf46 rfl ?_)) | (first | (refine wpl_storeW hE 0 rfl rfl rfl rfl rfl Tryd.sizeOf46 rfl (by simp [Value.oneCell']) rfl ?_; clear hE; intro w hE) | (refine wpl_storeW hE 1 rfl rfl rfl rfl rfl Tryd.sizeOf46 rfl (by simp [Value.oneCell']) rfl ?_; clear hE; intro w hE)) | ((with_reducible (show Go.wpList _ _ _ (Go.Oper.mk _ (.load _ _) _ _ _ _ :: _) _ _)); first | (refine wpl_load1 hE 0 rfl rfl rfl rfl (by simp [go_sem]) rfl ?_) | (refine wpl_load1 hE 1 rfl rfl rfl rfl (by simp [go_sem]) rfl ?_) | (refine wpl_load1 hE 2 rfl rfl rfl rfl (by simp [go_sem]) rfl ?_) | (refine wpl_load1 hE 3 rfl rfl rfl rfl (by simp [go_sem]) rfl ?_) | (refine wpl_load1 hE 4 rfl rfl rfl rfl (by simp [go_sem]) rfl ?_) | (refine wpl_load1 hE 5 rfl rfl rfl rfl (by simp [go_sem]) rfl ?_)))
  refine bodyPost_ret (v := .agg (bvals (List.replicate 32 0)).toArray) (results_cellA rfl hE 1 rfl rfl Tryd.isAgg46 Tryd.sizeOf46 rfl) rfl ?_
  exact ⟨_, rfl, rfl, opener_close hc hE.tail.tail⟩

set_option maxRecDepth 100000 in
theorem take_Hash_many {l : List HProp} {w : World} {o : Nat} {bs : List UInt8} (hE : Ent (opener o bs 0 :: l) w) (n : Int) (h0 : 0 ≤ n) (hn : (bs.length : Int) < n) (k : FuncId) :
    Calls Tryd.prog 66 #[.pointer (some ⟨o, 0, none⟩), .int .i64 n, .func (.func k) #[] #[]] w (Ret fun v w' => v = .agg (bvals hz).toArray ∧ Ent (opener o bs 3 :: l) w') := by
  obtain ⟨ao, c, hc, hE⟩ := opener_open hE
  have h0' : decide (n < 0) = false := by simpa using h0
  have hn' : decide ((bs.length : Int) < n) = true := by simpa using hn
  go_enter Tryd.func66, Tryd.ntmps66
  go_wp2_with (first | (first | go_skip | ((with_reducible (show Go.wpList _ _ _ (Go.Oper.mk _ (.alloc _) _ _ _ _ :: _) _ _)); refine wpl_alloc hE rfl rfl (by simp [go_sem]; rfl) ?_; clear hE; intro b w hE; simp only [Act.eval, Act.put, List.setIfInBounds_toArray, List.set_cons_zero, List.set_cons_succ, getD_lit, List.getD_cons_succ, List.getD_cons_zero, Value.cells] at hE) | (first | (refine wpl_loadW hE 0 rfl rfl rfl rfl Tryd.isAgg46 Tryd.sizeOf46 rfl ?_) | (refine wpl_loadW hE 1 rfl rfl rfl rfl Tryd.isAgg46 Tryd.sizeOf46 rfl ?_)) | (first | (refine wpl_storeW hE 0 rfl rfl rfl rfl rfl Tryd.sizeOf46 rfl (by simp [Value.oneCell']) rfl ?_; clear hE; intro w hE) | (refine wpl_storeW hE 1 rfl rfl rfl rfl rfl Tryd.sizeOf46 rfl (by simp [Value.oneCell']) rfl ?_; clear hE; intro w hE)) | ((with_reducible (show Go.wpList _ _ _ (Go.Oper.mk _ (.load _ _) _ _ _ _ :: _) _ _)); first | (refine wpl_load1 hE 0 rfl rfl rfl rfl (by simp [go_sem]) rfl ?_) | (refine wpl_load1 hE 1 rfl rfl rfl rfl (by simp [go_sem]) rfl ?_) | (refine wpl_load1 hE 2 rfl rfl rfl rfl (by simp [go_sem]) rfl ?_) | (refine wpl_load1 hE 3 rfl rfl rfl rfl (by simp [go_sem]) rfl ?_) | (refine wpl_load1 hE 4 rfl rfl rfl rfl (by simp [go_sem]) rfl ?_) | (refine wpl_load1 hE 5 rfl rfl rfl rfl (by simp [go_sem]) rfl ?_))) | ((with_reducible (show Go.wpList _ _ _ (Go.Oper.mk _ (.store _ _ _) _ _ _ _ :: _) _ _)); first | (refine wpl_store hE 0 rfl rfl rfl rfl rfl (by simp [go_sem]; rfl) (by rfl) (by simp [Value.cells, Value.oneCell', Act.eval]) (by simp) ?_; clear hE; intro w hE; simp only [Act.eval, getD_lit, List.getD_cons_succ, List.getD_cons_zero, Value.cells, List.set_cons_zero, List.set_cons_succ, List.take_succ_cons, List.take_zero, List.nil_append, List.cons_append, List.drop_succ_cons, List.drop_zero, List.length_cons, List.length_nil, Nat.reduceAdd, Nat.zero_add] at hE) | (refine wpl_store hE 1 rfl rfl rfl rfl rfl (by simp [go_sem]; rfl) (by rfl) (by simp [Value.cells, Value.oneCell', Act.eval]) (by simp) ?_; clear hE; intro w hE; simp only [Act.eval, getD_lit, List.getD_cons_succ, List.getD_cons_zero, Value.cells, List.set_cons_zero, List.set_cons_succ, List.take_succ_cons, List.take_zero, List.nil_append, List.cons_append, List.drop_succ_cons, List.drop_zero, List.length_cons, List.length_nil, Nat.reduceAdd, Nat.zero_add] at hE) | (refine wpl_store hE 2 rfl rfl rfl rfl rfl (by simp [go_sem]; rfl) (by rfl) (by simp [Value.cells, Value.oneCell', Act.eval]) (by simp) ?_; clear hE; intro w hE; simp only [Act.eval, getD_lit, List.getD_cons_succ, List.getD_cons_zero, Value.cells, List.set_cons_zero, List.set_cons_succ, List.take_succ_cons, List.take_zero, List.nil_append, List.cons_append, List.drop_succ_cons, List.drop_zero, List.length_cons, List.length_nil, Nat.reduceAdd, Nat.zero_add] at hE) | (refine wpl_store hE 3 rfl rfl rfl rfl rfl (by simp [go_sem]; rfl) (by rfl) (by simp [Value.cells, Value.oneCell', Act.eval]) (by simp) ?_; clear hE; intro w hE; simp only [Act.eval, getD_lit, List.getD_cons_succ, List.getD_cons_zero, Value.cells, List.set_cons_zero, List.set_cons_succ, List.take_succ_cons, List.take_zero, List.nil_append, List.cons_append, List.drop_succ_cons, List.drop_zero, List.length_cons, List.length_nil, Nat.reduceAdd, Nat.zero_add] at hE) | (refine wpl_store hE 4 rfl rfl rfl rfl rfl (by simp [go_sem]; rfl) (by rfl) (by simp [Value.cells, Value.oneCell', Act.eval]) (by simp) ?_; clear hE; intro w hE; simp only [Act.eval, getD_lit, List.getD_cons_succ, List.getD_cons_zero, Value.cells, List.set_cons_zero, List.set_cons_succ, List.take_succ_cons, List.take_zero, List.nil_append, List.cons_append, List.drop_succ_cons, List.drop_zero, List.length_cons, List.length_nil, Nat.reduceAdd, Nat.zero_add] at hE) | (refine wpl_store hE 5 rfl rfl rfl rfl rfl (by simp [go_sem]; rfl) (by rfl) (by simp [Value.cells, Value.oneCell', Act.eval]) (by simp) ?_; clear hE; intro w hE; simp only [Act.eval, getD_lit, List.getD_cons_succ, List.getD_cons_zero, Value.cells, List.set_cons_zero, List.set_cons_succ, List.take_succ_cons, List.take_zero, List.nil_append, List.cons_append, List.drop_succ_cons, List.drop_zero, List.length_cons, List.length_nil, Nat.reduceAdd, Nat.zero_add] at hE)))
  refine bodyPost_ret (v := .agg (bvals (List.replicate 32 0)).toArray) (results_cellA rfl hE 1 rfl rfl Tryd.isAgg46 Tryd.sizeOf46 rfl) rfl ?_
  exact ⟨_, rfl, rfl, opener_close hc hE.tail.tail⟩

set_option maxRecDepth 100000 in
theorem take_Hash_ok {l : List HProp} {w : World} {o : Nat} {bs : List UInt8} (hE : Ent (opener o bs 0 :: l) w) (n : Nat) (hn : n ≤ bs.length) (k : FuncId) (hk : ∀ (args : Array Value) (w : World), (callFunc k args).run Tryd.prog w = .ok (.enter k args) w) (f : List UInt8 → List UInt8) (hf : ∀ ys, ys.length = n → (f ys).length = 32) (hs : Says k n (fun ys => .agg (bvals (f ys)).toArray)) :
    Calls Tryd.prog 66 #[.pointer (some ⟨o, 0, none⟩), .int .i64 n, .func (.func k) #[] #[]] w (Ret fun v w' => v = .agg (bvals (f (bs.take n))).toArray ∧ Ent (opener o (bs.drop n) 0 :: l) w') := by
  obtain ⟨ao, c, hc, hE⟩ := opener_open hE
  have h0' : decide ((n : Int) < 0) = false := by simp
  have hn' : decide ((bs.length : Int) < n) = false := by simp; omega
  have h32 : (bvals (f (bs.take n))).length = 32 := by rw [bvals_length]; exact hf _ (by simp; omega)
  have H32 := SL.hid h32
  clear h32
  go_enter Tryd.func66, Tryd.ntmps66
  go_wp2_with (first | (first | go_skip | ((with_reducible (show Go.wpList _ _ _ (Go.Oper.mk _ (.alloc _) _ _ _ _ :: _) _ _)); refine wpl_alloc hE rfl rfl (by simp [go_sem]; rfl) ?_; clear hE; intro b w hE; simp only [Act.eval, Act.put, List.setIfInBounds_toArray, List.set_cons_zero, List.set_cons_succ, getD_lit, List.getD_cons_succ, List.getD_cons_zero, Value.cells] at hE) | (first | (refine wpl_loadW hE 0 rfl rfl rfl rfl Tryd.isAgg46 Tryd.sizeOf46 rfl ?_) | (refine wpl_loadW hE 1 rfl rfl rfl rfl Tryd.isAgg46 Tryd.sizeOf46 rfl ?_)) | (first | (refine wpl_storeW hE 0 rfl rfl rfl rfl rfl Tryd.sizeOf46 rfl (by simp [Value.oneCell']) rfl ?_; clear hE; intro w hE) | (refine wpl_storeW hE 1 rfl rfl rfl rfl rfl Tryd.sizeOf46 rfl (by simp [Value.oneCell']) rfl ?_; clear hE; intro w hE)) | ((with_reducible (show Go.wpList _ _ _ (Go.Oper.mk _ (.load _ _) _ _ _ _ :: _) _ _)); first | (refine wpl_load1 hE 0 rfl rfl rfl rfl (by simp [go_sem]) rfl ?_) | (refine wpl_load1 hE 1 rfl rfl rfl rfl (by simp [go_sem]) rfl ?_) | (refine wpl_load1 hE 2 rfl rfl rfl rfl (by simp [go_sem]) rfl ?_) | (refine wpl_load1 hE 3 rfl rfl rfl rfl (by simp [go_sem]) rfl ?_) | (refine wpl_load1 hE 4 rfl rfl rfl rfl (by simp [go_sem]) rfl ?_) | (refine wpl_load1 hE 5 rfl rfl rfl rfl (by simp [go_sem]) rfl ?_))) | ((with_reducible (show Go.wpList _ _ _ (Go.Oper.mk _ (.store _ _ _) _ _ _ _ :: _) _ _)); first | (refine wpl_store hE 0 rfl rfl rfl rfl rfl (by simp [go_sem]; rfl) (by rfl) (by simp [Value.cells, Value.oneCell', Act.eval]) (by simp) ?_; clear hE; intro w hE; simp only [Act.eval, getD_lit, List.getD_cons_succ, List.getD_cons_zero, Value.cells, List.set_cons_zero, List.set_cons_succ, List.take_succ_cons, List.take_zero, List.nil_append, List.cons_append, List.drop_succ_cons, List.drop_zero, List.length_cons, List.length_nil, Nat.reduceAdd, Nat.zero_add] at hE) | (refine wpl_store hE 1 rfl rfl rfl rfl rfl (by simp [go_sem]; rfl) (by rfl) (by simp [Value.cells, Value.oneCell', Act.eval]) (by simp) ?_; clear hE; intro w hE; simp only [Act.eval, getD_lit, List.getD_cons_succ, List.getD_cons_zero, Value.cells, List.set_cons_zero, List.set_cons_succ, List.take_succ_cons, List.take_zero, List.nil_append, List.cons_append, List.drop_succ_cons, List.drop_zero, List.length_cons, List.length_nil, Nat.reduceAdd, Nat.zero_add] at hE) | (refine wpl_store hE 2 rfl rfl rfl rfl rfl (by simp [go_sem]; rfl) (by rfl) (by simp [Value.cells, Value.oneCell', Act.eval]) (by simp) ?_; clear hE; intro w hE; simp only [Act.eval, getD_lit, List.getD_cons_succ, List.getD_cons_zero, Value.cells, List.set_cons_zero, List.set_cons_succ, List.take_succ_cons, List.take_zero, List.nil_append, List.cons_append, List.drop_succ_cons, List.drop_zero, List.length_cons, List.length_nil, Nat.reduceAdd, Nat.zero_add] at hE) | (refine wpl_store hE 3 rfl rfl rfl rfl rfl (by simp [go_sem]; rfl) (by rfl) (by simp [Value.cells, Value.oneCell', Act.eval]) (by simp) ?_; clear hE; intro w hE; simp only [Act.eval, getD_lit, List.getD_cons_succ, List.getD_cons_zero, Value.cells, List.set_cons_zero, List.set_cons_succ, List.take_succ_cons, List.take_zero, List.nil_append, List.cons_append, List.drop_succ_cons, List.drop_zero, List.length_cons, List.length_nil, Nat.reduceAdd, Nat.zero_add] at hE) | (refine wpl_store hE 4 rfl rfl rfl rfl rfl (by simp [go_sem]; rfl) (by rfl) (by simp [Value.cells, Value.oneCell', Act.eval]) (by simp) ?_; clear hE; intro w hE; simp only [Act.eval, getD_lit, List.getD_cons_succ, List.getD_cons_zero, Value.cells, List.set_cons_zero, List.set_cons_succ, List.take_succ_cons, List.take_zero, List.nil_append, List.cons_append, List.drop_succ_cons, List.drop_zero, List.length_cons, List.length_nil, Nat.reduceAdd, Nat.zero_add] at hE) | (refine wpl_store hE 5 rfl rfl rfl rfl rfl (by simp [go_sem]; rfl) (by rfl) (by simp [Value.cells, Value.oneCell', Act.eval]) (by simp) ?_; clear hE; intro w hE; simp only [Act.eval, getD_lit, List.getD_cons_succ, List.getD_cons_zero, Value.cells, List.set_cons_zero, List.set_cons_succ, List.take_succ_cons, List.take_zero, List.nil_append, List.cons_append, List.drop_succ_cons, List.drop_zero, List.length_cons, List.length_nil, Nat.reduceAdd, Nat.zero_add] at hE)) | (refine wpl_cut_hi rfl rfl rfl rfl n rfl Tryd.underlying52 Tryd.sizeOf5 (by omega) ?_) | (refine wpl_cut_lo rfl rfl rfl rfl n rfl Tryd.underlying52 Tryd.sizeOf5 (by omega) ?_))
  refine (hs _ (cutAt 1 ao c 0) c (bs.take n) _ (by simp; omega) hE (fun W hW => reads_take (hW.views 3 rfl) hn hc)).mono ?_
  rintro e w2 ⟨v, rfl, rfl, hE⟩
  go_wp2_with (refine wpl_storeW hE 1 rfl rfl rfl rfl rfl Tryd.sizeOf46 H32.out (bvals_one _) rfl ?_; clear hE; intro w hE)
  refine bodyPost_ret (v := .agg (bvals (f (bs.take n))).toArray) (results_cellA rfl hE 1 rfl rfl Tryd.isAgg46 Tryd.sizeOf46 H32.out) rfl ?_
  exact ⟨_, rfl, rfl, opener_drop hc hn hE.tail.tail⟩
end Go.Proofs.YtehfbokkcamliaaDoor
namespace Go.Proofs.YtehfbokkcamliaaDoor
open Go.RowKit Go.SL

theorem tk_cases (n : Int) (bs : List UInt8) (err : Int) :
    ((err == 0) = false ∧ tkOk n bs err = false ∧ tkB n bs err = bs ∧ tkE n bs err = err) ∨ (err = 0 ∧ n < 0 ∧ tkOk n bs err = false ∧ tkB n bs err = bs ∧ tkE n bs err = 3) ∨
      (err = 0 ∧ 0 ≤ n ∧ (bs.length : Int) < n ∧ tkOk n bs err = false ∧ tkB n bs err = bs ∧ tkE n bs err = 3) ∨ (err = 0 ∧ ∃ k : Nat, n = k ∧ k ≤ bs.length ∧ tkOk n bs err = true ∧ tkB n bs err = bs.drop k ∧ tkE n bs err = 0) := by
  by_cases h0 : err = 0
  · right
    subst h0
    by_cases h1 : n < 0
    · left
      have : decide (0 ≤ n) = false := by simpa using h1
      simp [tkOk, tkB, tkE, this, h1]
    · have h1' : 0 ≤ n := by omega
      right
      by_cases h2 : (bs.length : Int) < n
      · left
        have e1 : decide (0 ≤ n) = true := by simpa using h1'
        have e2 : decide (n ≤ (bs.length : Int)) = false := by simpa using h2
        simp [tkOk, tkB, tkE, e1, e2, h1', h2]
      · right
        obtain ⟨k, rfl⟩ := Int.eq_ofNat_of_zero_le h1'
        have h2' : k ≤ bs.length := by omega
        refine ⟨rfl, k, rfl, h2', ?_⟩
        simp [tkOk, tkB, tkE, h2']
  · left
    have : (err == 0) = false := by simpa using h0
    simp [tkOk, tkB, tkE, this]

def valT (ok : Bool) (bs : List UInt8) (n : Int) : Nat := if ok then beVal (bs.take n.toNat) else 0
def strT (ok : Bool) (bs : List UInt8) (n : Int) : List UInt8 := if ok then bs.take n.toNat else []
def hashT (ok : Bool) (bs : List UInt8) (n : Int) : List UInt8 := if ok then bs.take n.toNat else hz

theorem take_uint64_any {l : List HProp} {w : World} {o : Nat} {bs : List UInt8} {err : Int} (hE : Ent (opener o bs err :: l) w) (hb : bs.length ≤ 1099511627776) (n : Int) :
    Calls Tryd.prog 62 #[.pointer (some ⟨o, 0, none⟩), .int .i64 n, .func (.func 63) #[] #[]] w (Ret fun v w' => v = .int .u64 (valT (tkOk n bs err) bs n) ∧ Ent (opener o (tkB n bs err) (tkE n bs err) :: l) w') := by
  rcases tk_cases n bs err with ⟨h0, h1, h2, h3⟩ | ⟨rfl, h0, h1, h2, h3⟩ | ⟨rfl, h0, h0', h1, h2, h3⟩ | ⟨rfl, k, rfl, hk, h1, h2, h3⟩
  · rw [h1, h2, h3]; exact take_uint64_err h0 hE n _
  · rw [h1, h2, h3]; exact take_uint64_neg hE n h0 _
  · rw [h1, h2, h3]; exact take_uint64_many hE n h0 h0' _
  · rw [h1, h2, h3]
    exact take_uint64_ok hE k hk _ Tryd.call63 (fun ys => .int .u64 (beVal ys)) (Take1_any k (by omega))

theorem take_string_any {l : List HProp} {w : World} {o : Nat} {bs : List UInt8} {err : Int} (hE : Ent (opener o bs err :: l) w) (hb : bs.length ≤ 1099511627776) (n : Int) :
    Calls Tryd.prog 64 #[.pointer (some ⟨o, 0, none⟩), .int .i64 n, .func (.func 65) #[] #[]] w (Ret fun v w' => v = .string ⟨(strT (tkOk n bs err) bs n).toArray⟩ ∧ Ent (opener o (tkB n bs err) (tkE n bs err) :: l) w') := by
  rcases tk_cases n bs err with ⟨h0, h1, h2, h3⟩ | ⟨rfl, h0, h1, h2, h3⟩ | ⟨rfl, h0, h0', h1, h2, h3⟩ | ⟨rfl, k, rfl, hk, h1, h2, h3⟩
  · rw [h1, h2, h3]; exact take_string_err h0 hE n _
  · rw [h1, h2, h3]; exact take_string_neg hE n h0 _
  · rw [h1, h2, h3]; exact take_string_many hE n h0 h0' _
  · rw [h1, h2, h3]
    exact take_string_ok hE k hk _ Tryd.call65 (fun ys => .string ⟨ys.toArray⟩) (Text1_says k)

theorem take_Hash_any {l : List HProp} {w : World} {o : Nat} {bs : List UInt8} {err : Int} (hE : Ent (opener o bs err :: l) w) :
    Calls Tryd.prog 66 #[.pointer (some ⟨o, 0, none⟩), .int .i64 32, .func (.func 67) #[] #[]] w (Ret fun v w' => v = .agg (bvals (hashT (tkOk 32 bs err) bs 32)).toArray ∧ Ent (opener o (tkB 32 bs err) (tkE 32 bs err) :: l) w') := by
  rcases tk_cases 32 bs err with ⟨h0, h1, h2, h3⟩ | ⟨rfl, h0, h1, h2, h3⟩ | ⟨rfl, h0, h0', h1, h2, h3⟩ | ⟨rfl, k, hk', hk, h1, h2, h3⟩
  · rw [h1, h2, h3]; exact take_Hash_err h0 hE 32 _
  · omega
  · rw [h1, h2, h3]; exact take_Hash_many hE 32 h0 h0' _
  · rw [h1, h2, h3]
    obtain rfl : k = 32 := by omega
    exact take_Hash_ok hE 32 hk _ Tryd.call67 (fun ys => ys) (fun _ h => h) Hash1_says

theorem hashT_length (bs : List UInt8) (err : Int) : (hashT (tkOk 32 bs err) bs 32).length = 32 := by
  unfold hashT
  split
  · rename_i h
    simp only [tkOk, Bool.and_eq_true, decide_eq_true_eq] at h
    simp
    omega
  · rfl

theorem Left_any {l : List HProp} {w : World} {o : Nat} {bs : List UInt8} {err : Int} (hE : Ent (opener o bs err :: l) w) :
    Calls Tryd.prog 32 #[.pointer (some ⟨o, 0, none⟩)] w (fun e w' => e = .returned (.int .i64 bs.length) ∧ w = w') := by
  obtain ⟨ao, c, hc, hE⟩ := opener_open hE
  go_enter Tryd.func32, Tryd.ntmps32
  go_wp2_with (first | ((with_reducible (show Go.wpList _ _ _ (Go.Oper.mk _ (.load _ _) _ _ _ _ :: _) _ _)); first | (refine wpl_load1 hE 0 rfl rfl rfl rfl (by simp [go_sem]) rfl ?_) | (refine wpl_load1 hE 1 rfl rfl rfl rfl (by simp [go_sem]) rfl ?_) | (refine wpl_load1 hE 2 rfl rfl rfl rfl (by simp [go_sem]) rfl ?_) | (refine wpl_load1 hE 3 rfl rfl rfl rfl (by simp [go_sem]) rfl ?_) | (refine wpl_load1 hE 4 rfl rfl rfl rfl (by simp [go_sem]) rfl ?_) | (refine wpl_load1 hE 5 rfl rfl rfl rfl (by simp [go_sem]) rfl ?_)))
  go_ret
  exact ⟨rfl, rfl⟩
theorem Left_nil (w : World) : Calls Tryd.prog 32 #[.pointer none] w (fun e w' => e = .returned (.int .i64 0) ∧ w = w') := by
  go_enter Tryd.func32, Tryd.ntmps32
  go_wp2
  go_ret
  exact ⟨rfl, rfl⟩
theorem Err_any {l : List HProp} {w : World} {o : Nat} {bs : List UInt8} {err : Int} (hE : Ent (opener o bs err :: l) w) :
    Calls Tryd.prog 75 #[.pointer (some ⟨o, 0, none⟩)] w (fun e w' => e = .returned (.int .i64 err) ∧ w = w') := by
  obtain ⟨ao, c, hc, hE⟩ := opener_open hE
  go_enter Tryd.func75, Tryd.ntmps75
  go_wp2_with (first | ((with_reducible (show Go.wpList _ _ _ (Go.Oper.mk _ (.load _ _) _ _ _ _ :: _) _ _)); first | (refine wpl_load1 hE 0 rfl rfl rfl rfl (by simp [go_sem]) rfl ?_) | (refine wpl_load1 hE 1 rfl rfl rfl rfl (by simp [go_sem]) rfl ?_) | (refine wpl_load1 hE 2 rfl rfl rfl rfl (by simp [go_sem]) rfl ?_) | (refine wpl_load1 hE 3 rfl rfl rfl rfl (by simp [go_sem]) rfl ?_) | (refine wpl_load1 hE 4 rfl rfl rfl rfl (by simp [go_sem]) rfl ?_) | (refine wpl_load1 hE 5 rfl rfl rfl rfl (by simp [go_sem]) rfl ?_)))
  go_ret
  exact ⟨rfl, rfl⟩
theorem Err_nil (w : World) : Calls Tryd.prog 75 #[.pointer none] w (fun e w' => e = .returned (.int .i64 1) ∧ w = w') := by
  go_enter Tryd.func75, Tryd.ntmps75
  go_wp2
  go_ret
  exact ⟨rfl, rfl⟩

def endE (bs : List UInt8) (err : Int) : Int := if err == 0 && !bs.isEmpty then 3 else err
theorem End_any {l : List HProp} {w : World} {o : Nat} {bs : List UInt8} {err : Int} (hE : Ent (opener o bs err :: l) w) :
    Calls Tryd.prog 36 #[.pointer (some ⟨o, 0, none⟩)] w (fun e w' => e = .returned (.int .i64 (endE bs err)) ∧ w = w') := by
  cases he : (err == 0) with
  | false =>
    have he' : (err != 0) = true := by simp only [bne, he]; rfl
    have hr : endE bs err = err := by simp [endE, he]
    rw [hr]
    go_enter Tryd.func36, Tryd.ntmps36
    go_wp2_with (first | go_skip | (go_at_call 75; refine (Err_any hE).mono ?_; rintro e w2 ⟨rfl, rfl⟩) | (go_at_call 32; refine (Left_any hE).mono ?_; rintro e w2 ⟨rfl, rfl⟩))
    go_ret
    exact ⟨rfl, rfl⟩
  | true =>
    obtain rfl : err = 0 := by simpa using he
    cases bs with
    | nil =>
      go_enter Tryd.func36, Tryd.ntmps36
      go_wp2_with (first | go_skip | (go_at_call 75; refine (Err_any hE).mono ?_; rintro e w2 ⟨rfl, rfl⟩) | (go_at_call 32; refine (Left_any hE).mono ?_; rintro e w2 ⟨rfl, rfl⟩))
      go_ret
      exact ⟨rfl, rfl⟩
    | cons b bs =>
      have hl : ((((b :: bs).length : Nat) : Int) == 0) = false := by simp; omega
      go_enter Tryd.func36, Tryd.ntmps36
      go_wp2_with (first | go_skip | (go_at_call 75; refine (Err_any hE).mono ?_; rintro e w2 ⟨rfl, rfl⟩) | (go_at_call 32; refine (Left_any hE).mono ?_; rintro e w2 ⟨rfl, rfl⟩))
      go_ret
      exact ⟨rfl, rfl⟩
theorem End_nil (w : World) : Calls Tryd.prog 36 #[.pointer none] w (fun e w' => e = .returned (.int .i64 1) ∧ w = w') := by
  go_enter Tryd.func36, Tryd.ntmps36
  go_wp2
  go_ret
  exact ⟨rfl, rfl⟩
end Go.Proofs.YtehfbokkcamliaaDoor
namespace Go.Proofs.YtehfbokkcamliaaDoor
open Go.RowKit Go.SL

def wideN (width : Int) : Int := if wideB width then width else -1

theorem oTake_any {l : List HProp} {w : World} {o : Nat} {bs : List UInt8} {err : Int} (hE : Ent (opener o bs err :: l) w) (hb : bs.length ≤ 1099511627776) (width : Int) :
    Calls Tryd.prog 30 #[.pointer (some ⟨o, 0, none⟩), .int .i64 width] w (Ret fun v w' => v = .int .u64 (valT (tkOk (wideN width) bs err) bs (wideN width)) ∧ Ent (opener o (tkB (wideN width) bs err) (tkE (wideN width) bs err) :: l) w') := by
  cases hw : wideB width with
  | true =>
    have hn : wideN width = width := by simp [wideN, hw]
    rw [hn]
    clear hn
    go_enter Tryd.func30, Tryd.ntmps30
    go_wp2_with (first | (go_at_call 61; refine (wide_is _ true hw _).mono ?_; rintro e w2 ⟨rfl, rfl⟩) | (go_at_call 62; refine (take_uint64_any hE hb _).mono ?_; rintro e w2 ⟨v, rfl, rfl, hE⟩))
    go_ret
    exact ⟨_, rfl, rfl, hE⟩
  | false =>
    have hn : wideN width = -1 := by simp [wideN, hw]
    rw [hn]
    clear hn
    go_enter Tryd.func30, Tryd.ntmps30
    go_wp2_with (first | (go_at_call 61; refine (wide_is _ false hw _).mono ?_; rintro e w2 ⟨rfl, rfl⟩) | (go_at_call 62; refine (take_uint64_any hE hb _).mono ?_; rintro e w2 ⟨v, rfl, rfl, hE⟩))
    go_ret
    exact ⟨_, rfl, rfl, hE⟩

theorem oTake_nil (width : Int) (hw : wideB width = true) (w : World) :
    Calls Tryd.prog 30 #[.pointer none, .int .i64 width] w (fun e w' => e = .returned (.int .u64 0) ∧ w = w') := by
  go_enter Tryd.func30, Tryd.ntmps30
  go_wp2_with (first | (go_at_call 61; refine (wide_is _ true hw _).mono ?_; rintro e w2 ⟨rfl, rfl⟩) | (go_at_call 62; refine (take_uint64_nil _ _ _).mono ?_; rintro e w2 ⟨rfl, rfl⟩))
  go_ret
  exact ⟨rfl, rfl⟩

theorem oText_any {l : List HProp} {w : World} {o : Nat} {bs : List UInt8} {err : Int} (hE : Ent (opener o bs err :: l) w) (hb : bs.length ≤ 1099511627776) (n : Int) :
    Calls Tryd.prog 31 #[.pointer (some ⟨o, 0, none⟩), .int .i64 n] w (Ret fun v w' => v = .string ⟨(strT (tkOk n bs err) bs n).toArray⟩ ∧ Ent (opener o (tkB n bs err) (tkE n bs err) :: l) w') := by
  go_enter Tryd.func31, Tryd.ntmps31
  go_wp2_with (go_at_call 64; refine (take_string_any hE hb _).mono ?_; rintro e w2 ⟨v, rfl, rfl, hE⟩)
  go_ret
  exact ⟨_, rfl, rfl, hE⟩

theorem oText_nil (n : Int) (w : World) : Calls Tryd.prog 31 #[.pointer none, .int .i64 n] w (fun e w' => e = .returned (.string ⟨#[]⟩) ∧ w = w') := by
  go_enter Tryd.func31, Tryd.ntmps31
  go_wp2_with (go_at_call 64; refine (take_string_nil _ _ _).mono ?_; rintro e w2 ⟨rfl, rfl⟩)
  go_ret
  exact ⟨rfl, rfl⟩

set_option maxRecDepth 100000 in
theorem oHash_any {l : List HProp} {w : World} {o : Nat} {bs : List UInt8} {err : Int} (hE : Ent (opener o bs err :: l) w) :
    Calls Tryd.prog 34 #[.pointer (some ⟨o, 0, none⟩)] w (Ret fun v w' => v = .agg (bvals (hashT (tkOk 32 bs err) bs 32)).toArray ∧ Ent (opener o (tkB 32 bs err) (tkE 32 bs err) :: l) w') := by
  have H32 := SL.hid (show (bvals (hashT (tkOk 32 bs err) bs 32)).length = 32 by rw [bvals_length, hashT_length])
  go_enter Tryd.func34, Tryd.ntmps34
  go_wp2_with (first | ((with_reducible (show Go.wpList _ _ _ (Go.Oper.mk _ (.alloc _) _ _ _ _ :: _) _ _)); refine wpl_alloc hE rfl rfl (by simp [go_sem]; rfl) ?_; clear hE; intro b w hE; simp only [Act.eval, Act.put, List.setIfInBounds_toArray, List.set_cons_zero, List.set_cons_succ, getD_lit, List.getD_cons_succ, List.getD_cons_zero, Value.cells] at hE) | (go_at_call 66; refine (take_Hash_any (hE.front 1 rfl)).mono ?_; rintro e w2 ⟨v, rfl, rfl, hE⟩) | (refine wpl_storeW hE 1 rfl rfl rfl rfl rfl Tryd.sizeOf46 H32.out (bvals_one _) rfl ?_; clear hE; intro w hE))
  refine bodyPost_ret (v := .agg (bvals (hashT (tkOk 32 bs err) bs 32)).toArray) (results_cellA rfl hE 1 rfl rfl Tryd.isAgg46 Tryd.sizeOf46 H32.out) rfl ?_
  exact ⟨_, rfl, rfl, hE.erase 1⟩

set_option maxRecDepth 100000 in
theorem oHash_nil {l : List HProp} {w : World} (hE : Ent l w) :
    Calls Tryd.prog 34 #[.pointer none] w (Ret fun v w' => v = .agg (bvals hz).toArray ∧ Ent l w') := by
  have H32 := SL.hid (show (bvals hz).length = 32 by rfl)
  go_enter Tryd.func34, Tryd.ntmps34
  go_wp2_with (first | ((with_reducible (show Go.wpList _ _ _ (Go.Oper.mk _ (.alloc _) _ _ _ _ :: _) _ _)); refine wpl_alloc hE rfl rfl (by simp [go_sem]; rfl) ?_; clear hE; intro b w hE; simp only [Act.eval, Act.put, List.setIfInBounds_toArray, List.set_cons_zero, List.set_cons_succ, getD_lit, List.getD_cons_succ, List.getD_cons_zero, Value.cells] at hE) | (go_at_call 66; refine (take_Hash_nil hE _ _).mono ?_; rintro e w2 ⟨v, rfl, rfl, hE⟩) | (refine wpl_storeW hE 0 rfl rfl rfl rfl rfl Tryd.sizeOf46 H32.out (bvals_one _) rfl ?_; clear hE; intro w hE))
  refine bodyPost_ret (v := .agg (bvals hz).toArray) (results_cellA rfl hE 0 rfl rfl Tryd.isAgg46 Tryd.sizeOf46 H32.out) rfl ?_
  exact ⟨_, rfl, rfl, hE.tail⟩

/-- what is read of a name: the text, what is left, the error -/
def nameOk (bs : List UInt8) : Bool := match bs with | [] => false | c :: r => decide (c.toNat ≤ r.length)
end Go.Proofs.YtehfbokkcamliaaDoor
