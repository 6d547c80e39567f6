/-
  Separation lists over the model's worlds: what is known of memory is a list of assertions with disjoint footprints; the rules for loads, stores, new blocks and appends are stated over such a list. Conditions: none; plain lemmas over any program.
-/
import Derived.WalkKit
import Derived.WalkSpells
import Derived.WalkLawsBesides
import Derived.Maps.AppendAt
import Derived.Deep.AppendSrc
import Derived.Lib.ConvBytes
import Derived.ChangeKeysEq
import Derived.ProofKit
import Derived.OpenShut
import Derived.ShutString
import Derived.ChangeOld
import Derived.ChangeMaps5
import Derived.Carry
import Derived.Below
import Derived.Deep.Slices
import Derived.Deep.Fields
import Derived.ChangeSame
import Derived.StillTailTactics
import Derived.Laws.BitsAllLaws
import Derived.Laws.OwnMore
import Derived.Lib.SliceRun
import Derived.MapKept
import Derived.RangeFuncNested
import Derived.RangeFuncCalls
import Derived.RangeFuncLeaves
import Derived.OwnWalkIn
import Derived.TacticsInMore
import Derived.LoopNIn
import Derived.LoopIn
import Derived.Test.YtjdignaddfhohaaDoorChecked
import Derived.Shelf.Lay
import Derived.Shelf.Strings.OnBuilder
import Derived.Shelf.Strings.Search3
import Derived.Shelf.Spec.SearchS
namespace Go.SL

structure Same (w w' : World) : Prop where
  os : w'.os = w.os
  tape : w'.tape = w.tape
  output : w'.output = w.output

theorem Same.refl (w : World) : Same w w := ⟨rfl, rfl, rfl⟩
theorem Same.trans {a b c : World} (h : Same a b) (k : Same b c) : Same a c := ⟨k.os.trans h.os, k.tape.trans h.tape, k.output.trans h.output⟩

structure HProp where
  on : World → (Nat → Prop) → Prop
  stable : ∀ {w w' : World} {F : Nat → Prop}, Same w w' → w.heap.size ≤ w'.heap.size → (∀ b, F b → w'.heap[b]? = w.heap[b]?) → on w F → on w' F
  bound : ∀ {w : World} {F : Nat → Prop} {b : Nat}, on w F → F b → b < w.heap.size

def emp : HProp where
  on _ F := ∀ b, ¬ F b
  stable _ _ _ h := h
  bound h hb := (h _ hb).elim

def star (A B : HProp) : HProp where
  on w F := ∃ F1 F2, A.on w F1 ∧ B.on w F2 ∧ (∀ b, F1 b → ¬ F2 b) ∧ (∀ b, F b ↔ F1 b ∨ F2 b)
  stable := fun hs hz h ⟨F1, F2, h1, h2, hd, hF⟩ =>
    ⟨F1, F2, A.stable hs hz (fun b hb => h b ((hF b).2 (.inl hb))) h1, B.stable hs hz (fun b hb => h b ((hF b).2 (.inr hb))) h2, hd, hF⟩
  bound := fun ⟨F1, F2, h1, h2, _, hF⟩ hb => by
    rcases (hF _).1 hb with h | h
    · exact A.bound h1 h
    · exact B.bound h2 h

def all : List HProp → HProp
  | [] => emp
  | A :: l => star A (all l)

/-- what is known of a world -/
def Ent (l : List HProp) (w : World) : Prop := ∃ F, (all l).on w F

/-- a block, known whole -/
def pt (b : Nat) (o : Obj) : HProp where
  on w F := w.heap[b]? = some o ∧ ∀ x, F x ↔ x = b
  stable := fun _ _ h ⟨hb, hF⟩ => ⟨(h b ((hF b).2 rfl)).trans hb, hF⟩
  bound := fun ⟨hb, hF⟩ hx => by
    obtain rfl := (hF _).1 hx
    exact (Array.getElem?_eq_some_iff.1 hb).1

/-- a fact of no footprint -/
def pure' (p : Prop) : HProp where
  on _ F := p ∧ ∀ b, ¬ F b
  stable _ _ _ h := h
  bound h hb := (h.2 _ hb).elim

/-- what was there at the beginning, but for the blocks of S, is as it was -/
def rest (w0 : World) (S : Nat → Prop) : HProp where
  on w F := Same w0 w ∧ w0.heap.size ≤ w.heap.size ∧ (∀ b, F b ↔ b < w0.heap.size ∧ ¬ S b) ∧ ∀ b, F b → w.heap[b]? = w0.heap[b]?
  stable := fun hs hz h ⟨h1, h2, h3, h4⟩ => ⟨h1.trans hs, Nat.le_trans h2 hz, h3, fun b hb => (h b hb).trans (h4 b hb)⟩
  bound := fun ⟨_, h2, h3, _⟩ hb => Nat.lt_of_lt_of_le ((h3 _).1 hb).1 h2

/-- an assertion given by a family of lists -/
def ex {α : Sort _} (f : α → List HProp) : HProp where
  on w F := ∃ x, (all (f x)).on w F
  stable := fun hs hz h ⟨x, hx⟩ => ⟨x, (all (f x)).stable hs hz h hx⟩
  bound := fun ⟨x, hx⟩ hb => (all (f x)).bound hx hb

theorem all_append_on {l m : List HProp} {w : World} {F : Nat → Prop} : (all (l ++ m)).on w F ↔ (star (all l) (all m)).on w F := by
  induction l generalizing F with
  | nil =>
    constructor
    · intro h
      exact ⟨fun _ => False, F, fun b hb => hb, h, fun _ hb => hb.elim, fun b => by simp⟩
    · rintro ⟨F1, F2, h1, h2, hd, hF⟩
      have : F = F2 := funext fun b => propext ⟨fun hb => ((hF b).1 hb).resolve_left (h1 b), fun hb => (hF b).2 (.inr hb)⟩
      subst this
      exact h2
  | cons A l ih =>
    constructor
    · rintro ⟨F1, F2, h1, h2, hd, hF⟩
      obtain ⟨G1, G2, g1, g2, gd, gF⟩ := ih.1 h2
      refine ⟨fun b => F1 b ∨ G1 b, G2, ⟨F1, G1, h1, g1, fun b hb hb' => hd b hb ((gF b).2 (.inl hb')), fun _ => Iff.rfl⟩, g2, ?_, ?_⟩
      · rintro b (hb | hb) hb2
        · exact hd b hb ((gF b).2 (.inr hb2))
        · exact gd b hb hb2
      · intro b
        rw [hF, gF, or_assoc]
    · rintro ⟨F1, F2, ⟨G1, G2, g1, g2, gd, gF⟩, h2, hd, hF⟩
      refine ⟨G1, fun b => G2 b ∨ F2 b, g1, ih.2 ⟨G2, F2, g2, h2, fun b hb hb' => hd b ((gF b).2 (.inr hb)) hb', fun _ => Iff.rfl⟩, ?_, ?_⟩
      · rintro b hb (hb2 | hb2)
        · exact gd b hb hb2
        · exact hd b ((gF b).2 (.inl hb)) hb2
      · intro b
        rw [hF, gF, or_assoc]

theorem star_comm_on {A B : HProp} {w : World} {F : Nat → Prop} (h : (star A B).on w F) : (star B A).on w F := by
  obtain ⟨F1, F2, h1, h2, hd, hF⟩ := h
  exact ⟨F2, F1, h2, h1, fun b hb hb' => hd b hb' hb, fun b => by rw [hF, or_comm]⟩

theorem perm_on {l m : List HProp} (h : l.Perm m) {w : World} {F : Nat → Prop} (hl : (all l).on w F) : (all m).on w F := by
  induction h generalizing F with
  | nil => exact hl
  | cons A _ ih =>
    obtain ⟨F1, F2, h1, h2, hd, hF⟩ := hl
    exact ⟨F1, F2, h1, ih h2, hd, hF⟩
  | swap A B l =>
    obtain ⟨F1, F2, h1, ⟨G1, G2, g1, g2, gd, gF⟩, hd, hF⟩ := hl
    refine ⟨G1, fun b => F1 b ∨ G2 b, g1, ⟨F1, G2, h1, g2, fun b hb hb' => hd b hb ((gF b).2 (.inr hb')), fun _ => Iff.rfl⟩, ?_, ?_⟩
    · rintro b hb (hb2 | hb2)
      · exact hd b hb2 ((gF b).2 (.inl hb))
      · exact gd b hb hb2
    · intro b
      rw [hF, gF]
      constructor <;> (rintro (h | h | h) <;> simp [h])
  | trans _ _ ih1 ih2 => exact ih2 (ih1 hl)

theorem Ent.perm {l m : List HProp} {w : World} (hl : Ent l w) (h : l.Perm m) : Ent m w := let ⟨F, hF⟩ := hl; ⟨F, perm_on h hF⟩

theorem perm_front {l : List HProp} {i : Nat} {A : HProp} (h : l[i]? = some A) : l.Perm (A :: l.eraseIdx i) := by
  obtain ⟨hi, rfl⟩ := List.getElem?_eq_some_iff.1 h
  clear h
  induction l generalizing i with
  | nil => simp at hi
  | cons B l ih =>
    cases i with
    | zero => simp
    | succ i =>
      have := ih (i := i) (by simpa using hi)
      simp only [List.getElem_cons_succ, List.eraseIdx_cons_succ]
      exact (this.cons B).trans (.swap _ _ _)

/-- the i-th to the front -/
theorem Ent.front {l : List HProp} {w : World} (hl : Ent l w) (i : Nat) {A : HProp} (h : l[i]? = some A) : Ent (A :: l.eraseIdx i) w := hl.perm (perm_front h)

/-- and back to its place -/
theorem Ent.put {l : List HProp} {w : World} {i : Nat} {A : HProp} (hl : Ent (A :: l.eraseIdx i) w) (h : i < l.length) : Ent (l.set i A) w := by
  refine hl.perm ?_
  have h1 : (l.set i A)[i]? = some A := by simp [h]
  have h2 := perm_front h1
  rw [List.eraseIdx_set_eq] at h2
  exact h2.symm

theorem Ent.tail {A : HProp} {l : List HProp} {w : World} (h : Ent (A :: l) w) : Ent l w := let ⟨_, _, F2, _, h2, _⟩ := h; ⟨F2, h2⟩
theorem Ent.drop {l m : List HProp} {w : World} (h : Ent (l ++ m) w) : Ent m w := let ⟨_, hF⟩ := h; let ⟨_, F2, _, h2, _⟩ := all_append_on.1 hF; ⟨F2, h2⟩
theorem Ent.erase {l : List HProp} {w : World} (h : Ent l w) (i : Nat) : Ent (l.eraseIdx i) w := by
  by_cases hi : i < l.length
  · exact (h.front i (List.getElem?_eq_getElem hi)).tail
  · rw [List.eraseIdx_of_length_le (by omega)]; exact h

/-- THE STEP: the head's blocks may turn, new ones come, all else is as it was -/
theorem Ent.step {A : HProp} {Bs l : List HProp} {w w' : World} (h : Ent (A :: l) w) (hs : Same w w') (hz : w.heap.size ≤ w'.heap.size)
    (hup : ∀ F, A.on w F → (∀ b, b < w.heap.size → ¬ F b → w'.heap[b]? = w.heap[b]?) ∧ ∃ F', (all Bs).on w' F' ∧ ∀ b, F' b → F b ∨ w.heap.size ≤ b) : Ent (Bs ++ l) w' := by
  obtain ⟨F, F1, F2, h1, h2, hd, hF⟩ := h
  obtain ⟨hk, F', h', hF'⟩ := hup F1 h1
  have h2' : (all l).on w' F2 := (all l).stable hs hz (fun b hb => hk b ((all l).bound h2 hb) (fun h => hd b h hb)) h2
  refine ⟨_, all_append_on.2 ⟨F', F2, h', h2', ?_, fun _ => Iff.rfl⟩⟩
  intro b hb hb2
  rcases hF' b hb with h | h
  · exact hd b h hb2
  · have := (all l).bound h2 hb2
    omega

theorem Ent.step0 {Bs l : List HProp} {w w' : World} (h : Ent l w) (hs : Same w w') (hz : w.heap.size ≤ w'.heap.size)
    (hk : ∀ b, b < w.heap.size → w'.heap[b]? = w.heap[b]?) (hup : ∃ F', (all Bs).on w' F' ∧ ∀ b, F' b → w.heap.size ≤ b) : Ent (Bs ++ l) w' := by
  have h' : Ent (emp :: l) w := by
    obtain ⟨F, hF⟩ := h
    exact ⟨F, fun _ => False, F, fun _ hb => hb, hF, fun _ hb => hb.elim, fun b => by simp⟩
  refine h'.step hs hz fun F hF => ⟨fun b hb _ => hk b hb, ?_⟩
  obtain ⟨F', h1, h2⟩ := hup
  exact ⟨F', h1, fun b hb => .inr (h2 b hb)⟩

theorem Ent.drew {l : List HProp} {w : World} (h : Ent l w) : Ent l w.drew :=
  let ⟨F, hF⟩ := h; ⟨F, (all l).stable (w := w) ⟨rfl, rfl, rfl⟩ (Nat.le_refl _) (fun _ _ => rfl) hF⟩
theorem Ent.drewN {l : List HProp} {w : World} (h : Ent l w) (n : Nat) : Ent l (w.drewN n) :=
  let ⟨F, hF⟩ := h; ⟨F, (all l).stable (w := w) ⟨rfl, rfl, rfl⟩ (Nat.le_refl _) (fun _ _ => rfl) hF⟩

theorem Ent.head {b : Nat} {o : Obj} {l : List HProp} {w : World} (h : Ent (pt b o :: l) w) : w.heap[b]? = some o := let ⟨_, _, _, h1, _⟩ := h; h1.1
theorem Ent.at {b : Nat} {o : Obj} {l : List HProp} {w : World} (h : Ent l w) (i : Nat) (hi : l[i]? = some (pt b o)) : w.heap[b]? = some o := (h.front i hi).head

theorem on_single {A : HProp} {w : World} {F : Nat → Prop} (h : A.on w F) : (all [A]).on w F :=
  ⟨F, fun _ => False, h, fun _ hb => hb, fun _ _ hb => hb, fun b => by simp⟩

/-- a new block -/
theorem Ent.alloc {l : List HProp} {w : World} (h : Ent l w) (o : Obj) : Ent (pt w.heap.size o :: l) (w.alloc o) := by
  refine h.step0 (Bs := [pt w.heap.size o]) ⟨rfl, rfl, rfl⟩ (by simp) (fun b hb => RowKit.Below.heap_alloc w o b hb) ⟨fun b => b = w.heap.size, on_single ⟨heap_alloc_new w o, fun _ => Iff.rfl⟩, fun b hb => by omega⟩

/-- a block's turn, whatever the new object -/
theorem Ent.turn {b : Nat} {o o' : Obj} {l : List HProp} {w w' : World} (h : Ent l w) (i : Nat) (hi : l[i]? = some (pt b o)) (hs : Same w w') (hz : w.heap.size ≤ w'.heap.size)
    (hn : w'.heap[b]? = some o') (hk : ∀ k, k < w.heap.size → k ≠ b → w'.heap[k]? = w.heap[k]?) : Ent (l.set i (pt b o')) w' := by
  have h1 := h.front i hi
  refine Ent.put ?_ (List.getElem?_eq_some_iff.1 hi).1
  refine h1.step (Bs := [pt b o']) hs hz fun F hF => ⟨fun k hk' hkF => hk k hk' (fun e => hkF ((hF.2 k).2 e)), fun x => x = b, on_single ⟨hn, fun _ => Iff.rfl⟩, fun x hx => .inl ((hF.2 x).2 hx)⟩

theorem Ent.size {b : Nat} {o : Obj} {l : List HProp} {w : World} (h : Ent l w) (i : Nat) (hi : l[i]? = some (pt b o)) : b < w.heap.size := (Array.getElem?_eq_some_iff.1 (h.at i hi)).1

theorem Ent.cell {b : Nat} {cs : Array Value} {T : TypeId} {fz : Nat × Nat} {l : List HProp} {w : World} (h : Ent l w) (i : Nat) (hi : l[i]? = some (pt b (.cells cs T fz))) (off : Nat) : w.cell? ⟨b, off, none⟩ = cs[off]? := by
  simp [World.cell?, h.at i hi]

/-- what the list says of the world, as a fact that goes with the list -/
def Knows (l : List HProp) (p : World → Prop) : Prop := ∀ w, Ent l w → p w
theorem Knows.cons {A : HProp} {l : List HProp} {p : World → Prop} (h : Knows l p) : Knows (A :: l) p := fun w hw => h w hw.tail
theorem Knows.append {m l : List HProp} {p : World → Prop} (h : Knows l p) : Knows (m ++ l) p := fun w hw => h w hw.drop

theorem Ent.below {w0 w : World} {l : List HProp} (h : Ent l w) (i : Nat) (hi : l[i]? = some (rest w0 fun _ => False)) : RowKit.Below w0.heap.size w0 w := by
  obtain ⟨F, F1, F2, ⟨hs, hz, hF, hk⟩, _⟩ := h.front i hi
  exact ⟨hs.os, hs.tape, hs.output, hz, fun k hk' => hk k ((hF k).2 ⟨hk', fun h => h⟩)⟩

theorem Ent.start (w : World) : Ent [rest w fun _ => False] w :=
  ⟨_, on_single ⟨Same.refl w, Nat.le_refl _, fun _ => Iff.rfl, fun _ _ => rfl⟩⟩

section
variable {P : Program} {ops : Array Oper} {rest : List Oper} {o : Oper} {a : Act} {Q : Exit → Act → World → Prop} {w : World} {l : List HProp}

theorem wpl_run (hw : Region.wanted o (yielded ops a.tmps) = true) {v : Value} {w' : World} (hr : (execOp a.eval o).run P w = .ok (.value v) w')
    (h : wpList P ops Q rest (a.put o.dst v) w') : wpList P ops Q (o :: rest) a w := by
  unfold wpList
  rw [if_pos hw]
  left
  simp only [Oper.wp, hr, Oper.upon]
  exact h

theorem wpl_run_skip (hw : Region.wanted o (yielded ops a.tmps) = true) {w' : World} (hr : (execOp a.eval o).run P w = .ok .skip w')
    (h : wpList P ops Q rest (a.put o.dst undef) w') : wpList P ops Q (o :: rest) a w := by
  unfold wpList
  rw [if_pos hw]
  left
  simp only [Oper.wp, hr, Oper.upon]
  exact h

theorem run_load1 (hE : Ent l w) (i : Nat) {b : Nat} {cs : Array Value} {T : TypeId} {fz : Nat × Nat} (hi : l[i]? = some (pt b (.cells cs T fz)))
    {t : TypeId} (hA : ∀ w, (isAgg t).run P w = .ok false w) {off : Nat} {v : Value} (hv : cs[off]? = some v) :
    (Instr.loadAt t (.pointer (some ⟨b, off, none⟩))).run P w = .ok v w := by
  simp [Instr.loadAt, Instr.sureAddr, loadVar, hA, hE.cell i hi, hv]

theorem wpl_load1 (hE : Ent l w) (i : Nat) {b : Nat} {cs : Array Value} {T : TypeId} {fz : Nat × Nat} (hi : l[i]? = some (pt b (.cells cs T fz)))
    {t : TypeId} {x : Operand} (ho : o.op = .load t x) (hw : Region.wanted o (yielded ops a.tmps) = true)
    {off : Nat} (hx : a.eval x = .pointer (some ⟨b, off, none⟩)) (hA : ∀ w, (isAgg t).run P w = .ok false w) {v : Value} (hv : cs[off]? = some v)
    (h : wpList P ops Q rest (a.put o.dst v) w) : wpList P ops Q (o :: rest) a w := by
  refine wpl_run hw (w' := w) (v := v) ?_ h
  simp [execOp, ho, hx, run_load1 hE i hi hA hv]

theorem run_loadA (hE : Ent l w) (i : Nat) {b : Nat} {cs : Array Value} {T : TypeId} {fz : Nat × Nat} (hi : l[i]? = some (pt b (.cells cs T fz)))
    {t : TypeId} (hA : ∀ w, (isAgg t).run P w = .ok true w) {n : Nat} (hn : ∀ w, (Go.sizeOf t).run P w = .ok n w) {off : Nat} {vs : List Value} (hl : vs.length = n)
    (hv : ∀ j, j < n → cs[off + j]? = vs[j]?) :
    (Instr.loadAt t (.pointer (some ⟨b, off, none⟩))).run P w = .ok (.agg vs.toArray) w := by
  have hc : ∀ j v, vs[j]? = some v → w.cell? ((⟨b, off, none⟩ : Addr).add j) = some v := by
    intro j v hj
    rw [Addr.add_lit, hE.cell i hi, hv j (by rw [← hl]; exact (List.getElem?_eq_some_iff.1 hj).1), hj]
  have hr := run_loadCells_list (P := P) w ⟨b, off, none⟩ vs hc
  subst hl
  simp [Instr.loadAt, Instr.sureAddr, loadVar, hA, hn, hr]

theorem wpl_loadA (hE : Ent l w) (i : Nat) {b : Nat} {cs : Array Value} {T : TypeId} {fz : Nat × Nat} (hi : l[i]? = some (pt b (.cells cs T fz)))
    {t : TypeId} {x : Operand} (ho : o.op = .load t x) (hw : Region.wanted o (yielded ops a.tmps) = true)
    {off : Nat} (hx : a.eval x = .pointer (some ⟨b, off, none⟩)) (hA : ∀ w, (isAgg t).run P w = .ok true w) {n : Nat} (hn : ∀ w, (Go.sizeOf t).run P w = .ok n w)
    (vs : List Value) (hl : vs.length = n) (hv : ∀ j, j < n → cs[off + j]? = vs[j]?)
    (h : wpList P ops Q rest (a.put o.dst (.agg vs.toArray)) w) : wpList P ops Q (o :: rest) a w := by
  refine wpl_run hw (w' := w) (v := .agg vs.toArray) ?_ h
  simp [execOp, ho, hx, run_loadA hE i hi hA hn hl hv]

/-- a load out of memory that is known by a fact on cells -/
theorem wpl_loadC {t : TypeId} {x : Operand} (ho : o.op = .load t x) (hw : Region.wanted o (yielded ops a.tmps) = true)
    {ad : Addr} (hx : a.eval x = .pointer (some ad)) (hA : ∀ w, (isAgg t).run P w = .ok true w) {n : Nat} (hn : ∀ w, (Go.sizeOf t).run P w = .ok n w)
    (vs : List Value) (hl : vs.length = n) (hc : ∀ j v, vs[j]? = some v → w.cell? (ad.add j) = some v)
    (h : wpList P ops Q rest (a.put o.dst (.agg vs.toArray)) w) : wpList P ops Q (o :: rest) a w := by
  refine wpl_run hw (w' := w) (v := .agg vs.toArray) ?_ h
  have hr := run_loadCells_list (P := P) w ad vs hc
  subst hl
  simp [execOp, ho, hx, Instr.loadAt, Instr.sureAddr, loadVar, hA, hn, hr]

theorem setRow_same (w : World) (b : Nat) (cs : Array Value) : Same w (w.setRow b cs) := ⟨rfl, rfl, rfl⟩

/-- a block is written to: the i-th of the list -/
theorem Ent.setRow (hE : Ent l w) (i : Nat) {b : Nat} {cs : Array Value} {T : TypeId} {fz : Nat × Nat} (hi : l[i]? = some (pt b (.cells cs T fz))) (cs' : Array Value) :
    Ent (l.set i (pt b (.cells cs' T fz))) (w.setRow b cs') :=
  hE.turn i hi (setRow_same w b cs') (by simp [World.setRow]) (setRow_heap w b cs cs' T fz (hE.at i hi)) (fun k _ hk => setRow_other w b k cs' hk)

theorem run_storeV (hE : Ent l w) (i : Nat) {b : Nat} {cs : Array Value} {T : TypeId} (hi : l[i]? = some (pt b (.cells cs T (0, 0))))
    {t : TypeId} {v : Value} {n : Nat} (hn : ∀ w, (Go.sizeOf t).run P w = .ok n w) (hc : v.cells.size = n) (h1 : ∀ u ∈ v.cells.toList, u.oneCell' = true) {off : Nat} (hfit : off + n ≤ cs.size) :
    (Instr.storeAt t (.pointer (some ⟨b, off, none⟩)) v).run P w = .ok () (w.setRow b (cs.toList.take off ++ v.cells.toList ++ cs.toList.drop (off + v.cells.toList.length)).toArray) := by
  have hst := run_storeCells_at P b off T v.cells.toList 0 cs w (hE.at i hi) (by simp; omega) h1
  simp only [Nat.add_zero] at hst
  simp only [Instr.storeAt, Instr.sureAddr, storeVar, Sem.run_bind, Sem.run_pure, Result.andThen_ok, hn, hc]
  simp only [ne_eq, not_true_eq_false, if_false]
  simpa using hst

theorem wpl_store (hE : Ent l w) (i : Nat) {b : Nat} {cs : Array Value} {T : TypeId} (hi : l[i]? = some (pt b (.cells cs T (0, 0))))
    {t : TypeId} {x y : Operand} (ho : o.op = .store t x y) (hw : Region.wanted o (yielded ops a.tmps) = true)
    {off : Nat} (hx : a.eval x = .pointer (some ⟨b, off, none⟩)) {v : Value} (hy : a.eval y = v) {n : Nat} (hn : ∀ w, (Go.sizeOf t).run P w = .ok n w) (hc : v.cells.size = n)
    (h1 : ∀ u ∈ v.cells.toList, u.oneCell' = true) (hfit : off + n ≤ cs.size)
    (h : ∀ w', Ent (l.set i (pt b (.cells (cs.toList.take off ++ v.cells.toList ++ cs.toList.drop (off + v.cells.toList.length)).toArray T (0, 0)))) w' → wpList P ops Q rest (a.put o.dst undef) w') : wpList P ops Q (o :: rest) a w := by
  refine wpl_run_skip hw (w' := w.setRow b (cs.toList.take off ++ v.cells.toList ++ cs.toList.drop (off + v.cells.toList.length)).toArray) ?_ (h _ (hE.setRow i hi _))
  simp [execOp, ho, hx, hy, run_storeV hE i hi hn hc h1 hfit]

theorem wpl_box (hE : Ent l w) {t : TypeId} {x : Operand} (ho : o.op = .box t x) (hw : Region.wanted o (yielded ops a.tmps) = true) {v : Value} (hx : a.eval x = v)
    (h : ∀ b w', Ent (pt b (.cells v.cells t) :: l) w' → wpList P ops Q rest (a.put o.dst (.pointer (some ⟨b, 0, none⟩))) w') : wpList P ops Q (o :: rest) a w := by
  refine wpl_run hw (w' := w.alloc (.cells v.cells t)) (v := .pointer (some ⟨w.heap.size, 0, none⟩)) ?_ (h _ _ (hE.alloc _))
  simp [execOp, ho, hx, Instr.box, newVar, newRow]

theorem wpl_alloc (hE : Ent l w) {t : TypeId} (ho : o.op = .alloc t) (hw : Region.wanted o (yielded ops a.tmps) = true) {v : Value} (hz : ∀ w, (zeroValue t).run P w = .ok v w)
    (h : ∀ b w', Ent (pt b (.cells v.cells t) :: l) w' → wpList P ops Q rest (a.put o.dst (.pointer (some ⟨b, 0, none⟩))) w') : wpList P ops Q (o :: rest) a w := by
  refine wpl_run hw (w' := w.alloc (.cells v.cells t)) (v := .pointer (some ⟨w.heap.size, 0, none⟩)) ?_ (h _ _ (hE.alloc _))
  simp [execOp, ho, hz, Instr.alloc, newVar, newRow]

/-- an owned row, its capacity and block hidden -/
def row (e : TypeId) (size : Nat) (v : Value) (n : Nat) (xs : List Value) : HProp where
  on w F := w.ownsRow 0 e size v n xs ∧ ∀ b, F b ↔ v.ownBlock = some b
  stable := fun {w w' F} _ _ h ⟨h1, hF⟩ => by
    refine ⟨⟨h1.1, ?_⟩, hF⟩
    rcases h1.2 with h2 | ⟨g, cap, cur, rfl, hb, hg, r⟩
    · exact .inl h2
    · exact .inr ⟨g, cap, cur, rfl, hb, (h g ((hF g).2 rfl)).trans hg, r⟩
  bound := fun {w F b} ⟨h1, hF⟩ hb => (h1.lt b ((hF b).1 hb)).2

theorem Ent.owns {e : TypeId} {size : Nat} {v : Value} {n : Nat} {xs : List Value} (hE : Ent l w) (i : Nat) (hi : l[i]? = some (row e size v n xs)) : w.ownsRow 0 e size v n xs := by
  obtain ⟨F, F1, F2, ⟨h1, _⟩, _⟩ := hE.front i hi
  exact h1

/-- an empty row comes at no cost -/
theorem Ent.nil (hE : Ent l w) (e : TypeId) (size : Nat) : Ent (row e size (.slice none 0 0) 0 [] :: l) w :=
  hE.step0 (Bs := [row e size (.slice none 0 0) 0 []]) (Same.refl w) (Nat.le_refl _) (fun _ _ => rfl) ⟨fun _ => False, on_single ⟨World.ownsRow_nil _ _ _ _, fun b => by simp [Value.ownBlock]⟩, fun _ h => h.elim⟩

/-- a block of one's own as an owned row -/
theorem Ent.toRow (hE : Ent l w) (i : Nat) {b : Nat} {cs : Array Value} {e : TypeId} (hi : l[i]? = some (pt b (.cells cs e (0, 0)))) {size n cap : Nat} {xs : List Value}
    (h1 : xs.length = n * size) (hn : n ≤ cap) (hm : cap ≤ maxLen) (hs : cs.size = cap * size) (ht : cs.toList.take (n * size) = xs) :
    Ent (l.set i (row e size (.slice (some ⟨b, 0, none⟩) n cap) n xs)) w := by
  refine Ent.put ((hE.front i hi).step (Bs := [row e size (.slice (some ⟨b, 0, none⟩) n cap) n xs]) (Same.refl w) (Nat.le_refl _) fun F hF => ⟨fun _ _ _ => rfl, F, on_single ⟨⟨h1, .inr ⟨b, cap, cs, rfl, Nat.zero_le _, hF.1, hn, hm, hs, ht⟩⟩, fun x => ?_⟩, fun _ h => .inl h⟩) (List.getElem?_eq_some_iff.1 hi).1
  rw [hF.2]
  simp [Value.ownBlock, eq_comm]

theorem Ent.grown {e : TypeId} {size : Nat} {v v' : Value} {n n' : Nat} {xs xs' : List Value} {w' : World} (hE : Ent l w) (i : Nat) (hi : l[i]? = some (row e size v n xs))
    (hg : w.grownBy w' v.ownBlock) (ho : w'.ownsRow 0 e size v' n' xs') (hat : v'.ownBlock = v.ownBlock ∨ v'.ownBlock = some w.heap.size) : Ent (l.set i (row e size v' n' xs')) w' := by
  refine Ent.put ((hE.front i hi).step (Bs := [row e size v' n' xs']) ⟨hg.os, hg.tape, hg.output⟩ hg.size fun F hF => ⟨fun b hb hbF => hg.block b hb fun h => hbF ((hF.2 b).2 h.symm), fun b => v'.ownBlock = some b, on_single ⟨ho, fun _ => Iff.rfl⟩, fun b hb => ?_⟩) (List.getElem?_eq_some_iff.1 hi).1
  rcases hat with h | h
  · exact .inl ((hF.2 b).2 (h ▸ hb))
  · right
    rw [h] at hb
    simp at hb
    omega

/-- a slice value whose elements' cells are xs, in a world -/
def reads (v : Value) (n : Nat) (xs : List Value) (w : World) : Prop :=
  ∃ ao c, v = .slice ao n c ∧ (ao = none → n = 0 ∧ xs = []) ∧ ∀ ad, ao = some ad → ∀ j u, xs[j]? = some u → w.cell? (ad.add j) = some u

theorem owns_shape {e : TypeId} {size : Nat} {v : Value} {n : Nat} {xs : List Value} (h : w.ownsRow 0 e size v n xs) : ∃ ao c, v = .slice ao n c := by
  rcases h.2 with ⟨rfl, rfl⟩ | ⟨g, cap, cur, rfl, _⟩
  · exact ⟨_, _, rfl⟩
  · exact ⟨_, _, rfl⟩

theorem Ent.append {e : TypeId} {i : TypeInfo} {z : Value} {size bytes : Nat} {t : TypeId} (ty : TypeId) (hE : Ent l w) (k : Nat) {v : Value} {n : Nat} {xs : List Value} (hk : l[k]? = some (row e size v n xs))
    (ht : P.underlying t = some (.slice e)) (hi : P.info? e = some i) (hz : i.zero = some z) (hsize : i.size = size) (hby : i.bytes = bytes) (hzs : z.cells.size = size) (hsz : 0 < size)
    {x : Value} {m : Nat} {news : List Value} (hx : reads x m news w) (hl : news.length = m * size) (h1 : ∀ u ∈ news, u.oneCell' = true) (h63 : n + m ≤ maxLen) (hbytes : (n + m) * bytes ≤ 140737488355328) :
    ∃ ao' c' w', (Builtin.append_ #[t, t] ty #[v, x]).run P w = .ok (.slice ao' (n + m) c') w' ∧ Ent (l.set k (row e size (.slice ao' (n + m) c') (n + m) (xs ++ news))) w' := by
  have hown := hE.owns k hk
  obtain ⟨ao, c, rfl, hnone, hc⟩ := hx
  cases ao with
  | some ad =>
    obtain ⟨v', w', hr, h2, h3, _, h5⟩ := run_append_own_at (P := P) w 0 t ty e i z size bytes ht hi hz hsize hby hzs hsz v n xs hown ad m c news hl (hc ad rfl) h1 h63 hbytes (Nat.zero_le _)
    obtain ⟨ao', c', rfl⟩ := owns_shape h2
    exact ⟨ao', c', w', hr, hE.grown k hk h3 h2 h5⟩
  | none =>
    obtain ⟨rfl, rfl⟩ := hnone rfl
    obtain ⟨ao', c', rfl⟩ := owns_shape hown
    refine ⟨ao', c', w, ?_, by simpa using hE.grown k hk (World.grownBy.refl w _) hown (.inl rfl)⟩
    rcases hown.2 with ⟨h, rfl⟩ | ⟨g, cap, cur, h, _, _, hnc, _⟩
    all_goals cases h
    · simp [Builtin.append_, run_underlying ht, Go.sizeOf, typeInfo, hi, Builtin.lenOf, Builtin.firstCells]
    · simp [Builtin.append_, run_underlying ht, Go.sizeOf, typeInfo, hi, Builtin.lenOf, Builtin.firstCells, storeCells, hnc]

theorem wpl_append {e : TypeId} {i : TypeInfo} {z : Value} {size bytes : Nat} {t : TypeId} (hE : Ent l w) (k : Nat) {v : Value} {n : Nat} {xs : List Value} (hk : l[k]? = some (row e size v n xs))
    {s y : Operand} (ho : o.op = .call { callee := .builtin .append, args := #[s, y], argTypes := #[t, t] }) (hw : Region.wanted o (yielded ops a.tmps) = true)
    (hs : a.eval s = v) {x : Value} (hy : a.eval y = x)
    (ht : P.underlying t = some (.slice e)) (hi : P.info? e = some i) (hz : i.zero = some z) (hsize : i.size = size) (hby : i.bytes = bytes) (hzs : z.cells.size = size) (hsz : 0 < size)
    {m : Nat} {news : List Value} (hx : reads x m news w) (hl : news.length = m * size) (h1 : ∀ u ∈ news, u.oneCell' = true) (h63 : n + m ≤ maxLen) (hbytes : (n + m) * bytes ≤ 140737488355328)
    (h : ∀ ao' c' w', Ent (l.set k (row e size (.slice ao' (n + m) c') (n + m) (xs ++ news))) w' → wpList P ops Q rest (a.put o.dst (.slice ao' (n + m) c')) w') : wpList P ops Q (o :: rest) a w := by
  obtain ⟨ao', c', w', hr, hE'⟩ := hE.append (P := P) o.type k hk ht hi hz hsize hby hzs hsz hx hl h1 h63 hbytes
  refine wpl_run hw (w' := w') (v := .slice ao' (n + m) c') ?_ (h ao' c' w' hE')
  simp [execOp, ho, resolve, invoke, builtin, hs, hy, hr]

theorem reads_pt (hE : Ent l w) (i : Nat) {b : Nat} {cs : Array Value} {T : TypeId} {fz : Nat × Nat} (hi : l[i]? = some (pt b (.cells cs T fz))) {off n c : Nat} {xs : List Value}
    (h : ∀ j u, xs[j]? = some u → cs[off + j]? = some u) : reads (.slice (some ⟨b, off, none⟩) n c) n xs w :=
  ⟨_, _, rfl, fun h => (by cases h), fun ad had j u hu => by cases had; rw [Addr.add_lit, hE.cell i hi]; exact h j u hu⟩

theorem reads_row {e : TypeId} {size : Nat} {v : Value} {n : Nat} {xs : List Value} (hE : Ent l w) (i : Nat) (hi : l[i]? = some (row e size v n xs)) : reads v n xs w := by
  have h := hE.owns i hi
  rcases h.2 with ⟨rfl, rfl⟩ | ⟨g, cap, cur, rfl, _⟩
  · exact ⟨none, 0, rfl, fun _ => ⟨rfl, List.eq_nil_of_length_eq_zero (by simpa using h.1)⟩, fun _ h => (by cases h)⟩
  · exact ⟨_, _, rfl, fun h => (by cases h), fun ad had => by cases had; exact h.cells rfl⟩

theorem reads_nil (n c : Nat) (h : n = 0) (w : World) : reads (.slice none n c) n [] w := ⟨none, c, rfl, fun _ => ⟨h, rfl⟩, fun _ h => by cases h⟩

/-- opening and closing an assertion that is given by a family -/
theorem Ent.unpack {α : Sort _} {f : α → List HProp} (hE : Ent (ex f :: l) w) : ∃ x, Ent (f x ++ l) w := by
  obtain ⟨F, F1, F2, ⟨x, h1⟩, h2, hd, hF⟩ := hE
  exact ⟨x, F, all_append_on.2 ⟨F1, F2, h1, h2, hd, hF⟩⟩
theorem Ent.pack {α : Sort _} {f : α → List HProp} (x : α) (hE : Ent (f x ++ l) w) : Ent (ex f :: l) w := by
  obtain ⟨F, hF⟩ := hE
  obtain ⟨F1, F2, h1, h2, hd, hF'⟩ := all_append_on.1 hF
  exact ⟨F, F1, F2, ⟨x, h1⟩, h2, hd, hF'⟩

theorem Ent.setCell (hE : Ent l w) (i : Nat) {b : Nat} {cs : Array Value} {T : TypeId} {fz : Nat × Nat} (hi : l[i]? = some (pt b (.cells cs T fz))) (off : Nat) (v : Value) :
    Ent (l.set i (pt b (.cells (cs.setIfInBounds off v) T fz))) (w.setCell ⟨b, off, none⟩ v) := by
  refine hE.turn i hi ⟨rfl, rfl, rfl⟩ (by simp) ?_ (fun k _ hk => RowKit.Below.heap_setCell w _ v k hk)
  simp [World.setCell, Array.getElem?_modify, hE.at i hi]

theorem Ent.frozen (hE : Ent l w) (i : Nat) {b : Nat} {cs : Array Value} {T : TypeId} (hi : l[i]? = some (pt b (.cells cs T (0, 0)))) (off : Nat) : w.frozen? ⟨b, off, none⟩ = false := by
  simp [World.frozen?, hE.at i hi]

theorem hid {p : Prop} (h : p) : RowKit.Hid p := h
theorem getD_lit (l : List Value) (i : Nat) (d : Value) : l.toArray.getD i d = l.getD i d := by simp

end
attribute [irreducible] pt row rest ex pure' Ent
end Go.SL
namespace Go.SL
section
variable {P : Program} {w : World} {l : List HProp}

theorem heap_setCell_self (w : World) (g o : Nat) (cur : Array Value) (e : TypeId) (fz : Nat × Nat) (v : Value) (h : w.heap[g]? = some (.cells cur e fz)) :
    (w.setCell ⟨g, o, none⟩ v).heap[g]? = some (.cells (cur.setIfInBounds o v) e fz) := by
  simp [World.setCell, Array.getElem?_modify, h]

theorem setCells_cells (g : Nat) (e : TypeId) (fz : Nat × Nat) : ∀ (vs : List Value) (o : Nat) (w : World) (cur : Array Value), w.heap[g]? = some (.cells cur e fz) →
    ∃ cur', (w.setCells g o vs).heap[g]? = some (.cells cur' e fz) ∧ cur'.size = cur.size ∧ (∀ j, j < o → cur'[j]? = cur[j]?) ∧ (o + vs.length ≤ cur.size → ∀ j, j < vs.length → cur'[o + j]? = vs[j]?)
  | [], o, w, cur, h => ⟨cur, h, rfl, fun _ _ => rfl, fun _ j hj => by simp at hj⟩
  | v :: vs, o, w, cur, h => by
    obtain ⟨cur', h1, h2, h3, h4⟩ := setCells_cells g e fz vs (o + 1) (w.setCell ⟨g, o, none⟩ v) _ (heap_setCell_self w g o cur e fz v h)
    refine ⟨cur', h1, by simpa using h2, fun j hj => ?_, fun hfit j hj => ?_⟩
    · rw [h3 j (by omega), Array.getElem?_setIfInBounds_ne (by omega)]
    · simp only [List.length_cons] at hfit hj
      cases j with
      | zero =>
        have ho : o < cur.size := by omega
        rw [Nat.add_zero, h3 o (by omega)]
        simp [ho]
      | succ j =>
        have hsz : (cur.setIfInBounds o v).size = cur.size := by simp
        have := h4 (by omega) j (by omega)
        rw [show o + (j + 1) = o + 1 + j by omega, this]
        simp

theorem setCells_same (g : Nat) : ∀ (vs : List Value) (o : Nat) (w : World), Same w (w.setCells g o vs) ∧ (w.setCells g o vs).heap.size = w.heap.size ∧ ∀ k, k ≠ g → (w.setCells g o vs).heap[k]? = w.heap[k]?
  | [], _, w => ⟨Same.refl w, rfl, fun _ _ => rfl⟩
  | v :: vs, o, w => by
    obtain ⟨h1, h2, h3⟩ := setCells_same g vs (o + 1) (w.setCell ⟨g, o, none⟩ v)
    exact ⟨Same.trans (b := w.setCell ⟨g, o, none⟩ v) ⟨rfl, rfl, rfl⟩ h1, by rw [World.setCells, h2]; simp, fun k hk => by rw [World.setCells, h3 k hk]; exact RowKit.Below.heap_setCell w _ v k hk⟩

theorem append_src {e : TypeId} {i : TypeInfo} {z : Value} {size bytes : Nat} {t tx : TypeId} (ty : TypeId)
    (ht : P.underlying t = some (.slice e)) (hi : P.info? e = some i) (hz : i.zero = some z) (hsize : i.size = size) (hby : i.bytes = bytes) (hzs : z.cells.size = size) (hsz : 0 < size)
    {v : Value} {n : Nat} {xs : List Value} (hown : w.ownsRow 0 e size v n xs) {x : Value} {m : Nat} {news : List Value} (hs : Src P size tx x m news w) (h63 : n + m ≤ maxLen) (hbytes : (n + m) * bytes ≤ 140737488355328) :
    ∃ ao' c' w', (Builtin.append_ #[t, tx] ty #[v, x]).run P w = .ok (.slice ao' (n + m) c') w' ∧ w'.ownsRow 0 e size (.slice ao' (n + m) c') (n + m) (xs ++ news) ∧ w.grownBy w' v.ownBlock ∧
      ((Value.slice ao' (n + m) c').ownBlock = v.ownBlock ∨ (Value.slice ao' (n + m) c').ownBlock = some w.heap.size) := by
  subst hsize
  subst hby
  have hm : n + m ≤ 9223372036854775807 := by simp only [maxLen] at h63; omega
  have hlen : (xs ++ news).length = (n + m) * i.size := by rw [List.length_append, hown.1, hs.newsLen, Nat.add_mul]
  have hzero : ∀ k, (Builtin.zeroCells z.cells k).size = k * i.size := fun k => by rw [size_zeroCells, hzs]
  -- a new row
  have key : ∀ (base : Option Addr) (cap : Nat), (Builtin.firstCells i.size n (.slice base n cap)).run P w.drew = .ok xs.toArray w.drew → cap < n + m → v = .slice base n cap →
      ∃ ao' c' w', (Builtin.append_ #[t, tx] ty #[v, x]).run P w = .ok (.slice ao' (n + m) c') w' ∧ w'.ownsRow 0 e i.size (.slice ao' (n + m) c') (n + m) (xs ++ news) ∧ w.grownBy w' v.ownBlock ∧
      ((Value.slice ao' (n + m) c').ownBlock = v.ownBlock ∨ (Value.slice ao' (n + m) c').ownBlock = some w.heap.size) := by
    intro base cap hold hc hv
    have hr := run_append_grow_src w t tx ty e i z ht hi hz base n cap xs hold x m news hs hc (by omega) (growslice_fits (by omega) hbytes)
    have hge := grownCap_ge w (n + m) cap e
    refine ⟨_, _, _, by rw [hv]; exact hr, ⟨hlen, .inr ⟨w.heap.size, _, _, rfl, Nat.zero_le _, heap_alloc_new w.drew _, hge, grownCap_le_maxLen w (n + m) cap e h63, ?_, ?_⟩⟩,
      ⟨rfl, rfl, rfl, by simp, fun k hk _ => RowKit.Below.heap_alloc w.drew _ k hk⟩, .inr rfl⟩
    · rw [Array.size_append, hzero, List.size_toArray, hlen, ← Nat.add_mul]
      congr 1
      omega
    · rw [Array.toList_append, ← hlen]
      exact List.take_left
  rcases hown.2 with ⟨hv, h0⟩ | ⟨g, cap, cur, hv, _, hg, hnc, hcm, hcs, htake⟩
  · have hx : xs = [] := List.eq_nil_of_length_eq_zero (by rw [hown.1, h0]; simp)
    by_cases hm0 : m = 0
    · have hn : news = [] := List.eq_nil_of_length_eq_zero (by rw [hs.newsLen, hm0]; simp)
      subst hv h0 hx hn hm0
      refine ⟨none, 0, w, ?_, by simpa using World.ownsRow_nil w 0 e i.size, World.grownBy.refl _ _, .inl rfl⟩
      have hc := hs.cells
      rcases hs.kind with ⟨e', hk⟩ | hk <;> simp [Builtin.append_, run_underlying ht, run_underlying hk, Go.sizeOf, typeInfo, hi, hs.len, hc]
    · exact key none 0 (by subst hx h0; exact run_firstCells_none w.drew i.size 0 0 0) (by omega) (by rw [hv, h0])
  · by_cases hroom : n + m ≤ cap
    · have hfit : n * i.size + news.length ≤ cur.size := by rw [hs.newsLen, hcs, ← Nat.add_mul]; exact Nat.mul_le_mul_right _ hroom
      have hr := run_append_room_src w t tx ty e i ht hi g 0 n cap x m news hs hroom (fun j hj => by simp [World.cell?, hg]; omega) (fun j hj => by simp [World.frozen?, hg])
      obtain ⟨cur', h1, h2, h3, h4⟩ := setCells_cells g e (0, 0) news (0 + n * i.size) w cur hg
      obtain ⟨s1, s2, s3⟩ := setCells_same g news (0 + n * i.size) w
      refine ⟨_, _, _, by rw [hv]; exact hr, ⟨hlen, .inr ⟨g, cap, cur', rfl, Nat.zero_le _, h1, hroom, hcm, by rw [h2, hcs], ?_⟩⟩, ⟨s1.os, s1.tape, s1.output, Nat.le_of_eq s2.symm, fun k _ hk => s3 k fun hkg => hk (by rw [hv, hkg]; rfl)⟩, .inl (by rw [hv]; rfl)⟩
      apply List.ext_getElem?
      intro j
      rw [List.getElem?_take]
      by_cases hj : j < n * i.size
      · rw [if_pos (by rw [Nat.add_mul]; omega), Array.getElem?_toList, h3 j (by omega), List.getElem?_append_left (by rw [hown.1]; exact hj), ← htake, List.getElem?_take, if_pos hj, Array.getElem?_toList]
      · by_cases hj2 : j < (n + m) * i.size
        · have := h4 (by omega) (j - n * i.size) (by rw [hs.newsLen]; rw [Nat.add_mul] at hj2; omega)
          rw [if_pos hj2, Array.getElem?_toList, List.getElem?_append_right (by rw [hown.1]; omega), hown.1, ← this]
          congr 1
          omega
        · rw [if_neg hj2, List.getElem?_eq_none (by rw [hlen]; omega)]
    · refine key (some ⟨g, 0, none⟩) cap ?_ (by omega) hv
      have holds : ∀ j u, xs[j]? = some u → w.drew.cell? ((⟨g, 0, none⟩ : Addr).add j) = some u := hown.cells (by rw [hv]; rfl)
      exact run_firstCells_some w.drew i.size n ⟨g, 0, none⟩ n cap xs hown.1 holds

/-- append of a string onto a row of bytes -/
theorem Ent.appendS {e : TypeId} {i : TypeInfo} {t tx : TypeId} (ty : TypeId) (hE : Ent l w) (k : Nat) {v : Value} {n : Nat} {xs : List Value} (hk : l[k]? = some (row e 1 v n xs))
    (ht : P.underlying t = some (.slice e)) (htx : P.underlying tx = some .string) (hi : P.info? e = some i) (hz : i.zero = some (.int .u8 0)) (hsize : i.size = 1) (hby : i.bytes = 1) (s : ByteArray)
    (h63 : n + s.size ≤ 140737488355328) :
    ∃ ao' c' w', (Builtin.append_ #[t, tx] ty #[v, .string s]).run P w = .ok (.slice ao' (n + s.size) c') w' ∧ Ent (l.set k (row e 1 (.slice ao' (n + s.size) c') (n + s.size) (xs ++ byteCells s))) w' := by
  obtain ⟨ao', c', w', hr, h1, h2, h3⟩ := append_src ty ht hi hz hsize hby rfl (by decide) (hE.owns k hk) (Src.ofString w htx s) (by unfold maxLen; omega) (by omega)
  exact ⟨ao', c', w', hr, hE.grown k hk h2 h1 h3⟩

/-- a slice of one's own that is only read -/
def view (v : Value) (n : Nat) (xs : List Value) : HProp where
  on w F := reads v n xs w ∧ (∀ b, v.ownBlock = some b → b < w.heap.size) ∧ ∀ b, F b ↔ v.ownBlock = some b
  stable := fun {w w' F} _ hz h ⟨⟨ao, c, hv, h1, h2⟩, h3, h4⟩ => by
    refine ⟨⟨ao, c, hv, h1, fun ad had j u hu => ?_⟩, fun b hb => Nat.lt_of_lt_of_le (h3 b hb) hz, h4⟩
    have hb : F ad.block := (h4 _).2 (by rw [hv, had]; rfl)
    rw [World.cell?_of_block (w := w)]
    · exact h2 ad had j u hu
    · unfold Addr.add
      split <;> exact h _ hb
  bound := fun ⟨_, h3, h4⟩ hb => h3 _ ((h4 _).1 hb)

theorem Ent.views {v : Value} {n : Nat} {xs : List Value} (hE : Ent l w) (i : Nat) (hi : l[i]? = some (view v n xs)) : reads v n xs w := by
  have h := hE.front i hi
  unfold Ent at h
  obtain ⟨F, F1, F2, ⟨h1, _⟩, _⟩ := h
  exact h1

theorem Ent.toView {e : TypeId} {size : Nat} {v : Value} {n : Nat} {xs : List Value} (hE : Ent l w) (i : Nat) (hi : l[i]? = some (row e size v n xs)) : Ent (l.set i (view v n xs)) w := by
  have hr := reads_row hE i hi
  have ho := hE.owns i hi
  refine Ent.put ((hE.front i hi).step (Bs := [view v n xs]) (Same.refl w) (Nat.le_refl _) fun F hF => ⟨fun _ _ _ => rfl, F, on_single ⟨hr, fun b hb => (ho.lt b hb).2, ?_⟩, fun _ h => .inl h⟩) (List.getElem?_eq_some_iff.1 hi).1
  unfold row at hF
  exact hF.2

/-- where a slice of some elements lies -/
theorem reads_form {ao : Option Addr} {n c : Nat} {xs : List Value} (hr : reads (.slice ao n c) n xs w) (h0 : 0 < n) (hx : 0 < xs.length) :
    ∃ b off, ao = some ⟨b, off, none⟩ ∧ ∀ j u, xs[j]? = some u → w.cell? ⟨b, off + j, none⟩ = some u := by
  obtain ⟨ao', c', e, h1, h2⟩ := hr
  cases e
  cases ao with
  | none => have := (h1 rfl).1; omega
  | some ad =>
    have h3 := h2 ad rfl 0 _ (List.getElem?_eq_getElem hx)
    have hs : ad.spot = none := by
      simp only [Addr.add_zero'] at h3
      cases hs : ad.spot with
      | none => rfl
      | some x =>
        unfold World.cell? at h3
        split at h3
        · simp [hs] at h3
        · cases h3
    obtain ⟨b, off, sp⟩ := ad
    simp only at hs
    subst hs
    exact ⟨b, off, rfl, fun j u hu => by have := h2 _ rfl j u hu; rwa [Addr.add_lit] at this⟩

/-- a new block that reads as a slice -/
theorem Ent.newView {w' : World} {b c : Nat} {xs : List Value} {n : Nat} (hE : Ent l w) (hs : Same w w') (hz : w'.heap.size = w.heap.size + 1) (hb : b = w.heap.size) (hk : ∀ k, k < w.heap.size → w'.heap[k]? = w.heap[k]?)
    (hr : ∀ j u, xs[j]? = some u → w'.cell? ⟨b, j, none⟩ = some u) : Ent (view (.slice (some ⟨b, 0, none⟩) n c) n xs :: l) w' := by
  refine hE.step0 (Bs := [view (.slice (some ⟨b, 0, none⟩) n c) n xs]) hs (by omega) hk ⟨fun x => x = b, on_single ⟨⟨_, _, rfl, fun h => (by cases h), fun ad had j u hu => by cases had; rw [Addr.add_lit, Nat.zero_add]; exact hr j u hu⟩, fun x hx => ?_, fun x => ?_⟩, fun x hx => by omega⟩
  · simp [Value.ownBlock] at hx; omega
  · simp [Value.ownBlock, eq_comm]

theorem Ent.strBytes {src dst e : TypeId} {u : TypeDesc} (hE : Ent l w) (hs : P.underlying src = some u) (hd : P.underlying dst = some (.slice e)) (he : P.underlying e = some (.int .u8)) (s : ByteArray) :
    ∃ b c w', (convert src dst (.string s)).run P w = .ok (.slice (some ⟨b, 0, none⟩) s.size c) w' ∧ Ent (view (.slice (some ⟨b, 0, none⟩) s.size c) s.size (byteCells s) :: l) w' := by
  refine ⟨_, _, _, Lib.run_convert_string_bytes w src dst e s hs hd he, hE.newView ⟨rfl, rfl, rfl⟩ (Lib.bytesWorld_size w e s) rfl (fun k hk => Lib.bytesWorld_at_old w e s k hk) fun j u hu => ?_⟩
  obtain ⟨hj, rfl⟩ := List.getElem?_eq_some_iff.1 hu
  have hj' : j < s.size := by simpa [byteCells_length] using hj
  rw [Lib.bytesWorld_cell w e s j hj']
  have hj'' : j < s.data.toList.length := by simpa using hj'
  simp [byteCells, List.getD, List.getElem?_eq_getElem hj'']

theorem bytesToString_reads {src dst e : TypeId} (hs : P.underlying src = some (.slice e)) (he : P.underlying e = some (.int .u8)) (hd : P.underlying dst = some .string) {v : Value} {n : Nat} {bs : List UInt8}
    (hr : reads v n (bs.map fun b => Value.int .u8 b.toNat) w) (hn : n = bs.length) : (convert src dst v).run P w = .ok (.string ⟨bs.toArray⟩) w := by
  obtain ⟨ao, c, rfl, h1, h2⟩ := hr
  rw [run_convert_bytes_string w src dst e ao n c hs he hd]
  cases ao with
  | none =>
    obtain ⟨rfl, h⟩ := h1 rfl
    have : bs = [] := by simpa using h
    subst this
    simp [Conv.bytesToString, ByteArray.empty, ByteArray.emptyWithCapacity]
    rfl
  | some ad =>
    have hl := run_loadCells_list (P := P) w ad _ (h2 ad rfl)
    rw [List.length_map, ← hn] at hl
    have hm : (bs.map fun b => Value.int .u8 b.toNat) = ((bs.map fun b => (b.toNat : Int)).map (Value.int .u8)) := by simp
    rw [hm] at hl
    rw [run_bytesToString w ad n c _ hl, foldl_push_bytes]
    congr 3
    apply Array.ext'
    simp [ByteArray.empty, ByteArray.emptyWithCapacity, Function.comp_def]
    rfl
theorem wpl_bytesStr {ops : Array Oper} {rest : List Oper} {o : Oper} {a : Act} {Q : Exit → Act → World → Prop} {src dst e : TypeId} {x : Operand} (ho : o.op = .convert src dst x) (hw : Region.wanted o (yielded ops a.tmps) = true) {v : Value} (hx : a.eval x = v)
    (hs : P.underlying src = some (.slice e)) (he : P.underlying e = some (.int .u8)) (hd : P.underlying dst = some .string) {n : Nat} {bs : List UInt8}
    (hr : reads v n (bs.map fun b => Value.int .u8 b.toNat) w) (hn : n = bs.length) (h : wpList P ops Q rest (a.put o.dst (.string ⟨bs.toArray⟩)) w) : wpList P ops Q (o :: rest) a w := by
  refine wpl_run hw (w' := w) (v := .string ⟨bs.toArray⟩) ?_ h
  simp [execOp, ho, hx, bytesToString_reads hs he hd hr hn]

end
attribute [irreducible] view
end Go.SL
namespace Go.SL

/-- where the part of a slice from l on begins (at the capacity's end Go keeps the old address) -/
def cutAt (size : Nat) (ao : Option Addr) (c l : Nat) : Option Addr := if c = l then ao else ao.map (·.add (l * size))

theorem Addr.add_add (a : Addr) (m j : Nat) : (a.add m).add j = a.add (m + j) := by
  unfold Addr.add
  by_cases hm : m = 0
  · subst hm; simp
  · by_cases hj : j = 0
    · subst hj; simp [hm]
    · simp [hm, hj, Nat.add_assoc]

theorem cutAt_block (size : Nat) (ao : Option Addr) (c l n n' c' : Nat) : (Value.slice (cutAt size ao c l) n' c').ownBlock = (Value.slice ao n c).ownBlock := by
  unfold cutAt
  split
  · cases ao <;> rfl
  · cases ao with
    | none => rfl
    | some a =>
      simp only [Option.map_some, Value.ownBlock, Addr.add]
      split <;> rfl

theorem reads_cut {w : World} {size : Nat} {ao : Option Addr} {n c : Nat} {xs : List Value} (hr : reads (.slice ao n c) n xs w) (hxs : xs.length = n * size) {l h : Nat} (hlh : l ≤ h) (hn : h ≤ n) (hc : n ≤ c) :
    reads (.slice (cutAt size ao c l) (h - l) (c - l)) (h - l) ((xs.drop (l * size)).take ((h - l) * size)) w := by
  obtain ⟨ao', c', e, h1, h2⟩ := hr
  cases e
  refine ⟨_, _, rfl, ?_, ?_⟩
  · intro hnone
    have : ao = none := by
      unfold cutAt at hnone
      split at hnone
      · exact hnone
      · simpa using hnone
    obtain ⟨rfl, rfl⟩ := h1 this
    have : h = 0 := by omega
    subst this
    simp
  · intro ad had j u hu
    rw [List.getElem?_take] at hu
    split at hu
    · rename_i hj
      rw [List.getElem?_drop] at hu
      have hne : ¬ c = l := by
        intro e
        have : h - l = 0 := by omega
        rw [this] at hj
        simp at hj
      unfold cutAt at had
      rw [if_neg hne] at had
      cases ao with
      | none => simp at had
      | some a =>
        simp only [Option.map_some, Option.some.injEq] at had
        subst had
        have h3 := h2 a rfl (l * size + j) u hu
        rw [← h3, Addr.add_add]
    · cases hu

section
variable {P : Program} {ops : Array Oper} {rest : List Oper} {o : Oper} {a : Act} {Q : Exit → Act → World → Prop} {w : World} {l : List HProp}

theorem run_cut {t e : TypeId} {size : Nat} (ht : P.underlying t = some (.slice e)) (hs : ∀ w, (Go.sizeOf e).run P w = .ok size w) (ao : Option Addr) (n c : Nat) (kl kh : IntKind) (lo hi : Nat) (h1 : lo ≤ hi) (h2 : hi ≤ c) :
    (Instr.slice t (.slice ao n c) (some (.int kl lo)) (some (.int kh hi)) none).run P w = .ok (.slice (cutAt size ao c lo) (hi - lo) (c - lo)) w := by
  have a1 : ((hi : Int) ≤ (c : Int)) := by omega
  have a2 : ((lo : Int) ≤ (hi : Int)) := by omega
  simp [Instr.slice, run_underlying ht, Instr.sliceBounds, Instr.sliceBound, asIntOf, hs, a1, a2, h1, h2, cutAt]

theorem run_cut_lo {t e : TypeId} {size : Nat} (ht : P.underlying t = some (.slice e)) (hs : ∀ w, (Go.sizeOf e).run P w = .ok size w) (ao : Option Addr) (n c : Nat) (kl : IntKind) (lo : Nat) (h1 : lo ≤ n) :
    (Instr.slice t (.slice ao n c) (some (.int kl lo)) none none).run P w = .ok (.slice (cutAt size ao c lo) (n - lo) (c - lo)) w := by
  have a2 : ((lo : Int) ≤ (n : Int)) := by omega
  simp [Instr.slice, run_underlying ht, Instr.sliceBounds, Instr.sliceBound, asIntOf, hs, a2, Nat.not_lt.2 h1, h1, cutAt]

theorem run_cut_hi {t e : TypeId} {size : Nat} (ht : P.underlying t = some (.slice e)) (hs : ∀ w, (Go.sizeOf e).run P w = .ok size w) (ao : Option Addr) (n c : Nat) (kh : IntKind) (hi : Nat) (h2 : hi ≤ c) :
    (Instr.slice t (.slice ao n c) none (some (.int kh hi)) none).run P w = .ok (.slice (cutAt size ao c 0) (hi - 0) (c - 0)) w := by
  have a1 : ((hi : Int) ≤ (c : Int)) := by omega
  simp [Instr.slice, run_underlying ht, Instr.sliceBounds, Instr.sliceBound, asIntOf, hs, a1, h2, cutAt]

theorem sliceAt_slice {t e : TypeId} (ht : P.underlying t = some (.slice e)) (x : Value) (lo hi mx : Option Value) : (Instr.sliceAt t x lo hi mx).run P w = (Instr.slice t x lo hi mx).run P w := by
  simp [Instr.sliceAt, run_underlying ht]

/-- x[lo:] -/
theorem wpl_cut_lo {t e : TypeId} {size : Nat} {x lo' : Operand} (ho : o.op = .slice t x (some lo') none none) (hw : Region.wanted o (yielded ops a.tmps) = true) {ao : Option Addr} {n c : Nat} (hx : a.eval x = .slice ao n c) {kl : IntKind} {i : Int} (hl : a.eval lo' = .int kl i) (lo : Nat)
    (hi : i = (lo : Int)) (ht : P.underlying t = some (.slice e)) (hs : ∀ w, (Go.sizeOf e).run P w = .ok size w) (h1 : lo ≤ n)
    (h : wpList P ops Q rest (a.put o.dst (.slice (cutAt size ao c lo) (n - lo) (c - lo))) w) : wpList P ops Q (o :: rest) a w := by
  refine wpl_run hw (w' := w) ?_ h
  subst hi
  simp [execOp, ho, hx, hl, sliceAt_slice ht, run_cut_lo ht hs ao n c kl lo h1]

/-- x[:hi] -/
theorem wpl_cut_hi {t e : TypeId} {size : Nat} {x hi' : Operand} (ho : o.op = .slice t x none (some hi') none) (hw : Region.wanted o (yielded ops a.tmps) = true) {ao : Option Addr} {n c : Nat} (hx : a.eval x = .slice ao n c) {kh : IntKind} {i : Int} (hl : a.eval hi' = .int kh i) (hi : Nat)
    (hi2 : i = (hi : Int)) (ht : P.underlying t = some (.slice e)) (hs : ∀ w, (Go.sizeOf e).run P w = .ok size w) (h1 : hi ≤ c)
    (h : wpList P ops Q rest (a.put o.dst (.slice (cutAt size ao c 0) (hi - 0) (c - 0))) w) : wpList P ops Q (o :: rest) a w := by
  refine wpl_run hw (w' := w) ?_ h
  subst hi2
  simp [execOp, ho, hx, hl, sliceAt_slice ht, run_cut_hi ht hs ao n c kh hi h1]

/-- x[lo:hi] -/
theorem wpl_cut {t e : TypeId} {size : Nat} {x lo' hi' : Operand} (ho : o.op = .slice t x (some lo') (some hi') none) (hw : Region.wanted o (yielded ops a.tmps) = true) {ao : Option Addr} {n c : Nat} (hx : a.eval x = .slice ao n c) {kl kh : IntKind} {i j : Int} (hl : a.eval lo' = .int kl i) (hh : a.eval hi' = .int kh j) (lo hi : Nat)
    (hi1 : i = (lo : Int)) (hi2 : j = (hi : Int)) (ht : P.underlying t = some (.slice e)) (hs : ∀ w, (Go.sizeOf e).run P w = .ok size w) (h0 : lo ≤ hi) (h1 : hi ≤ c)
    (h : wpList P ops Q rest (a.put o.dst (.slice (cutAt size ao c lo) (hi - lo) (c - lo))) w) : wpList P ops Q (o :: rest) a w := by
  refine wpl_run hw (w' := w) ?_ h
  subst hi1 hi2
  simp [execOp, ho, hx, hl, hh, sliceAt_slice ht, run_cut ht hs ao n c kl kh lo hi h0 h1]

/-- a view, cut -/
theorem Ent.cutView {size : Nat} {ao : Option Addr} {n c : Nat} {xs : List Value} (hE : Ent l w) (i : Nat) (hi : l[i]? = some (view (.slice ao n c) n xs)) (hxs : xs.length = n * size) {lo h : Nat} (hlh : lo ≤ h) (hn : h ≤ n) (hc : n ≤ c) :
    Ent (l.set i (view (.slice (cutAt size ao c lo) (h - lo) (c - lo)) (h - lo) ((xs.drop (lo * size)).take ((h - lo) * size)))) w := by
  refine Ent.put ((hE.front i hi).step (Bs := [view _ _ _]) (Same.refl w) (Nat.le_refl _) fun F hF => ⟨fun _ _ _ => rfl, F, on_single ?_, fun _ h => .inl h⟩) (List.getElem?_eq_some_iff.1 hi).1
  unfold view at hF ⊢
  refine ⟨reads_cut hF.1 hxs hlh hn hc, fun b hb => hF.2.1 b ?_, fun b => ?_⟩
  · rw [cutAt_block size ao c lo n] at hb; exact hb
  · rw [hF.2.2 b, cutAt_block size ao c lo n]

/-- a slice as an array's pointer -/
theorem wpl_arrayPtr {t e : TypeId} {x : Operand} (ho : o.op = .sliceToArrayPointer t x) (hw : Region.wanted o (yielded ops a.tmps) = true) {ao : Option Addr} {n c m : Nat} (hx : a.eval x = .slice ao n c) (ht : P.underlying t = some (.array m e)) (hm : m ≤ n)
    (h : wpList P ops Q rest (a.put o.dst (.pointer ao)) w) : wpList P ops Q (o :: rest) a w := by
  refine wpl_run hw (w' := w) (v := .pointer ao) ?_ h
  simp [execOp, ho, hx, Instr.arrayAt, run_underlying ht, Nat.not_lt.2 hm]

/-- a whole array loaded from where a slice begins -/
theorem wpl_loadR {t : TypeId} {x : Operand} (ho : o.op = .load t x) (hw : Region.wanted o (yielded ops a.tmps) = true) {ad : Addr} (hx : a.eval x = .pointer (some ad))
    (hA : ∀ w, (isAgg t).run P w = .ok true w) {n : Nat} (hn : ∀ w, (Go.sizeOf t).run P w = .ok n w) {m c : Nat} {xs : List Value} (hr : reads (.slice (some ad) m c) m xs w) (hl : xs.length = n)
    (h : wpList P ops Q rest (a.put o.dst (.agg xs.toArray)) w) : wpList P ops Q (o :: rest) a w := by
  obtain ⟨ao, c', e, _, h2⟩ := hr
  cases e
  exact wpl_loadC ho hw hx hA hn xs hl (h2 ad rfl) h

/-- a whole block stored anew -/
theorem wpl_storeW (hE : Ent l w) (i : Nat) {b : Nat} {cs : Array Value} {T : TypeId} (hi : l[i]? = some (pt b (.cells cs T (0, 0))))
    {t : TypeId} {x y : Operand} (ho : o.op = .store t x y) (hw : Region.wanted o (yielded ops a.tmps) = true) (hx : a.eval x = .pointer (some ⟨b, 0, none⟩)) {xs : List Value} (hy : a.eval y = .agg xs.toArray)
    {n : Nat} (hn : ∀ w, (Go.sizeOf t).run P w = .ok n w) (hc : xs.length = n) (h1 : ∀ u ∈ xs, u.oneCell' = true) (hfit : cs.size = n)
    (h : ∀ w', Ent (l.set i (pt b (.cells xs.toArray T (0, 0)))) w' → wpList P ops Q rest (a.put o.dst undef) w') : wpList P ops Q (o :: rest) a w := by
  refine wpl_store hE i hi ho hw hx hy hn (by simpa [Value.cells] using hc) (by simpa [Value.cells] using h1) (by omega) fun w' hE' => h w' ?_
  have e : (cs.toList.take 0 ++ (Value.agg xs.toArray).cells.toList ++ cs.toList.drop (0 + (Value.agg xs.toArray).cells.toList.length)).toArray = xs.toArray := by
    simp [Value.cells, hc, ← hfit]
  rw [e] at hE'
  exact hE'

theorem wpl_loadW (hE : Ent l w) (i : Nat) {b : Nat} {xs : List Value} {T : TypeId} {fz : Nat × Nat} (hi : l[i]? = some (pt b (.cells xs.toArray T fz)))
    {t : TypeId} {x : Operand} (ho : o.op = .load t x) (hw : Region.wanted o (yielded ops a.tmps) = true)
    (hx : a.eval x = .pointer (some ⟨b, 0, none⟩)) (hA : ∀ w, (isAgg t).run P w = .ok true w) {n : Nat} (hn : ∀ w, (Go.sizeOf t).run P w = .ok n w) (hl : xs.length = n)
    (h : wpList P ops Q rest (a.put o.dst (.agg xs.toArray)) w) : wpList P ops Q (o :: rest) a w :=
  wpl_loadA hE i hi ho hw hx hA hn xs hl (fun j _ => by simp) h

/-- what a result that lies in a block reads as -/
theorem run_resultA (hE : Ent l w) (i : Nat) {b : Nat} {xs : List Value} {T : TypeId} {fz : Nat × Nat} (hi : l[i]? = some (pt b (.cells xs.toArray T fz)))
    {t : TypeId} (hA : ∀ w, (isAgg t).run P w = .ok true w) {n : Nat} (hn : ∀ w, (Go.sizeOf t).run P w = .ok n w) (hl : xs.length = n) : (loadVar t ⟨b, 0, none⟩).run P w = .ok (.agg xs.toArray) w := by
  have h := run_loadA (P := P) hE i hi hA hn (off := 0) hl (fun j _ => by simp)
  simpa [Instr.loadAt, Instr.sureAddr] using h

theorem results_cellA {fn : Func} {k : Tmp} {t : TypeId} (h : fn.results = #[.cell k t]) {tmps : Array Value} (hE : Ent l w) (i : Nat) {b : Nat} {xs : List Value} {T : TypeId} {fz : Nat × Nat} (hi : l[i]? = some (pt b (.cells xs.toArray T fz)))
    (hp : tmps.getD k undef = .pointer (some ⟨b, 0, none⟩)) (hA : ∀ w, (isAgg t).run P w = .ok true w) {n : Nat} (hn : ∀ w, (Go.sizeOf t).run P w = .ok n w) (hl : xs.length = n) : (results fn tmps).run P w = .ok (.agg xs.toArray) w := by
  have hp' : tmps[k]?.getD undef = .pointer (some ⟨b, 0, none⟩) := by simpa using hp
  simp only [results, h]
  simp [hp', asAddr, run_resultA hE i hi hA hn hl]

/-- nothing of what is known of memory is lost -/
def Keeps (w w' : World) : Prop := ∀ l, Ent l w → Ent l w'
theorem Keeps.refl (w : World) : Keeps w w := fun _ h => h
theorem Keeps.trans {a b c : World} (h : Keeps a b) (k : Keeps b c) : Keeps a c := fun l hl => k l (h l hl)
theorem Keeps.alloc (w : World) (o : Obj) : Keeps w (w.alloc o) := fun _ h => (h.alloc o).tail
theorem Keeps.drew (w : World) : Keeps w w.drew := fun _ h => h.drew
/-- steps in a short form: the place of a block in the list is found by the tactic of the lemma itself (the texts of a claim are bounded); here: an assertion put in the place of another one -/
inductive Upd (A A' : HProp) : List HProp → List HProp → Prop
  | z {m : List HProp} : Upd A A' (A :: m) (A' :: m)
  | s {B : HProp} {m m' : List HProp} (h : Upd A A' m m') : Upd A A' (B :: m) (B :: m')
theorem Upd.at {A A' : HProp} {m m' : List HProp} (h : Upd A A' m m') : ∃ i, m[i]? = some A ∧ m.set i A' = m' := by
  induction h with
  | z => exact ⟨0, rfl, rfl⟩
  | s _ ih => obtain ⟨i, h1, h2⟩ := ih; exact ⟨i + 1, by simpa using h1, by simpa using h2⟩
theorem ldX (hE : Ent l w) {b : Nat} {cs : Array Value} {T : TypeId} {fz : Nat × Nat} {t : TypeId} {x : Operand} {off : Nat} {v : Value}
    (h : wpList P ops Q rest (a.put o.dst v) w)
    (ho : o.op = .load t x := by with_reducible rfl) (hw : Region.wanted o (yielded ops a.tmps) = true := by rfl)
    (hx : a.eval x = .pointer (some ⟨b, off, none⟩) := by rfl)
    (hm : pt b (.cells cs T fz) ∈ l := by first | ((repeat (first | with_reducible exact List.Mem.head _ | refine List.Mem.tail _ ?_)); done) | ((repeat (first | exact List.Mem.head _ | refine List.Mem.tail _ ?_)); done))
    (hA : ∀ w, (isAgg t).run P w = .ok false w := by simp [go_sem]) (hv : cs[off]? = some v := by rfl) : wpList P ops Q (o :: rest) a w := by
  obtain ⟨i, hi⟩ := List.getElem?_of_mem hm
  exact wpl_load1 hE i hi ho hw hx hA hv h
theorem lwX (hE : Ent l w) {b : Nat} {xs : List Value} {T : TypeId} {fz : Nat × Nat} {t : TypeId} {x : Operand}
    (hA : ∀ w, (isAgg t).run P w = .ok true w) {n : Nat} (hn : ∀ w, (Go.sizeOf t).run P w = .ok n w)
    (h : wpList P ops Q rest (a.put o.dst (.agg xs.toArray)) w)
    (ho : o.op = .load t x := by with_reducible rfl) (hw : Region.wanted o (yielded ops a.tmps) = true := by rfl)
    (hx : a.eval x = .pointer (some ⟨b, 0, none⟩) := by rfl)
    (hm : pt b (.cells xs.toArray T fz) ∈ l := by first | ((repeat (first | with_reducible exact List.Mem.head _ | refine List.Mem.tail _ ?_)); done) | ((repeat (first | exact List.Mem.head _ | refine List.Mem.tail _ ?_)); done))
    (hl : xs.length = n := by rfl) : wpList P ops Q (o :: rest) a w := by
  obtain ⟨i, hi⟩ := List.getElem?_of_mem hm
  exact wpl_loadW hE i hi ho hw hx hA hn hl h
theorem swX (hE : Ent l w) {b : Nat} {cs : Array Value} {T : TypeId} {t : TypeId} {x y : Operand} {l' : List HProp} (xs : List Value) {n : Nat} (hn : ∀ w, (Go.sizeOf t).run P w = .ok n w)
    (h : ∀ w', Ent l' w' → wpList P ops Q rest (a.put o.dst undef) w')
    (ho : o.op = .store t x y := by with_reducible rfl) (hw : Region.wanted o (yielded ops a.tmps) = true := by rfl)
    (hx : a.eval x = .pointer (some ⟨b, 0, none⟩) := by rfl) (hy : a.eval y = .agg xs.toArray := by rfl)
    (hu : Upd (pt b (.cells cs T (0, 0))) (pt b (.cells xs.toArray T (0, 0))) l l' := by first | ((repeat (first | with_reducible exact Upd.z | apply Upd.s)); done) | ((repeat (first | exact Upd.z | apply Upd.s)); done))
    (hc : xs.length = n := by rfl) (h1 : ∀ u ∈ xs, u.oneCell' = true := by simp [Value.oneCell']) (hfit : cs.size = n := by rfl) : wpList P ops Q (o :: rest) a w := by
  obtain ⟨i, hi, rfl⟩ := hu.at
  exact wpl_storeW hE i hi ho hw hx hy hn hc h1 hfit h
theorem alX (hE : Ent l w) {t : TypeId} {v : Value} {cs : Array Value}
    (h : ∀ b w', Ent (pt b (.cells cs t) :: l) w' → wpList P ops Q rest (a.put o.dst (.pointer (some ⟨b, 0, none⟩))) w')
    (ho : o.op = .alloc t := by with_reducible rfl) (hw : Region.wanted o (yielded ops a.tmps) = true := by rfl)
    (hz : ∀ w, (zeroValue t).run P w = .ok v w := by simp [go_sem]; rfl) (hc : v.cells = cs := by first | (simp only [Value.cells]; rfl) | rfl) : wpList P ops Q (o :: rest) a w :=
  wpl_alloc hE ho hw hz (by rw [hc]; exact h)
theorem bxX (hE : Ent l w) {t : TypeId} {x : Operand} {v : Value} {cs : Array Value}
    (h : ∀ b w', Ent (pt b (.cells cs t) :: l) w' → wpList P ops Q rest (a.put o.dst (.pointer (some ⟨b, 0, none⟩))) w')
    (ho : o.op = .box t x := by with_reducible rfl) (hw : Region.wanted o (yielded ops a.tmps) = true := by rfl)
    (hx : a.eval x = v := by rfl)
    (hc : v.cells = cs := by first | (simp only [Act.eval, Act.put, List.setIfInBounds_toArray, List.set_cons_zero, List.set_cons_succ, getD_lit, List.getD_cons_succ, List.getD_cons_zero, Value.cells]; rfl) | rfl) : wpList P ops Q (o :: rest) a w :=
  wpl_box hE ho hw hx (by rw [hc]; exact h)
end
attribute [irreducible] cutAt
end Go.SL
namespace Go.SL
section
variable {P : Program} {w : World}

theorem run_part_byte {e : TypeId} (he : P.underlying e = some (.int .u8)) {xs : Array Value} {off : Nat} {v : Value} (hx : xs[off]? = some v) : (part e xs off).run P w = .ok v w := by
  simp [part, isAgg, run_underlying he, hx]

theorem run_eqItems_bytes (d : Nat) {e : TypeId} (he : P.underlying e = some (.int .u8)) (as1 bs : List UInt8) (hl : as1.length = bs.length) : ∀ is : List Nat, (∀ i ∈ is, i < as1.length) →
    (Op.eqItems (d + 1) e 1 (as1.map fun b => Value.int .u8 b.toNat).toArray (bs.map fun b => Value.int .u8 b.toNat).toArray is).run P w = .ok (is.all fun i => as1[i]? == bs[i]?) w
  | [], _ => by simp [Op.eqItems]
  | i :: is, h => by
    have ha : i < as1.length := h i (by simp)
    have hb : i < bs.length := by omega
    have e1 : (as1.map fun b => Value.int .u8 (b.toNat : Int)).toArray[i * 1]? = some (.int .u8 (as1[i].toNat : Int)) := by simp [ha]
    have e2 : (bs.map fun b => Value.int .u8 (b.toNat : Int)).toArray[i * 1]? = some (.int .u8 (bs[i].toNat : Int)) := by simp [hb]
    have ih := run_eqItems_bytes d he as1 bs hl is (fun j hj => h j (by simp [hj]))
    simp only [Op.eqItems, Sem.run_bind, run_part_byte he e1, run_part_byte he e2, Result.andThen_ok, run_equalIn_int w d e .u8 .u8 _ _ he]
    have e3 : ((as1[i].toNat : Int) == (bs[i].toNat : Int)) = (as1[i]? == bs[i]?) := by
      rw [List.getElem?_eq_getElem ha, List.getElem?_eq_getElem hb, Bool.eq_iff_iff]
      simp [← UInt8.toNat_inj]
      omega
    cases hc : ((as1[i].toNat : Int) == (bs[i].toNat : Int)) with
    | false => simp [List.all_cons, ← e3, hc]
    | true =>
      simp only [Bool.not_true, Bool.false_eq_true, if_false, ih, List.all_cons, ← e3, hc, Bool.true_and]

theorem all_range_eq (as1 bs : List UInt8) (hl : as1.length = bs.length) : ((List.range as1.length).all fun i => as1[i]? == bs[i]?) = (as1 == bs) := by
  rw [Bool.eq_iff_iff]
  simp only [List.all_eq_true, List.mem_range, beq_iff_eq]
  constructor
  · intro h
    apply List.ext_getElem?
    intro i
    by_cases hi : i < as1.length
    · exact h i hi
    · rw [List.getElem?_eq_none (by omega), List.getElem?_eq_none (by omega)]
  · rintro rfl i _
    rfl

theorem run_equalA (d : Nat) {t e : TypeId} {n : Nat} {i : TypeInfo} (hu : P.underlying t = some (.array n e)) (hi : P.info? e = some i) (h1 : P.cellsOf e = 1) (he : P.underlying e = some (.int .u8)) (as1 bs : List UInt8) (ha : as1.length = n) (hb : bs.length = n) :
    (Op.equalIn (d + 2) t (.agg (as1.map fun b => Value.int .u8 b.toNat).toArray) (.agg (bs.map fun b => Value.int .u8 b.toNat).toArray)).run P w = .ok (as1 == bs) w := by
  rw [run_equalIn_array w (d + 1) _ _ hu hi, h1, run_eqItems_bytes d he as1 bs (by omega) _ (by simp [ha]), ← ha, all_range_eq as1 bs (by omega)]

section
variable {ops : Array Oper} {rest : List Oper} {o : Oper} {a : Act} {Q : Exit → Act → World → Prop}
theorem wpl_eqA {t e t' : TypeId} {x y : Operand} (ho : o.op = .binOp .eql t x y t') (hw : Region.wanted o (yielded ops a.tmps) = true) {ys zs : List UInt8} {n : Nat}
    (hx : a.eval x = .agg (ys.map fun b => Value.int .u8 b.toNat).toArray) (hy : a.eval y = .agg (zs.map fun b => Value.int .u8 b.toNat).toArray)
    (hm : P.eqGuardType P.depth t = false) (hu : P.underlying t = some (.array n e)) (hi : (P.info? e).isSome = true) (h1 : P.cellsOf e = 1) (he : P.underlying e = some (.int .u8)) (ha : ys.length = n) (hb : zs.length = n)
    (h : wpList P ops Q rest (a.put o.dst (.bool (ys == zs))) w) : wpList P ops Q (o :: rest) a w := by
  obtain ⟨i, hi⟩ := Option.isSome_iff_exists.1 hi
  refine wpl_run hw (w' := w) (v := .bool (ys == zs)) ?_ h
  simp [execOp, ho, hx, hy, run_eqGuard_agg _ _ _ _ _ _ _ hm, run_eql_struct, run_equalA 9998 hu hi h1 he ys zs ha hb]

theorem wpl_neA {t e t' : TypeId} {x y : Operand} (ho : o.op = .binOp .neq t x y t') (hw : Region.wanted o (yielded ops a.tmps) = true) {ys zs : List UInt8} {n : Nat}
    (hx : a.eval x = .agg (ys.map fun b => Value.int .u8 b.toNat).toArray) (hy : a.eval y = .agg (zs.map fun b => Value.int .u8 b.toNat).toArray)
    (hm : P.eqGuardType P.depth t = false) (hu : P.underlying t = some (.array n e)) (hi : (P.info? e).isSome = true) (h1 : P.cellsOf e = 1) (he : P.underlying e = some (.int .u8)) (ha : ys.length = n) (hb : zs.length = n)
    (h : wpList P ops Q rest (a.put o.dst (.bool (!(ys == zs)))) w) : wpList P ops Q (o :: rest) a w := by
  obtain ⟨i, hi⟩ := Option.isSome_iff_exists.1 hi
  refine wpl_run hw (w' := w) (v := .bool (!(ys == zs))) ?_ h
  simp [execOp, ho, hx, hy, run_eqGuard_agg _ _ _ _ _ _ _ hm, run_neq_struct, run_equalA 9998 hu hi h1 he ys zs ha hb]
end
end
end Go.SL
namespace Go.SL
open Go.ChangeShapes Go.WideShapes Go.Deep Go.RowKit

theorem cell_lt {w : World} {p : Addr} {v : Value} (h : w.cell? p = some v) : p.block < w.heap.size := by
  by_cases hb : p.block < w.heap.size
  · exact hb
  · have : w.heap[p.block]? = none := by rw [Array.getElem?_eq_none_iff]; omega
    simp [World.cell?, this] at h

theorem reads_below {W w : World} {v : Value} {n : Nat} {xs : List Value} (bel : Below W.heap.size W w) (hr : reads v n xs W) : reads v n xs w := by
  obtain ⟨ao, c, rfl, h1, h2⟩ := hr
  refine ⟨ao, c, rfl, h1, fun ad had j u hu => ?_⟩
  have h := h2 ad had j u hu
  rw [bel.cell (cell_lt h)]
  exact h

theorem knows_start {W : World} {v : Value} {n : Nat} {xs : List Value} (hr : reads v n xs W) : Knows [rest W fun _ => False] (reads v n xs) :=
  fun _ hE => reads_below (hE.below 0 rfl) hr

theorem choose_list {α : Type} (q : Nat → α → Prop) : ∀ n : Nat, (∀ i, i < n → ∃ x, q i x) → ∃ xs : List α, xs.length = n ∧ ∀ i x, xs[i]? = some x → q i x
  | 0, _ => ⟨[], rfl, fun i x h => by simp at h⟩
  | n + 1, h => by
    obtain ⟨xs, h1, h2⟩ := choose_list q n (fun i hi => h i (by omega))
    obtain ⟨y, hy⟩ := h n (by omega)
    refine ⟨xs ++ [y], by simp [h1], fun i x hx => ?_⟩
    by_cases hi : i < xs.length
    · rw [List.getElem?_append_left hi] at hx
      exact h2 i x hx
    · rw [List.getElem?_append_right (by omega)] at hx
      have : i - xs.length = 0 := by
        have := (List.getElem?_eq_some_iff.1 hx).1
        simp at this
        omega
      rw [this] at hx
      simp at hx
      subst hx
      rwa [show i = n by omega]

theorem flatMap_get {α : Type} (f : α → List Value) (k : Nat) (hk : ∀ x, (f x).length = k) : ∀ (xs : List α) (j : Nat) (u : Value), (xs.flatMap f)[j]? = some u → 0 < k → ∃ x, xs[j / k]? = some x ∧ (f x)[j % k]? = some u
  | [], j, u, h, _ => by simp at h
  | x :: xs, j, u, h, h0 => by
    rw [List.flatMap_cons] at h
    by_cases hj : j < k
    · rw [List.getElem?_append_left (by rw [hk]; exact hj)] at h
      refine ⟨x, by rw [Nat.div_eq_of_lt hj]; rfl, by rw [Nat.mod_eq_of_lt hj]; exact h⟩
    · rw [List.getElem?_append_right (by rw [hk]; omega), hk] at h
      obtain ⟨y, h1, h2⟩ := flatMap_get f k hk xs (j - k) u h h0
      refine ⟨y, ?_, ?_⟩
      · rw [show j / k = (j - k) / k + 1 by rw [Nat.div_eq_sub_div h0 (by omega)]]
        simpa using h1
      · rw [show j % k = (j - k) % k by rw [Nat.mod_eq_sub_mod (by omega)]]
        exact h2

theorem flatMap_len {α : Type} (f : α → List Value) (k : Nat) (hk : ∀ x, (f x).length = k) : ∀ xs : List α, (xs.flatMap f).length = xs.length * k
  | [] => by simp
  | x :: xs => by rw [List.flatMap_cons, List.length_append, hk, flatMap_len f k hk xs, List.length_cons, Nat.succ_mul, Nat.add_comm]

theorem flatMap_at {α : Type} (f : α → List Value) (k : Nat) (hk : ∀ x, (f x).length = k) (xs : List α) (i j : Nat) (x : α) (u : Value) (hx : xs[i]? = some x) (hu : (f x)[j]? = some u) : (xs.flatMap f)[i * k + j]? = some u := by
  induction xs generalizing i with
  | nil => simp at hx
  | cons y ys ih =>
    have hj : j < k := by rw [← hk x]; exact (List.getElem?_eq_some_iff.1 hu).1
    rw [List.flatMap_cons]
    cases i with
    | zero =>
      simp at hx
      subst hx
      rw [List.getElem?_append_left (by rw [hk]; omega)]
      simpa using hu
    | succ i =>
      rw [List.getElem?_append_right (by rw [hk]; rw [Nat.succ_mul]; omega), hk, show (i + 1) * k + j - k = i * k + j by rw [Nat.succ_mul]; omega]
      exact ih i (by simpa using hx)

section
variable {H : Type} {enc : TypeId × Value → H} {P : Program} {w : World} {held : Bool}

/-- a slice that came in, read by its elements -/
theorem open_row {t e : TypeId} {r : Reach} {b0 : Nat} {v : Value} {d : DataW H} {ps : List MemPlace} (ht : P.underlying t = some (.slice e)) {α : Type} (cells : α → List Value) (good : α → Prop) {k : Nat} (hk : ∀ x, (cells x).length = k) (h0 : 0 < k) (hC : P.cellsOf e = k)
    (hval : Value.okWide P w r b0 t v) (h : DataW.Trod enc P w 0 (fun _ => true) held t v d ps)
    (hel : ∀ (m : Nat) (cs : List Value) (y : DataW H × List MemPlace), cs.length = k → DataW.trod enc P w 0 (fun _ => true) held m e cs = some y → ∃ x, good x ∧ cs = cells x) :
    ∃ (ao : Option Addr) (c : Nat) (xs : List α), v = .slice ao xs.length c ∧ xs.length ≤ c ∧ c ≤ maxLen ∧ (∀ x ∈ xs, good x) ∧ reads v xs.length (xs.flatMap cells) w := by
  obtain ⟨ao, len, cap, rfl⟩ := okWide_slice ht hval
  obtain ⟨fuel, hf⟩ := h
  rcases open_slice ht hf with ⟨hcs, _⟩ | ⟨a, l, c, m, n, D, Pl, hcs, _, hl, hm, hmm, _, hi⟩
  · simp [Value.cells] at hcs
    obtain ⟨rfl, rfl, rfl⟩ := hcs
    exact ⟨none, 0, [], rfl, Nat.le_refl _, Nat.zero_le _, by simp, reads_nil 0 0 rfl w⟩
  · simp [Value.cells] at hcs
    obtain ⟨rfl, rfl, rfl⟩ := hcs
    simp at hmm
    subst hmm
    obtain ⟨xs, h1, h2⟩ := choose_list (fun i x => good x ∧ ∀ j u, (cells x)[j]? = some u → w.cell? (a.add (i * k + j)) = some u) len (fun i hil => by
      obtain ⟨cs', hc, htr⟩ := hi i (by omega)
      rw [hC] at hc
      obtain ⟨_, hcl, hat⟩ := World.cells?_some hc
      obtain ⟨x, hg, rfl⟩ := hel n cs' _ hcl htr
      refine ⟨x, hg, fun j u hu => ?_⟩
      rw [← Go.Deep.add_add, hat j (by rw [← hcl]; exact (List.getElem?_eq_some_iff.1 hu).1)]
      exact hu)
    subst h1
    refine ⟨some a, _, xs, rfl, hl, hm, fun x hx => ?_, some a, _, rfl, fun h => (by cases h), fun ad had j u hu => ?_⟩
    · obtain ⟨i, hi'⟩ := List.getElem?_of_mem hx
      exact (h2 i x hi').1
    · cases had
      obtain ⟨x, hx, hu'⟩ := flatMap_get cells k hk xs j u hu h0
      have := (h2 _ _ hx).2 _ _ hu'
      rwa [show j / k * k + j % k = j by rw [Nat.mul_comm]; exact Nat.div_add_mod j k] at this

/-- a slice of bytes that came in -/
theorem open_bytes {t e : TypeId} {r : Reach} {b0 : Nat} {v : Value} {d : DataW H} {ps : List MemPlace} (ht : P.underlying t = some (.slice e)) (he : P.underlying e = some (.int .u8)) (hC : P.cellsOf e = 1)
    (hval : Value.okWide P w r b0 t v) (h : DataW.Trod enc P w 0 (fun _ => true) held t v d ps) :
    ∃ (ao : Option Addr) (c : Nat) (bs : List UInt8), v = .slice ao bs.length c ∧ bs.length ≤ c ∧ c ≤ maxLen ∧ reads v bs.length (bs.map fun b => Value.int .u8 b.toNat) w := by
  obtain ⟨ao, c, xs, h1, h2, h3, _, h4⟩ := open_row ht (fun b : UInt8 => [Value.int .u8 (b.toNat : Int)]) (fun _ => True) (k := 1) (fun _ => rfl) (by omega) hC hval h (fun m cs y hl hy => by
    obtain ⟨n, rfl, _, hw⟩ := DataW.trod_int he hy
    refine ⟨UInt8.ofNat n.toNat, trivial, ?_⟩
    obtain ⟨h1, h2⟩ : 0 ≤ n ∧ n ≤ 255 := by simpa [Lit.wf, IntKind.min, IntKind.max, IntKind.signed, IntKind.bits] using hw
    rw [UInt8.toNat_ofNat', show n.toNat % 2 ^ 8 = n.toNat by omega, Int.toNat_of_nonneg h1])
  refine ⟨ao, c, xs, h1, h2, h3, ?_⟩
  have e : ∀ l : List UInt8, l.flatMap (fun b => [Value.int .u8 (b.toNat : Int)]) = l.map fun b => Value.int .u8 b.toNat := by
    intro l
    induction l with
    | nil => rfl
    | cons x l ih => simp [List.flatMap_cons, ih]
  rwa [e] at h4
end
end Go.SL
namespace Go.SL
section
variable {w : World} {l : List HProp}

theorem Ent.fromRow (hE : Ent l w) (i : Nat) {e : TypeId} {size n : Nat} {v : Value} {xs : List Value} (hi : l[i]? = some (row e size v n xs)) (h0 : 0 < n) :
    ∃ (g cap : Nat) (cur : Array Value), v = .slice (some ⟨g, 0, none⟩) n cap ∧ n ≤ cap ∧ cap ≤ maxLen ∧ cur.size = cap * size ∧ cur.toList.take (n * size) = xs ∧ Ent (l.set i (pt g (.cells cur e (0, 0)))) w := by
  have ho := hE.owns i hi
  rcases ho.2 with ⟨rfl, rfl⟩ | ⟨g, cap, cur, rfl, hb, hg, hn, hm, hs, ht⟩
  · exact absurd h0 (by omega)
  · refine ⟨g, cap, cur, rfl, hn, hm, hs, ht, Ent.put ((hE.front i hi).step (Bs := [pt g (.cells cur e (0, 0))]) (Same.refl w) (Nat.le_refl _) fun F hF => ⟨fun _ _ _ => rfl, F, on_single ?_, fun _ h => .inl h⟩) (List.getElem?_eq_some_iff.1 hi).1⟩
    unfold row at hF
    unfold pt
    exact ⟨hg, fun x => by rw [hF.2]; simp [Value.ownBlock, eq_comm]⟩

/-- a cell of a row of one-cell elements is written -/
theorem Ent.backRow (hE : Ent l w) (i : Nat) {g cap n k : Nat} {cur : Array Value} {e : TypeId} {u : Value} {xs : List Value} (hi : l[i]? = some (pt g (.cells (cur.setIfInBounds k u) e (0, 0))))
    (hn : n ≤ cap) (hm : cap ≤ maxLen) (hs : cur.size = cap * 1) (ht : cur.toList.take (n * 1) = xs) : Ent (l.set i (row e 1 (.slice (some ⟨g, 0, none⟩) n cap) n (xs.set k u))) w := by
  refine hE.toRow i hi ?_ hn hm (by simpa using hs) ?_
  · rw [List.length_set, ← ht, List.length_take, Array.length_toList, hs]
    omega
  · rw [Array.toList_setIfInBounds, ← ht, List.take_set]
end
end Go.SL
namespace Go.SL
section
variable {P : Program} {ops : Array Oper} {rest : List Oper} {o : Oper} {a : Act} {Q : Exit → Act → World → Prop} {w : World} {l : List HProp}

/-- the number of cells of a type's zero value -/
def zeroSize (P : Program) (t : TypeId) : Option Nat := (P.info? t).bind fun i => i.zero.map (·.cells.size)

theorem run_zero {t : TypeId} {n : Nat} (h : zeroSize P t = some n) : ∃ v : Value, v.cells.size = n ∧ ∀ w : World, (zeroValue t).run P w = .ok v w := by
  unfold zeroSize at h
  cases hi : P.info? t with
  | none => simp [hi] at h
  | some i =>
    cases hz : i.zero with
    | none => simp [hi, hz] at h
    | some v => exact ⟨v, by simpa [hi, hz] using h, fun w => by simp [zeroValue, typeInfo, hi, hz]⟩

theorem wpl_allocN (hE : Ent l w) {t : TypeId} (ho : o.op = .alloc t) (hw : Region.wanted o (yielded ops a.tmps) = true) {n : Nat} (hz : zeroSize P t = some n)
    (h : ∀ b (cs : List Value) w', cs.length = n → Ent (pt b (.cells cs.toArray t) :: l) w' → wpList P ops Q rest (a.put o.dst (.pointer (some ⟨b, 0, none⟩))) w') : wpList P ops Q (o :: rest) a w := by
  obtain ⟨v, hv, hr⟩ := run_zero hz
  exact wpl_alloc hE ho hw hr fun b w' hE' => h b v.cells.toList w' (by simpa using hv) (by simpa using hE')

/-- a whole value written over the whole of a block -/
theorem wpl_storeN (hE : Ent l w) (i : Nat) {b : Nat} {cs : List Value} {T : TypeId} (hi : l[i]? = some (pt b (.cells cs.toArray T (0, 0))))
    {t : TypeId} {x y : Operand} (ho : o.op = .store t x y) (hw : Region.wanted o (yielded ops a.tmps) = true)
    (hx : a.eval x = .pointer (some ⟨b, 0, none⟩)) {xs : List Value} (hy : a.eval y = .agg xs.toArray) {n : Nat} (hn : ∀ w, (Go.sizeOf t).run P w = .ok n w) (hc : xs.length = n)
    (h1 : ∀ u ∈ xs, u.oneCell' = true) (hfit : cs.length = n)
    (h : ∀ w', Ent (l.set i (pt b (.cells xs.toArray T (0, 0)))) w' → wpList P ops Q rest (a.put o.dst undef) w') : wpList P ops Q (o :: rest) a w := by
  refine wpl_store hE i hi ho hw hx hy hn (by simpa [Value.cells] using hc) (by simpa [Value.cells] using h1) (by simp; omega) fun w' hE' => h w' ?_
  have e : (cs.toArray.toList.take 0 ++ (Value.agg xs.toArray).cells.toList ++ cs.toArray.toList.drop (0 + (Value.agg xs.toArray).cells.toList.length)).toArray = xs.toArray := by
    simp [Value.cells, hc, ← hfit]
  rw [e] at hE'
  exact hE'

theorem Ent.rowIs (hE : Ent l w) (i : Nat) {e : TypeId} {size n c : Nat} {ao : Option Addr} {xs : List Value} (hi : l[i]? = some (row e size (.slice ao n c) n xs)) (h0 : 0 < n) :
    ∃ g, ao = some ⟨g, 0, none⟩ ∧ n ≤ c ∧ c ≤ maxLen := by
  obtain ⟨g, cap, cur, hv, h1, h2, _⟩ := hE.fromRow i hi h0
  cases hv
  exact ⟨g, rfl, h1, h2⟩

theorem Ent.rowCell (hE : Ent l w) (i : Nat) {e : TypeId} {size n c g : Nat} {xs : List Value} (hi : l[i]? = some (row e size (.slice (some ⟨g, 0, none⟩) n c) n xs)) {j : Nat} {u : Value} (hu : xs[j]? = some u) : w.cell? ⟨g, j, none⟩ = some u := by
  obtain ⟨ao, c', e1, _, h⟩ := reads_row hE i hi
  cases e1
  have := h _ rfl j u hu
  rwa [Addr.add_lit, Nat.zero_add] at this

/-- the cells of a row, a part of them written anew -/
def splice (xs : List Value) (off : Nat) (ys : List Value) : List Value := xs.take off ++ ys ++ xs.drop (off + ys.length)

theorem splice_length (xs : List Value) (off : Nat) (ys : List Value) (h : off + ys.length ≤ xs.length) : (splice xs off ys).length = xs.length := by
  simp only [splice, List.length_append, List.length_take, List.length_drop]
  omega

theorem take_put (cs : List Value) (m off : Nat) (ys : List Value) (h : off + ys.length ≤ m) (hm : m ≤ cs.length) : (splice cs off ys).take m = splice (cs.take m) off ys := by
  unfold splice
  apply List.ext_getElem?
  intro j
  have l1 : (cs.take off).length = off := by rw [List.length_take]; omega
  have l3 : (cs.take off ++ ys).length = off + ys.length := by rw [List.length_append, l1]
  have e1 : (cs.take m).take off = cs.take off := by rw [List.take_take, Nat.min_eq_left (by omega)]
  have A : ∀ zs : List Value, (cs.take off ++ ys ++ zs)[j]? = if j < off + ys.length then (cs.take off ++ ys)[j]? else zs[j - (off + ys.length)]? := by
    intro zs
    split
    · rw [List.getElem?_append_left (by omega)]
    · rw [List.getElem?_append_right (by omega), l3]
  rw [List.getElem?_take, e1, A, A]
  by_cases hj : j < off + ys.length
  · rw [if_pos (by omega), if_pos hj, if_pos hj]
  · rw [if_neg hj, if_neg hj, List.getElem?_drop, List.getElem?_drop, List.getElem?_take]
    rw [show off + ys.length + (j - (off + ys.length)) = j by omega]

/-- the elements' cells of a row of things of so many cells, where each is so long -/
theorem flatMap_at' {α : Type} (f : α → List Value) (k : Nat) : ∀ (xs : List α), (∀ x ∈ xs, (f x).length = k) → ∀ (i j : Nat) (x : α) (u : Value), xs[i]? = some x → (f x)[j]? = some u → (xs.flatMap f)[i * k + j]? = some u
  | [], _, _, _, _, _, hx, _ => by simp at hx
  | y :: ys, hk, i, j, x, u, hx, hu => by
    have hxm : x ∈ y :: ys := List.mem_of_getElem? hx
    have hj : j < k := by rw [← hk x hxm]; exact (List.getElem?_eq_some_iff.1 hu).1
    rw [List.flatMap_cons]
    cases i with
    | zero =>
      simp at hx
      subst hx
      rw [List.getElem?_append_left (by rw [hk y (by simp)]; omega)]
      simpa using hu
    | succ i =>
      rw [List.getElem?_append_right (by rw [hk y (by simp), Nat.succ_mul]; omega), hk y (by simp), show (i + 1) * k + j - k = i * k + j by rw [Nat.succ_mul]; omega]
      exact flatMap_at' f k ys (fun z hz => hk z (by simp [hz])) i j x u (by simpa using hx) hu

theorem flatMap_len' {α : Type} (f : α → List Value) (k : Nat) : ∀ xs : List α, (∀ x ∈ xs, (f x).length = k) → (xs.flatMap f).length = xs.length * k
  | [], _ => by simp
  | x :: xs, h => by rw [List.flatMap_cons, List.length_append, h x (by simp), flatMap_len' f k xs (fun y hy => h y (by simp [hy])), List.length_cons, Nat.succ_mul, Nat.add_comm]

theorem flatMap_set' {α : Type} (f : α → List Value) (k : Nat) : ∀ (xs : List α) (i : Nat) (y : α), (∀ x ∈ xs, (f x).length = k) → (f y).length = k → i < xs.length →
    (xs.set i y).flatMap f = (xs.flatMap f).take (i * k) ++ f y ++ (xs.flatMap f).drop (i * k + k)
  | [], i, y, _, _, h => by simp at h
  | x :: xs, 0, y, hk, hy, _ => by
    have hx := hk x (by simp)
    simp only [List.set_cons_zero, List.flatMap_cons, Nat.zero_mul, List.take_zero, List.nil_append, Nat.zero_add]
    rw [List.drop_append, hx, List.drop_eq_nil_of_le (by omega)]
    simp
  | x :: xs, i + 1, y, hk, hy, h => by
    have hx := hk x (by simp)
    simp only [List.set_cons_succ, List.flatMap_cons]
    rw [flatMap_set' f k xs i y (fun z hz => hk z (by simp [hz])) hy (by simpa using h)]
    rw [show (i + 1) * k = (f x).length + i * k by rw [hx, Nat.succ_mul, Nat.add_comm], List.take_length_add_append, Nat.add_assoc, List.drop_length_add_append]
    simp

theorem splice_flatMap {α : Type} (f : α → List Value) (k : Nat) (xs : List α) (i : Nat) (y : α) (h : ∀ x ∈ xs, (f x).length = k) (hy : (f y).length = k) (hi : i < xs.length) : splice (xs.flatMap f) (i * k) (f y) = (xs.set i y).flatMap f := by
  rw [flatMap_set' f k xs i y h hy hi, splice, hy]

theorem and_one (x m : Nat) (hx : x < 256) : (bits .and .u8 ((x : Int) / 2 ^ m) 1 == 1) = (x / 2 ^ m % 2 == 1) := by
  have h1 : ((x : Int) / 2 ^ m) = ((x / 2 ^ m : Nat) : Int) := by push_cast; rfl
  have h2 : x / 2 ^ m < 256 := Nat.lt_of_le_of_lt (Nat.div_le_self _ _) hx
  rw [h1, show (1 : Int) = ((1 : Nat) : Int) from rfl, u8_and_nat _ _ h2 (by omega), Nat.and_one_is_mod]
  rw [Bool.eq_iff_iff]
  simp only [beq_iff_eq]
  omega

theorem Ent.storeRow (hE : Ent l w) (i : Nat) {e : TypeId} {size n c g off : Nat} {xs ys : List Value} (hi : l[i]? = some (row e size (.slice (some ⟨g, 0, none⟩) n c) n xs)) {t : TypeId} {v : Value} {k : Nat}
    (hn : ∀ w, (Go.sizeOf t).run P w = .ok k w) (hv : v.cells.toList = ys) (hk : ys.length = k) (h1 : ∀ u ∈ ys, u.oneCell' = true) (hfit : off + k ≤ n * size) :
    ∃ w', (Instr.storeAt t (.pointer (some ⟨g, off, none⟩)) v).run P w = .ok () w' ∧ Ent (l.set i (row e size (.slice (some ⟨g, 0, none⟩) n c) n (splice xs off ys))) w' := by
  have hl : i < l.length := (List.getElem?_eq_some_iff.1 hi).1
  have h0 : 0 < n ∨ n = 0 := by omega
  have hxs : xs.length = n * size := (hE.owns i hi).1
  obtain ⟨g', cap, cur, hv', hn1, hm1, hs1, ht1, hE1⟩ : ∃ (g' cap : Nat) (cur : Array Value), Value.slice (some ⟨g, 0, none⟩) n c = .slice (some ⟨g', 0, none⟩) n cap ∧ n ≤ cap ∧ cap ≤ maxLen ∧ cur.size = cap * size ∧ cur.toList.take (n * size) = xs ∧ Ent (l.set i (pt g' (.cells cur e (0, 0)))) w := by
    have ho := hE.owns i hi
    rcases ho.2 with ⟨h, _⟩ | ⟨g', cap, cur, hv, hb, hg, hn, hm, hs, ht⟩
    · cases h
    · refine ⟨g', cap, cur, hv, hn, hm, hs, ht, Ent.put ((hE.front i hi).step (Bs := [pt g' (.cells cur e (0, 0))]) (Same.refl w) (Nat.le_refl _) fun F hF => ⟨fun _ _ _ => rfl, F, on_single ?_, fun _ h => .inl h⟩) hl⟩
      unfold row at hF
      unfold pt
      refine ⟨hg, fun x => ?_⟩
      rw [hF.2]
      cases hv
      simp [Value.ownBlock, eq_comm]
  cases hv'
  have hcs : off + k ≤ cur.size := by rw [hs1]; exact Nat.le_trans hfit (Nat.mul_le_mul_right _ hn1)
  have hr := run_storeV (P := P) hE1 i (b := g) (cs := cur) (T := e) (by simp [hl]) hn (v := v) (off := off) (by rw [← hk, ← hv]; simp) (by rw [hv]; exact h1) hcs
  refine ⟨_, hr, ?_⟩
  have hE2 := hE1.setRow i (b := g) (cs := cur) (T := e) (fz := (0, 0)) (by simp [hl]) (splice cur.toList off ys).toArray
  rw [List.set_set] at hE2
  have hE3 := hE2.toRow i (b := g) (cs := (splice cur.toList off ys).toArray) (e := e) (by simp [hl]) (size := size) (n := n) (cap := c) (xs := splice xs off ys) (by rw [splice_length _ _ _ (by rw [hxs, hk]; exact hfit), hxs]) hn1 hm1
    (by simp only [List.size_toArray]; rw [splice_length _ _ _ (by rw [hk]; simpa using hcs)]; simpa using hs1)
    (by rw [← ht1]; exact take_put _ _ _ _ (by rw [hk]; exact hfit) (by simp only [Array.length_toList]; rw [hs1]; exact Nat.mul_le_mul_right _ hn1))
  rw [List.set_set] at hE3
  rw [hv]
  exact hE3

theorem wpl_storeRow (hE : Ent l w) (i : Nat) {e : TypeId} {size n c g off : Nat} {xs ys : List Value} (hi : l[i]? = some (row e size (.slice (some ⟨g, 0, none⟩) n c) n xs)) {t : TypeId} {x y : Operand} {v : Value} {k : Nat}
    (ho : o.op = .store t x y) (hw : Region.wanted o (yielded ops a.tmps) = true) (hx : a.eval x = .pointer (some ⟨g, off, none⟩)) (hy : a.eval y = v)
    (hn : ∀ w, (Go.sizeOf t).run P w = .ok k w) (hv : v.cells.toList = ys) (hk : ys.length = k) (h1 : ∀ u ∈ ys, u.oneCell' = true) (hfit : off + k ≤ n * size)
    (h : ∀ w', Ent (l.set i (row e size (.slice (some ⟨g, 0, none⟩) n c) n (splice xs off ys))) w' → wpList P ops Q rest (a.put o.dst undef) w') : wpList P ops Q (o :: rest) a w := by
  obtain ⟨w', hr, hE'⟩ := hE.storeRow (P := P) i hi hn hv hk h1 hfit
  refine wpl_run_skip hw (w' := w') ?_ (h w' hE')
  simp [execOp, ho, hx, hy, hr]

theorem wpl_storeRowA (hE : Ent l w) (i : Nat) {e : TypeId} {size n c g off : Nat} {xs : List Value} (ys : List Value) (hi : l[i]? = some (row e size (.slice (some ⟨g, 0, none⟩) n c) n xs)) {t : TypeId} {x y : Operand} {k : Nat}
    (ho : o.op = .store t x y) (hw : Region.wanted o (yielded ops a.tmps) = true) (hx : a.eval x = .pointer (some ⟨g, off, none⟩)) (hy : a.eval y = .agg ys.toArray)
    (hn : ∀ w, (Go.sizeOf t).run P w = .ok k w) (hk : ys.length = k) (h1 : ∀ u ∈ ys, u.oneCell' = true) (hfit : off + k ≤ n * size)
    (h : ∀ w', Ent (l.set i (row e size (.slice (some ⟨g, 0, none⟩) n c) n (splice xs off ys))) w' → wpList P ops Q rest (a.put o.dst undef) w') : wpList P ops Q (o :: rest) a w :=
  wpl_storeRow hE i hi ho hw hx hy hn (by simp [Value.cells]) hk h1 hfit h

theorem still_run {a : Act} {K : Act → Prop} {v : Value} {E : Prop} (hw : Region.wanted o (yielded ops a.tmps) = true) (hr : (execOp a.eval o).run P w = .ok (.value v) w) (h : K (a.put o.dst v)) : if Region.wanted o (yielded ops a.tmps) = true then o.still P a w K else E := by
  rw [if_pos hw]
  unfold Oper.still
  rw [hr, Oper.stillUpon_value]
  exact h

theorem still_loadW (hE : Ent l w) (i : Nat) {b : Nat} {xs : List Value} {T : TypeId} {fz : Nat × Nat} (hi : l[i]? = some (pt b (.cells xs.toArray T fz))) {a : Act} {K : Act → Prop} {E : Prop}
    {t : TypeId} {x : Operand} (ho : o.op = .load t x) (hw : Region.wanted o (yielded ops a.tmps) = true)
    (hx : a.eval x = .pointer (some ⟨b, 0, none⟩)) (hA : ∀ w, (isAgg t).run P w = .ok true w) {n : Nat} (hn : ∀ w, (Go.sizeOf t).run P w = .ok n w) (ys : List Value) (hys : ys.length = n) (hl : ∀ j, j < n → xs[j]? = ys[j]?)
    (h : K (a.put o.dst (.agg ys.toArray))) : if Region.wanted o (yielded ops a.tmps) = true then o.still P a w K else E := by
  refine still_run hw ?_ h
  simp [execOp, ho, hx, run_loadA hE i hi hA hn hys (off := 0) (fun j hj => by simpa using hl j hj)]

theorem run_loadR {t : TypeId} (hA : ∀ w, (isAgg t).run P w = .ok true w) {n : Nat} (hn : ∀ w, (Go.sizeOf t).run P w = .ok n w) {ad : Addr} {vs : List Value} (hl : vs.length = n) (hc : ∀ j v, vs[j]? = some v → w.cell? (ad.add j) = some v) :
    (Instr.loadAt t (.pointer (some ad))).run P w = .ok (.agg vs.toArray) w := by
  have hr := run_loadCells_list (P := P) w ad vs hc
  subst hl
  simp [Instr.loadAt, Instr.sureAddr, loadVar, hA, hn, hr]

theorem splice_get (xs : List Value) (off : Nat) (ys : List Value) (j : Nat) (h : off ≤ xs.length) : (splice xs off ys)[j]? = if j < off then xs[j]? else if j < off + ys.length then ys[j - off]? else xs[j]? := by
  have l1 : (xs.take off).length = off := by rw [List.length_take]; omega
  unfold splice
  rw [List.append_assoc]
  by_cases h1 : j < off
  · rw [if_pos h1, List.getElem?_append_left (by omega), List.getElem?_take, if_pos h1]
  · rw [if_neg h1, List.getElem?_append_right (by omega), l1]
    by_cases h2 : j < off + ys.length
    · rw [if_pos h2, List.getElem?_append_left (by omega)]
    · rw [if_neg h2, List.getElem?_append_right (by omega), List.getElem?_drop]
      congr 1
      omega

theorem foldl_set (off : Nat) : ∀ (vs : List Value) (k : Nat) (cs : Array Value), off + k + vs.length ≤ cs.size →
    ((vs.zipIdx k).foldl (fun cs x => cs.setIfInBounds (off + x.2) x.1) cs).toList = splice cs.toList (off + k) vs
  | [], k, cs, _ => by simp [splice]
  | v :: vs, k, cs, h => by
    rw [List.zipIdx_cons, List.foldl_cons, foldl_set off vs (k + 1) _ (by simp only [List.length_cons] at h; simp; omega)]
    simp only [List.length_cons] at h
    apply List.ext_getElem?
    intro j
    simp only [Array.toList_setIfInBounds]
    rw [splice_get _ _ _ _ (by simp; omega), splice_get _ _ _ _ (by simp; omega), List.length_cons]
    by_cases h1 : j < off + k
    · rw [if_pos (by omega), if_pos h1, List.getElem?_set_ne (by omega)]
    · rw [if_neg h1]
      by_cases h2 : j = off + k
      · subst h2
        rw [if_pos (by omega), if_pos (by omega), List.getElem?_set_self (by simp; omega)]
        simp
      · rw [if_neg (by omega)]
        by_cases h3 : j < off + (k + 1) + vs.length
        · rw [if_pos h3, if_pos (by omega), show j - (off + k) = (j - (off + (k + 1))) + 1 by omega, List.getElem?_cons_succ]
        · rw [if_neg h3, if_neg (by omega), List.getElem?_set_ne (by omega)]

theorem foldl_all (vs : List Value) (cs : Array Value) (h : vs.length = cs.size) : (vs.toArray.zipIdx.foldl (fun cs (x : Value × Nat) => cs.setIfInBounds (0 + x.2) x.1) cs) = vs.toArray := by
  have h1 := foldl_set 0 vs 0 cs (by omega)
  apply Array.ext'
  rw [← Array.foldl_toList]
  simp only [Array.toList_zipIdx]
  rw [h1]
  simp [splice, h]

theorem run_buildSlice1 {t e : TypeId} {size : Nat} (ht : P.underlying t = some (.slice e)) (hI : zeroSize P e = some size) (hn : ∀ w, (Go.sizeOf e).run P w = .ok size w) (h0 : 0 < size) (h24 : size ≤ 16777216) (xs : List Value) (hx : xs.length = size) :
    (Instr.buildSlice t 1 #[(0, .agg xs.toArray)]).run P w = .ok (.slice (some ⟨w.heap.size, 0, none⟩) 1 1) (w.alloc (.cells xs.toArray e)) := by
  obtain ⟨z, hz, hzr⟩ := run_zero hI
  have hf := foldl_all xs ((Array.range size).map (fun i => z.cells[i % z.cells.size]!)) (by simp [hx])
  have hc : (Value.agg xs.toArray).cells = xs.toArray := rfl
  simp [Instr.buildSlice, run_underlying ht, hn, hzr, Instr.fill, hc, hx, Nat.not_lt.2 h24, Nat.pos_iff_ne_zero.1 h0, newRow]
  simp at hf
  rw [hf]

theorem fill_step {place : Nat → Option (Nat × Nat)} (cells : Array Value) (i : Nat) (u : Value) (vs : List Value) (off : Nat) (rest : List (Nat × Value)) (hu : u.cells = vs.toArray) (hp : place i = some (off, vs.length)) (h : off + vs.length ≤ cells.size) :
    ∃ c1 : Array Value, c1.toList = splice cells.toList off vs ∧ Instr.fill place cells ((i, u) :: rest) = Instr.fill place c1 rest := by
  refine ⟨vs.toArray.zipIdx.foldl (fun cs (x : Value × Nat) => cs.setIfInBounds (off + x.2) x.1) cells, ?_, ?_⟩
  · rw [← Array.foldl_toList]
    simp only [Array.toList_zipIdx]
    exact foldl_set off vs 0 cells (by omega)
  · simp only [Instr.fill, hp, hu]
    rw [if_neg (by simp; omega)]

/-- two parts that fill a struct -/
theorem fill_two {place : Nat → Option (Nat × Nat)} (z : Array Value) (xs ys : List Value) (u v : Value) (hu : u.cells = xs.toArray) (hv : v.cells = ys.toArray) (h0 : place 0 = some (0, xs.length)) (h1 : place 1 = some (xs.length, ys.length)) (hz : z.size = xs.length + ys.length) :
    Instr.fill place z [(0, u), (1, v)] = some (xs ++ ys).toArray := by
  obtain ⟨c1, e1, f1⟩ := fill_step z 0 u xs 0 [(1, v)] hu h0 (by omega)
  have s1 : c1.size = z.size := by rw [← Array.length_toList, e1, splice_length _ _ _ (by simp; omega), Array.length_toList]
  obtain ⟨c2, e2, f2⟩ := fill_step c1 1 v ys xs.length [] hv h1 (by omega)
  rw [f1, f2, Instr.fill]
  congr 1
  apply Array.ext'
  rw [e2, e1]
  simp only [splice, List.take_zero, List.nil_append, Nat.zero_add]
  rw [List.take_left, List.drop_append, List.drop_eq_nil_of_le (by omega), List.drop_drop, List.drop_eq_nil_of_le (by simp; omega)]
  simp

/-- what an append asks of the type of the elements: zero value's cells, cells, bytes -/
def elemInfo (P : Program) (e : TypeId) : Option (Option Nat × Nat × Nat) := (P.info? e).map fun i => (i.zero.map (·.cells.size), i.size, i.bytes)

theorem elemInfo_parts {e : TypeId} {size bytes : Nat} (h : elemInfo P e = some (some size, size, bytes)) : ∃ i z, P.info? e = some i ∧ i.zero = some z ∧ i.size = size ∧ i.bytes = bytes ∧ z.cells.size = size := by
  unfold elemInfo at h
  cases hi : P.info? e with
  | none => simp [hi] at h
  | some i =>
    simp only [hi, Option.map_some, Option.some.injEq, Prod.mk.injEq] at h
    obtain ⟨h1, h2, h3⟩ := h
    cases hz : i.zero with
    | none => simp [hz] at h1
    | some z => exact ⟨i, z, rfl, hz, h2, h3, by simpa [hz] using h1⟩

theorem Ent.appendG {e : TypeId} {size bytes : Nat} {t : TypeId} (ty : TypeId) (hE : Ent l w) (k : Nat) {v : Value} {n : Nat} {xs : List Value} (hk : l[k]? = some (row e size v n xs))
    (ht : P.underlying t = some (.slice e)) (hI : elemInfo P e = some (some size, size, bytes)) (hsz : 0 < size)
    {x : Value} {m : Nat} {news : List Value} (hx : reads x m news w) (hl : news.length = m * size) (h1 : ∀ u ∈ news, u.oneCell' = true) (hbytes : (n + m) * bytes ≤ 140737488355328) (h63 : n + m ≤ 140737488355328) :
    ∃ ao' c' w', (Builtin.append_ #[t, t] ty #[v, x]).run P w = .ok (.slice ao' (n + m) c') w' ∧ Ent (l.set k (row e size (.slice ao' (n + m) c') (n + m) (xs ++ news))) w' := by
  obtain ⟨i, z, hi, hz, hs, hb, hzs⟩ := elemInfo_parts hI
  exact hE.append ty k hk ht hi hz hs hb hzs hsz hx hl h1 (by unfold maxLen; omega) hbytes

theorem wpl_appendG {e : TypeId} {size bytes : Nat} {t : TypeId} (hE : Ent l w) (k : Nat) {v : Value} {n : Nat} {xs : List Value} (hk : l[k]? = some (row e size v n xs))
    {s y : Operand} (ho : o.op = .call { callee := .builtin .append, args := #[s, y], argTypes := #[t, t] }) (hw : Region.wanted o (yielded ops a.tmps) = true)
    (hs : a.eval s = v) {x : Value} (hy : a.eval y = x)
    (ht : P.underlying t = some (.slice e)) (hI : elemInfo P e = some (some size, size, bytes)) (hsz : 0 < size)
    {m : Nat} {news : List Value} (hx : reads x m news w) (hl : news.length = m * size) (h1 : ∀ u ∈ news, u.oneCell' = true) (hbytes : (n + m) * bytes ≤ 140737488355328) (h63 : n + m ≤ 140737488355328)
    (h : ∀ ao' c' w', Ent (l.set k (row e size (.slice ao' (n + m) c') (n + m) (xs ++ news))) w' → wpList P ops Q rest (a.put o.dst (.slice ao' (n + m) c')) w') : wpList P ops Q (o :: rest) a w := by
  obtain ⟨ao', c', w', hr, hE'⟩ := hE.appendG (P := P) o.type k hk ht hI hsz hx hl h1 hbytes h63
  refine wpl_run hw (w' := w') (v := .slice ao' (n + m) c') ?_ (h ao' c' w' hE')
  simp [execOp, ho, resolve, invoke, builtin, hs, hy, hr]

theorem step_appendG {e : TypeId} {size bytes : Nat} {t : TypeId} {K : Act → World → Prop} {E : Prop} (hE : Ent l w) (k : Nat) {v : Value} {n : Nat} {xs : List Value} (hk : l[k]? = some (row e size v n xs))
    {s y : Operand} (ho : o.op = .call { callee := .builtin .append, args := #[s, y], argTypes := #[t, t] }) (hw : Region.wanted o (yielded ops a.tmps) = true)
    (hs : a.eval s = v) {x : Value} (hy : a.eval y = x)
    (ht : P.underlying t = some (.slice e)) (hI : elemInfo P e = some (some size, size, bytes)) (hsz : 0 < size)
    {m : Nat} {news : List Value} (hx : reads x m news w) (hl : news.length = m * size) (h1 : ∀ u ∈ news, u.oneCell' = true) (hbytes : (n + m) * bytes ≤ 140737488355328) (h63 : n + m ≤ 140737488355328)
    (h : ∀ ao' c' w', Ent (l.set k (row e size (.slice ao' (n + m) c') (n + m) (xs ++ news))) w' → K (a.put o.dst (.slice ao' (n + m) c')) w') : if Region.wanted o (yielded ops a.tmps) = true then Oper.wp P o a w K Q else E := by
  rw [if_pos hw]
  obtain ⟨ao', c', w', hr, hE'⟩ := hE.appendG (P := P) o.type k hk ht hI hsz hx hl h1 hbytes h63
  unfold Oper.wp execOp
  simp only [ho, resolve, invoke, builtin, Sem.run_bind, Sem.run_pure, Result.andThen_ok, List.map_toArray, List.map_cons, List.map_nil, hs, hy, hr]
  exact h ao' c' w' hE'
end
attribute [irreducible] splice
end Go.SL
namespace Go.SL
section
variable {P : Program} {ops : Array Oper} {rest : List Oper} {o : Oper} {a : Act} {Q : Exit → Act → World → Prop} {w : World} {l : List HProp}

/-- a type's zero value's cells, its size, its bytes -/
def zeroList (P : Program) (e : TypeId) : Option (List Value × Nat × Nat) := (P.info? e).bind fun i => i.zero.map fun z => (z.cells.toList, i.size, i.bytes)

theorem zeroList_parts {e : TypeId} {zs : List Value} {size bytes : Nat} (h : zeroList P e = some (zs, size, bytes)) : ∃ i z, P.info? e = some i ∧ i.zero = some z ∧ i.size = size ∧ i.bytes = bytes ∧ z.cells.toList = zs := by
  unfold zeroList at h
  cases hi : P.info? e with
  | none => simp [hi] at h
  | some i =>
    cases hz : i.zero with
    | none => simp [hi, hz] at h
    | some z =>
      simp only [hi, hz, Option.bind_some, Option.map_some, Option.some.injEq, Prod.mk.injEq] at h
      exact ⟨i, z, rfl, hz, h.2.1, h.2.2, h.1⟩

theorem made_flat (z : Array Value) (n : Nat) (h0 : 0 < z.size) : (madeCells z (n * z.size)).toList = (List.replicate n z.toList).flatten := by
  have hl : ((List.replicate n z.toList).flatMap id).length = n * z.size := by
    rw [flatMap_len' id z.size _ (fun x hx => by rw [(List.mem_replicate.1 hx).2]; simp)]
    simp
  rw [show (List.replicate n z.toList).flatten = (List.replicate n z.toList).flatMap id by simp [List.flatMap]]
  apply List.ext_getElem?
  intro j
  by_cases hj : j < n * z.size
  · have hjd : j / z.size < n := (Nat.div_lt_iff_lt_mul h0).2 hj
    have hjm : j % z.size < z.size := Nat.mod_lt _ h0
    have h1 := flatMap_at' id z.size (List.replicate n z.toList) (fun x hx => by rw [(List.mem_replicate.1 hx).2]; simp) (j / z.size) (j % z.size) z.toList z.toList[j % z.size] (by simp [hjd]) (by simp)
    rw [Nat.mul_comm, Nat.div_add_mod] at h1
    rw [h1]
    simp [madeCells, hj, hjm]
  · rw [List.getElem?_eq_none (l := (List.replicate n z.toList).flatMap id) (by omega)]
    simp [madeCells, hj]

theorem Ent.makeN (hE : Ent l w) {t e : TypeId} (ht : P.underlying t = some (.slice e)) {zs : List Value} {size bytes : Nat} (hz : zeroList P e = some (zs, size, bytes)) (hs : zs.length = size) (h0 : 0 < size) (kl kc : IntKind) (n : Nat) (hb : n * bytes ≤ 281474976710656) (h63 : n ≤ 281474976710656) :
    ∃ g w', (Instr.makeSlice t (.int kl (n : Int)) (.int kc (n : Int))).run P w = .ok (.slice (some ⟨g, 0, none⟩) n n) w' ∧ Ent (row e size (.slice (some ⟨g, 0, none⟩) n n) n (List.replicate n zs).flatten :: l) w' := by
  obtain ⟨i, z, hi, hzz, h2, h3, h4⟩ := zeroList_parts hz
  subst h3
  have hsz : z.cells.size = size := by rw [← hs, ← h4]; simp
  obtain ⟨w', hr, ho, hg⟩ := run_make_full (P := P) w 0 t e i z size ht hi hzz h2 kl kc n (by rw [Nat.mul_comm]; exact hb) (by unfold maxLen; omega) (Nat.zero_le _)
  rw [← hsz, made_flat z.cells n (by omega), h4, hsz] at ho
  refine ⟨_, w', hr, hE.step0 (Bs := [row e size (.slice (some ⟨w.heap.size, 0, none⟩) n n) n (List.replicate n zs).flatten]) ⟨hg.os, hg.tape, hg.output⟩ hg.size (fun b hb => hg.block b hb (by simp)) ⟨fun b => b = w.heap.size, on_single ?_, fun b hb => by omega⟩⟩
  unfold row
  exact ⟨ho, fun b => by simp [Value.ownBlock, eq_comm]⟩

theorem wpl_make (hE : Ent l w) {t e : TypeId} {x y : Operand} (ho : o.op = .makeSlice t x y) (hw : Region.wanted o (yielded ops a.tmps) = true) (ht : P.underlying t = some (.slice e)) {zs : List Value} {size bytes : Nat} (hz : zeroList P e = some (zs, size, bytes)) (hs : zs.length = size) (h0 : 0 < size) {kl kc : IntKind} (n : Nat)
    (hx : a.eval x = .int kl (n : Int)) (hy : a.eval y = .int kc (n : Int)) (hb : n * bytes ≤ 281474976710656) (h63 : n ≤ 281474976710656)
    (h : ∀ g w', Ent (row e size (.slice (some ⟨g, 0, none⟩) n n) n (List.replicate n zs).flatten :: l) w' → wpList P ops Q rest (a.put o.dst (.slice (some ⟨g, 0, none⟩) n n)) w') : wpList P ops Q (o :: rest) a w := by
  obtain ⟨g, w', hr, hE'⟩ := hE.makeN (P := P) ht hz hs h0 kl kc n hb h63
  refine wpl_run hw (w' := w') (v := .slice (some ⟨g, 0, none⟩) n n) ?_ (h g w' hE')
  simp [execOp, ho, hx, hy, hr]

/-- a block as a slice that is only read -/
theorem Ent.ptView (hE : Ent l w) (i : Nat) {b n c : Nat} {cs : Array Value} {T : TypeId} {fz : Nat × Nat} {xs : List Value} (hi : l[i]? = some (pt b (.cells cs T fz))) (h : ∀ (j : Nat) (u : Value), xs[j]? = some u → cs[j]? = some u) : Ent (l.set i (view (.slice (some ⟨b, 0, none⟩) n c) n xs)) w := by
  have hr : reads (.slice (some ⟨b, 0, none⟩) n c) n xs w := reads_pt hE i hi (off := 0) (fun j u hu => by rw [Nat.zero_add]; exact h j u hu)
  have hs := hE.size i hi
  refine Ent.put ((hE.front i hi).step (Bs := [view (.slice (some ⟨b, 0, none⟩) n c) n xs]) (Same.refl w) (Nat.le_refl _) fun F hF => ⟨fun _ _ _ => rfl, F, on_single ?_, fun _ h => .inl h⟩) (List.getElem?_eq_some_iff.1 hi).1
  unfold pt at hF
  unfold view
  refine ⟨hr, fun x hx => ?_, fun x => ?_⟩
  · simp [Value.ownBlock] at hx; omega
  · rw [hF.2]; simp [Value.ownBlock, eq_comm]

/-- two results, the first one in a block of its own -/
theorem results_cell2 {fn : Func} {k j : Tmp} {t : TypeId} (h : fn.results = #[.cell k t, .tmp j]) {tmps : Array Value} (hE : Ent l w) (i : Nat) {b : Nat} {xs : List Value} {T : TypeId} {fz : Nat × Nat} (hi : l[i]? = some (pt b (.cells xs.toArray T fz)))
    (hp : tmps.getD k undef = .pointer (some ⟨b, 0, none⟩)) (hA : ∀ w, (isAgg t).run P w = .ok true w) {n : Nat} (hn : ∀ w, (Go.sizeOf t).run P w = .ok n w) (hl : xs.length = n) {v : Value} (hv : tmps.getD j undef = v) : (results fn tmps).run P w = .ok (.tuple #[.agg xs.toArray, v]) w := by
  have hp' : tmps[k]?.getD undef = .pointer (some ⟨b, 0, none⟩) := by simpa using hp
  have hv' : tmps[j]?.getD undef = v := by simpa using hv
  simp only [results, h]
  simp [hp', hv', asAddr, run_resultA hE i hi hA hn hl]

theorem still_loadR {K : Act → Prop} {E : Prop} {t : TypeId} {x : Operand} (ho : o.op = .load t x) (hw : Region.wanted o (yielded ops a.tmps) = true) {ad : Addr}
    (hx : a.eval x = .pointer (some ad)) (hA : ∀ w, (isAgg t).run P w = .ok true w) {n : Nat} (hn : ∀ w, (Go.sizeOf t).run P w = .ok n w) (vs : List Value) (hl : vs.length = n) (hc : ∀ j v, vs[j]? = some v → w.cell? (ad.add j) = some v)
    (h : K (a.put o.dst (.agg vs.toArray))) : if Region.wanted o (yielded ops a.tmps) = true then o.still P a w K else E := by
  refine still_run hw ?_ h
  simp [execOp, ho, hx, run_loadR hA hn hl hc]

/-- what is new stands among what is only read -/
theorem Ent.keepNew {A : HProp} {F R : List HProp} (hE : Ent (A :: (F ++ R)) w) : Ent (F ++ A :: R) w := hE.perm List.perm_middle.symm
theorem Ent.tails {F R : List HProp} (hE : Ent (F ++ R) w) : Ent R w := hE.drop

/-- a fact on the state that a piece of code leaves at its regular end alone -/
def Meet (Φ : Act → World → Prop) : Exit → Act → World → Prop
  | .normal, a, w => Φ a w
  | _, _, _ => False

/-- a piece of code whose ways meet again in one fact on the state that it leaves -/
theorem wp_meet {code : Code} {Q : Exit → Act → World → Prop} {a : Act} {w : World} (Φ : Act → Act → World → Prop) (h1 : code.wp P (Meet (Φ a)) a w) (h2 : ∀ a' w', Φ a a' w' → Q .normal a' w') : code.wp P Q a w :=
  Code.wp_mono (fun e a' w' h => by cases e <;> first | exact h2 a' w' h | exact (h : False).elim) h1
end
end Go.SL
namespace Go.SL
section
variable {P : Program} {ops : Array Oper} {rest : List Oper} {o : Oper} {a : Act} {Q : Exit → Act → World → Prop} {w : World} {l : List HProp}

abbrev mEnt (k v : Value) (b : Nat) : MapEntry := { key := k, val := v, born := b }
/-- an empty map is made -/
theorem wpl_makeMap (hE : Ent l w) {t : TypeId} (ho : o.op = .makeMap t none) (hw : Region.wanted o (yielded ops a.tmps) = true)
    (h : ∀ r w', Ent (pt r (.map #[] 0) :: l) w' → wpList P ops Q rest (a.put o.dst (.map (some r))) w') : wpList P ops Q (o :: rest) a w := by
  refine wpl_run hw (w' := w.alloc (.map #[] 0)) (v := .map (some w.heap.size)) ?_ (h _ _ (hE.alloc _))
  simp [execOp, ho, Instr.makeMap, newObj, Sem.run]

theorem Ent.setMap (hE : Ent l w) (i : Nat) {r : Nat} {ob ob' : Obj} (hi : l[i]? = some (pt r ob)) : Ent (l.set i (pt r ob')) { w with heap := w.heap.setIfInBounds r ob' } := by
  refine hE.turn i hi ⟨rfl, rfl, rfl⟩ (by simp) ?_ (fun k _ hk => ?_)
  · have := hE.size i hi
    simp [this]
  · simp [Array.getElem?_setIfInBounds, Ne.symm hk]

/-- an entry with a new key is put -/
theorem wpl_insert (hE : Ent l w) (i : Nat) {r : Nat} {es : List MapEntry} {clock : Nat} (hi : l[i]? = some (pt r (.map es.toArray clock)))
    {t kt et : TypeId} {x y z : Operand} (ho : o.op = .insert t x y z) (hw : Region.wanted o (yielded ops a.tmps) = true) (hx : a.eval x = .map (some r)) {ik : IntKind} {n : Int} (hy : a.eval y = .int ik n) {v : Value} (hz : a.eval z = v)
    (ht : P.underlying t = some (.map kt et)) (hk : P.underlying kt = some (.int ik)) (hnew : Instr.findNow (.int ik) (.int ik n) es 0 = some none)
    (h : ∀ w', Ent (l.set i (pt r (.map (es ++ [mEnt (.int ik n) v clock]).toArray (clock + 1)))) w' → wpList P ops Q rest (a.put o.dst undef) w') : wpList P ops Q (o :: rest) a w := by
  have hb := hE.at i hi
  have hc : ∀ m, (Instr.checkKey false (m + 1) kt (.int ik n)).run P w = .ok () w := fun m => by
    unfold Instr.checkKey
    simp [run_underlying hk]
  have hf : (Instr.findKey kt (.int ik n) es).run P w = .ok none w := by
    unfold Instr.findKey
    simp [run_underlying hk, hnew]
  refine wpl_run_skip hw (w' := { w with heap := w.heap.setIfInBounds r (.map (es ++ [mEnt (.int ik n) v clock]).toArray (clock + 1)) }) ?_ (h _ (hE.setMap i hi))
  have hg := MapKept.run_getObj_map (P := P) hb
  have hs := MapKept.run_setObj_map (P := P) (.map (es.toArray.push (mEnt (.int ik n) v clock)) (clock + 1)) hb
  have e : es.toArray.push (mEnt (.int ik n) v clock) = (es ++ [mEnt (.int ik n) v clock]).toArray := by simp
  rw [e] at hs
  simp [execOp, ho, hx, hy, hz, Instr.mapUpdate, run_underlying ht, hg, hc 9999, hf, e, hs]

/-- a key is looked up -/
theorem wpl_lookup (hE : Ent l w) (i : Nat) {r : Nat} {es : List MapEntry} {clock : Nat} (hi : l[i]? = some (pt r (.map es.toArray clock)))
    {t kt et : TypeId} {x y : Operand} (ho : o.op = .lookup t x y false) (hw : Region.wanted o (yielded ops a.tmps) = true) (hx : a.eval x = .map (some r)) {ik : IntKind} {n : Int} (hy : a.eval y = .int ik n)
    (ht : P.underlying t = some (.map kt et)) (hk : P.underlying kt = some (.int ik)) {v : Value} {j : Nat} (hfind : Instr.findNow (.int ik) (.int ik n) es 0 = some (some (j, v)))
    (h : wpList P ops Q rest (a.put o.dst v) w) : wpList P ops Q (o :: rest) a w := by
  have hb := hE.at i hi
  have hc : ∀ e m, (Instr.checkKey e (m + 1) kt (.int ik n)).run P w = .ok () w := fun e m => by
    unfold Instr.checkKey
    simp [run_underlying hk]
  have hf : (Instr.findKey kt (.int ik n) es).run P w = .ok (some (j, v)) w := by
    unfold Instr.findKey
    simp [run_underlying hk, hfind]
  have hg := MapKept.run_getObj_map (P := P) hb
  refine wpl_run hw (w' := w) (v := v) ?_ h
  simp [execOp, ho, hx, hy, Instr.lookup, run_underlying ht, hg, hc _ 9999, hf]
/-- a key that is not there -/
theorem wpl_lookupNot (hE : Ent l w) (i : Nat) {r : Nat} {es : List MapEntry} {clock : Nat} (hi : l[i]? = some (pt r (.map es.toArray clock)))
    {t kt et : TypeId} {x y : Operand} (ho : o.op = .lookup t x y false) (hw : Region.wanted o (yielded ops a.tmps) = true) (hx : a.eval x = .map (some r)) {ik : IntKind} {n : Int} (hy : a.eval y = .int ik n)
    (ht : P.underlying t = some (.map kt et)) (hk : P.underlying kt = some (.int ik)) {v : Value} (hz : ∀ w, (zeroValue et).run P w = .ok v w) (hfind : Instr.findNow (.int ik) (.int ik n) es 0 = some none)
    (h : wpList P ops Q rest (a.put o.dst v) w) : wpList P ops Q (o :: rest) a w := by
  have hb := hE.at i hi
  have hc : ∀ e m, (Instr.checkKey e (m + 1) kt (.int ik n)).run P w = .ok () w := fun e m => by
    unfold Instr.checkKey
    simp [run_underlying hk]
  have hf : (Instr.findKey kt (.int ik n) es).run P w = .ok none w := by
    unfold Instr.findKey
    simp [run_underlying hk, hfind]
  have hg := MapKept.run_getObj_map (P := P) hb
  refine wpl_run hw (w' := w) (v := v) ?_ h
  simp [execOp, ho, hx, hy, Instr.lookup, run_underlying ht, hg, hc _ 9999, hf, hz]

theorem run_buildSlice2 {t e : TypeId} {size : Nat} (ht : P.underlying t = some (.slice e)) (hI : zeroSize P e = some size) (hn : ∀ w, (Go.sizeOf e).run P w = .ok size w) (h0 : 0 < size) (h24 : 2 * size ≤ 16777216) (xs ys : List Value) (hx : xs.length = size) (hy : ys.length = size) :
    (Instr.buildSlice t 2 #[(0, .agg xs.toArray), (1, .agg ys.toArray)]).run P w = .ok (.slice (some ⟨w.heap.size, 0, none⟩) 2 2) (w.alloc (.cells (xs ++ ys).toArray e)) := by
  obtain ⟨z, hz, hzr⟩ := run_zero hI
  have hf := fill_two (place := fun i => some (i * size, size)) ((Array.range (2 * size)).map (fun i => z.cells[i % z.cells.size]!)) xs ys (.agg xs.toArray) (.agg ys.toArray) rfl rfl (by simp [hx]) (by simp [hx, hy]) (by simp [hx, hy]; omega)
  have h2 : ¬ 2 * size = 0 := by omega
  have h3 : ¬ 2 ^ 24 < 2 * size := by omega
  simp only [Instr.buildSlice, Sem.run_bind, run_underlying ht, Result.andThen_ok, hn, hzr, if_neg h2, gt_iff_lt, if_neg h3, Sem.run_pure, hf, newRow]
  simp

/-- a slice of two structs -/
theorem wpl_build2 (hE : Ent l w) {t e : TypeId} {x y : Operand} (ho : o.op = .buildSlice t 2 #[(0, x), (1, y)]) (hw : Region.wanted o (yielded ops a.tmps) = true) {xs ys : List Value} (hx : a.eval x = .agg xs.toArray) (hy : a.eval y = .agg ys.toArray)
    (ht : P.underlying t = some (.slice e)) {size : Nat} (hI : zeroSize P e = some size) (hn : ∀ w, (Go.sizeOf e).run P w = .ok size w) (h0 : 0 < size) (h24 : 2 * size ≤ 16777216) (hxl : xs.length = size) (hyl : ys.length = size)
    (h : ∀ b w', Ent (pt b (.cells (xs ++ ys).toArray e) :: l) w' → wpList P ops Q rest (a.put o.dst (.slice (some ⟨b, 0, none⟩) 2 2)) w') : wpList P ops Q (o :: rest) a w := by
  refine wpl_run hw (w' := w.alloc (.cells (xs ++ ys).toArray e)) (v := .slice (some ⟨w.heap.size, 0, none⟩) 2 2) ?_ (h _ _ (hE.alloc _))
  have hr := run_buildSlice2 (P := P) (w := w) ht hI hn h0 h24 xs ys hxl hyl
  simp [execOp, ho, hx, hy, hr]
/-- a slice of one struct -/
theorem wpl_build1 (hE : Ent l w) {t e : TypeId} {x : Operand} (ho : o.op = .buildSlice t 1 #[(0, x)]) (hw : Region.wanted o (yielded ops a.tmps) = true) {xs : List Value} (hx : a.eval x = .agg xs.toArray)
    (ht : P.underlying t = some (.slice e)) {size : Nat} (hI : zeroSize P e = some size) (hn : ∀ w, (Go.sizeOf e).run P w = .ok size w) (h0 : 0 < size) (h24 : size ≤ 16777216) (hxl : xs.length = size)
    (h : ∀ b w', Ent (pt b (.cells xs.toArray e) :: l) w' → wpList P ops Q rest (a.put o.dst (.slice (some ⟨b, 0, none⟩) 1 1)) w') : wpList P ops Q (o :: rest) a w := by
  refine wpl_run hw (w' := w.alloc (.cells xs.toArray e)) (v := .slice (some ⟨w.heap.size, 0, none⟩) 1 1) ?_ (h _ _ (hE.alloc _))
  have hr := run_buildSlice1 (P := P) (w := w) ht hI hn h0 h24 xs hxl
  simp [execOp, ho, hx, hr]
end
end Go.SL
namespace Go.SL
open Go.RowKit
section
variable {P : Program}

/-- AN ITERATOR THAT GIVES xs, ITS OWN HEAP BEING st: whatever else lies there (J), and whatever a round makes of that. -/
def SeqSL {α : Type} (P : Program) (gf : Nat) (lb : Array Value) (encs : α → Array Value) (xs : List α) (st : List α → List HProp) : Prop :=
  ∀ (lp : Nat) (J Jx : List α → List HProp) (W : World), Ent (st [] ++ J []) W →
    (∀ pre x W1, pre ++ [x] <+: xs → Ent (st pre ++ J pre) W1 → YieldAt Fence.wide 0 P lp (encs x) W1 fun e W' =>
      (e = .returned (.bool true) ∧ Ent (st pre ++ J (pre ++ [x])) W') ∨ (e = .returned (.bool false) ∧ Ent (Jx (pre ++ [x])) W')) →
    CallsIn Fence.wide 0 P gf (#[.func (.yield lp) #[] #[]] ++ lb) W fun e W' => (∃ v, e = .returned v) ∧ (Ent (J xs) W' ∨ ∃ pre, pre <+: xs ∧ Ent (Jx pre) W')

/-- how a round's body may be left -/
def roundSL {α : Type} (I : List α → List HProp) (Ix : Code → List α → List HProp) (L : List HProp) (ys : List α) : Exit → Act → World → Prop
  | .normal, _, W => Ent (I ys ++ L) W
  | .ret, _, W => Ent (Ix .ret ys ++ L) W
  | .exit id, _, W => Ent (Ix (.exit id) ys ++ L) W
  | _, _, _ => False

theorem perm_2 {l m : List HProp} {A B : HProp} : (l ++ (m ++ [A, B])).Perm (A :: B :: (l ++ m)) := by
  rw [← List.append_assoc]
  exact (List.perm_append_comm (l₁ := l ++ m) (l₂ := [A, B]))
theorem perm_2' {l m : List HProp} {A B : HProp} : (A :: B :: (l ++ m)).Perm (l ++ (m ++ [A, B])) := perm_2.symm
theorem perm_3 {l m : List HProp} {A B : HProp} : (m ++ (A :: B :: l)).Perm (A :: B :: (l ++ m)) := by
  refine (List.perm_append_comm (l₁ := m) (l₂ := A :: B :: l)).trans ?_
  exact List.Perm.refl _

theorem wpIn_rangeSL {α : Type} {g : Operand} {ps : Array Tmp} {assign body : Code} {Q : Exit → Act → World → Prop} {a : Act} {w : World} {gf : Nat} {lb : Array Value}
    (hg : a.eval g = .func (.func gf) #[] lb) (eg : ∀ args w, (callFunc gf args).run P w = .ok (.enter gf args) w)
    {encs : α → Array Value} {xs : List α} {st : List α → List HProp} (hseq : SeqSL P gf lb encs xs st) (hps : ∀ x, (encs x).size = ps.size)
    (I : List α → List HProp) (Ix : Code → List α → List HProp) (hE : Ent (st [] ++ I []) w) (a₁ : α → Act)
    (hassign : ∀ (lp : Nat) (x : α) (W : World) (K : Act → World → Prop), K (a₁ x) W →
      assign.wpIn (Fence.wide.inRound lp) 0 P (Exit.then K (fun _ _ _ => False)) { tmps := (ps.zip (encs x)).foldl (fun t (p, v) => t.setIfInBounds p v) a.tmps, defers := [] } W)
    (hbody : ∀ (lp : Nat) (pre : List α) (x : α) (W : World) (L : List HProp), pre ++ [x] <+: xs → Ent (I pre ++ L) W → body.wpIn (Fence.wide.inRound lp) 0 P (roundSL I Ix L (pre ++ [x])) (a₁ x) W)
    (hdone : ∀ (D : Nat) (W : World), Ent (pt D (.deferred (some [])) :: I xs) W → Q .normal { a with defers := { target := .collected D, args := #[] } :: a.defers } W)
    (hstop : ∀ (D : Nat) (c : Code) (pre : List α) (W : World), pre <+: xs → Ent (pt D (.deferred (some [])) :: Ix c pre) W → c.wpIn Fence.wide 0 P Q { a with defers := { target := .collected D, args := #[] } :: a.defers } W) :
    (Code.rangeFunc g ps assign body).wpIn Fence.wide 0 P Q a w := by
  refine wpIn_rangeFunc ?_
  intro fn hfn
  obtain ⟨d, hd⟩ : ∃ d, d = w.heap.size := ⟨_, rfl⟩
  obtain ⟨rc, hrc⟩ : ∃ rc : LoopState → Option Code → Loop, rc = fun s p => { state := s, pending := p, fn, tmps := a.tmps, params := ps, assign, body, defers := d } := ⟨_, rfl⟩
  have h1 : Ent (pt (d + 1) (.loop (rc .ready none)) :: pt d (.deferred (some [])) :: (st [] ++ I [])) ((w.alloc (.deferred (some []))).alloc (.loop (rc .ready none))) := by
    have := (hE.alloc (.deferred (some []))).alloc (.loop (rc .ready none))
    rwa [World.size_alloc, ← hd] at this
  generalize hW1 : (w.alloc (.deferred (some []))).alloc (.loop (rc .ready none)) = W1 at h1
  refine ⟨d + 1, [{ target := .collected d, args := #[] }], W1, { target := .fn (.func gf) lb, args := #[.func (.yield (d + 1)) #[] #[]] }, W1, gf, #[.func (.yield (d + 1)) #[] #[]] ++ lb, W1, ?_, ?_, fun _ _ => trivial, ?_, fun h => (by cases h), ?_⟩
  · rw [← hW1, hrc, hd]; exact run_enterLoop_outer _ _ _ _ _
  · simp only [resolve, hg]
    simp [go_sem]
  · simp [invoke, go_sem, eg]
  · refine (hseq (d + 1) (fun pre => I pre ++ [pt (d + 1) (.loop (rc .ready none)), pt d (.deferred (some []))]) (fun pre => [ex fun c => Ix c pre ++ [pt (d + 1) (.loop (rc .done (some c))), pt d (.deferred (some []))]]) W1 (h1.perm perm_2') ?_).mono ?_
    · rintro pre x W hpre hW
      replace hW := hW.perm perm_2
      have hy := run_yield (P := P) (args := encs x) hW.head (by rw [hrc]; exact hps x)
      rw [hrc] at hy
      refine ⟨fn, _, assign, body, hy, roundIn_of_wpIn trivial (hassign _ x W _ ?_)⟩
      clear hy
      refine ⟨_, run_beginRound hW.head (by rw [hrc]), ?_⟩
      have hb : Ent (pt (d + 1) (.loop { rc .ready none with state := .busy }) :: pt d (.deferred (some [])) :: (st pre ++ I pre)) (W.putObj (d + 1) (.loop { rc .ready none with state := .busy })) := hW.setMap 0 rfl
      refine wpIn_mono (hbody _ pre x _ (pt (d + 1) (.loop { rc .ready none with state := .busy }) :: pt d (.deferred (some [])) :: st pre) hpre (hb.perm perm_3.symm)) ?_
      rintro e a3 W3 hp
      cases e with
      | normal =>
        have h3 : Ent _ W3 := Ent.perm hp perm_3
        refine ⟨_, _, run_endRound none h3.head, .inl ⟨rfl, ?_⟩⟩
        have h4 := h3.setMap 0 (ob' := .loop { { rc .ready none with state := .busy } with state := if (none : Option Code).isNone then .ready else .done, pending := none }) rfl
        rw [hrc] at h4 ⊢
        exact Ent.perm h4 perm_2'
      | ret =>
        have h3 : Ent _ W3 := (Ent.perm hp perm_3)
        refine ⟨_, _, run_endRound (some .ret) h3.head, .inr ⟨rfl, ?_⟩⟩
        have h4 := h3.setMap 0 (ob' := .loop { { rc .ready none with state := .busy } with state := if (some Code.ret).isNone then .ready else .done, pending := some .ret }) rfl
        rw [hrc] at h4 ⊢
        exact Ent.pack (l := []) Code.ret (by rw [List.append_nil]; exact (Ent.perm h4 perm_2').drop)
      | exit id =>
        have h3 : Ent _ W3 := (Ent.perm hp perm_3)
        refine ⟨_, _, run_endRound (some (.exit id)) h3.head, .inr ⟨rfl, ?_⟩⟩
        have h4 := h3.setMap 0 (ob' := .loop { { rc .ready none with state := .busy } with state := if (some (Code.exit id)).isNone then .ready else .done, pending := some (.exit id) }) rfl
        rw [hrc] at h4 ⊢
        exact Ent.pack (l := []) (Code.exit id) (by rw [List.append_nil]; exact (Ent.perm h4 perm_2').drop)
      | goto t => exact hp.elim
      | panic ch => exact hp.elim
      | outgrown => exact hp.elim
    · rintro e W2 ⟨⟨v, rfl⟩, hJ | ⟨pre, hpre, hJ⟩⟩
      · have h3 := Ent.perm hJ (perm_2 (l := []))
        refine ⟨none, _, by have := run_endLoop (P := P) h3.head (by rw [hrc]; simp); rw [hrc] at this; exact this, ?_⟩
        have h4 := h3.setMap 0 (ob' := .loop { rc .ready none with state := .exhausted }) rfl
        rw [hrc] at h4
        exact hdone d _ h4.tail
      · obtain ⟨c, hJ⟩ := hJ.unpack
        rw [List.append_nil] at hJ
        have h3 := Ent.perm hJ (perm_2 (l := []))
        refine ⟨some c, _, by have := run_endLoop (P := P) h3.head (by rw [hrc]; simp); rw [hrc] at this; exact this, ?_⟩
        have h4 := h3.setMap 0 (ob' := .loop { rc .done (some c) with state := .exhausted }) rfl
        rw [hrc] at h4
        exact hstop d c pre _ hpre h4.tail

/-- a function whose body holds a range over a function -/
theorem calls_of_marks {f : FuncId} {fn : Func} {c : Code} {args : Array Value} {w : World} {R : Ending → World → Prop} (hf : P.funcs[f]? = some fn) (hb : fn.body = some c)
    (h : c.wp P (bodyPostM Fence.wide 0 P fn R) { tmps := args ++ Array.replicate (fn.ntmps - args.size) undef, defers := [] } w) : Calls P f args w R :=
  callsIn_wide.1 (callsIn_of_wp_marks hf hb trivial (wpIn_wide.2 h) rfl)
theorem post_none {fn : Func} {R : Ending → World → Prop} {a : Act} {w : World} {v : Value} (hd : a.defers = []) (hr : (results fn a.tmps).run P w = .ok v w) (h : R (.returned v) w) : bodyPostM Fence.wide 0 P fn R .ret a w := by
  show LeavesInM Fence.wide 0 P fn a.tmps R a.defers .returning w
  rw [hd]
  exact ⟨v, hr, h⟩
theorem post_mark {fn : Func} {R : Ending → World → Prop} {a : Act} {w : World} {D : Nat} {l : List HProp} (hd : a.defers = [{ target := .collected D, args := #[] }]) (hE : Ent (pt D (.deferred (some [])) :: l) w)
    (h : ∀ w', Ent l w' → ∃ v, (results fn a.tmps).run P w' = .ok v w' ∧ R (.returned v) w') : bodyPostM Fence.wide 0 P fn R .ret a w := by
  show LeavesInM Fence.wide 0 P fn a.tmps R a.defers .returning w
  rw [hd]
  refine ⟨by simp, .inl ⟨_, _, rfl, run_takeDeferred hE.head, ?_⟩⟩
  exact h _ (hE.setMap 0 (ob' := .deferred none) rfl).tail

/-- one operation in a round, walked as anywhere -/
theorem wplIn_one {F : Fence} {n : Nat} {ops : Array Oper} {Q : Exit → Act → World → Prop} {o : Oper} {rest : List Oper} {a : Act} {w : World} (hF : F.fn = fun _ => True) (hdp : F.depth = none) (hal : F.alive = false) (hnd : ∀ c, o.op ≠ .defer c) (hlo : ¬ ∃ a w, Q .outgrown a w)
    (h : wpList P ops (fun e a w => match e with | .normal => wpListIn F n P ops Q rest a w | e => Q e a w) [o] a w) : wpListIn F n P ops Q (o :: rest) a w := by
  have e1 : Machine.fenced P F = Machine.fenced P Fence.wide := by
    funext m
    simp only [Machine.fenced, hF, hdp, hal, Fence.room, Fence.wide]
  have hCI : ∀ {f args w R}, Calls P f args w R → CallsIn F (n - 1) P f args w R := fun {f args w R} h => by
    refine ⟨by rw [hF]; trivial, fun cs _ => ?_⟩
    obtain ⟨e, w', fr, r, s, x⟩ := (callsIn_wide (n := n - 1)).2 h |>.2 cs (room_wide _)
    exact ⟨e, w', fr, r, by rw [e1]; exact s, x⟩
  unfold wpList at h
  unfold wpListIn
  split
  · rename_i hw
    rw [if_pos hw] at h
    replace h := h.resolve_right (fun hh => hlo hh.2)
    refine ⟨fun _ _ => by rw [hF]; trivial, ?_⟩
    have hs : o.semAt F.round a.eval = execOp a.eval o := by
      cases hr : F.round with
      | none => simp [Oper.semAt_none]
      | some l => exact Oper.semAt_some l _ o hnd
    rw [hs]
    unfold Oper.wp at h
    generalize (execOp a.eval o).run P w = r at h
    unfold Oper.upon at h
    unfold Oper.uponIn
    split at h
    · exact h
    · exact h
    · exact h
    · refine ⟨fun hh => (by rw [hdp] at hh; cases hh), (hCI h).mono ?_⟩
      intro e w2 h2
      cases e with
      | returned v => exact h2
      | panicked ch => exact h2
      | outgrown => exact h2
    · refine ⟨fun hh => (by rw [hdp] at hh; cases hh), fun c cs _ => ?_⟩
      obtain ⟨v, w', r, s⟩ := h c cs
      exact ⟨v, w', r, by rw [e1]; exact stepsIn_wide.2 s⟩
    · exact h
    · exact h.elim
  · rename_i hw
    rw [if_neg hw] at h
    exact ⟨fun _ _ => by rw [hF]; trivial, h⟩
theorem wplIn_nil {F : Fence} {n : Nat} {ops : Array Oper} {Q : Exit → Act → World → Prop} {rest : List Oper} {a : Act} {w : World} (h : wpListIn F n P ops Q rest a w) :
    wpList P ops (fun e a w => match e with | .normal => wpListIn F n P ops Q rest a w | e => Q e a w) [] a w := h
end
end Go.SL
namespace Go.Proofs.YtjdignaddfhohaaDoor
open Go.RowKit Go.SL

def bval (u : UInt8) : Value := .int .u8 u.toNat
def bvals (l : List UInt8) : List Value := l.map bval

abbrev rowB (ao : Option Addr) (c : Nat) (bs : List UInt8) : HProp := row 5 1 (.slice ao bs.length c) bs.length (bvals bs)
theorem infoB : (Tryd.prog.info? 5).map (fun i => (i.zero, i.size, i.bytes)) = some (some (.int .u8 0), 1, 1) := by kernel_rfl
theorem bvals_append (a b : List UInt8) : bvals (a ++ b) = bvals a ++ bvals b := by simp [bvals]
theorem bvals_length (a : List UInt8) : (bvals a).length = a.length := by simp [bvals]
theorem bvals_one (a : List UInt8) : ∀ u ∈ bvals a, u.oneCell' = true := by
  intro u hu
  obtain ⟨_, _, rfl⟩ := List.mem_map.1 hu
  rfl

/-- append of bytes onto an owned row -/
theorem wpl_appendB {ops : Array Oper} {rest : List Oper} {o : Oper} {a : Act} {Q : Exit → Act → World → Prop} {w : World} {l : List HProp} (hE : Ent l w) (k : Nat) {ao : Option Addr} {c : Nat} {bs : List UInt8}
    (hk : l[k]? = some (rowB ao c bs)) {s y : Operand} (ho : o.op = .call { callee := .builtin .append, args := #[s, y], argTypes := #[100, 100] }) (hw : Region.wanted o (yielded ops a.tmps) = true)
    (hs : a.eval s = .slice ao bs.length c) {x : Value} (hy : a.eval y = x) {ys : List UInt8} (hx : reads x ys.length (bvals ys) w) (hb : bs.length + ys.length ≤ 1099511627776)
    (h : ∀ ao' c' w', Ent (l.set k (rowB ao' c' (bs ++ ys))) w' → wpList Tryd.prog ops Q rest (a.put o.dst (.slice ao' (bs ++ ys).length c')) w') : wpList Tryd.prog ops Q (o :: rest) a w := by
  obtain ⟨i, hi, hz0, hz1, hz2⟩ := info_parts infoB
  refine wpl_append hE k hk ho hw hs hy Tryd.underlying100 hi hz0 hz1 hz2 rfl (by decide) hx (by simp [bvals_length]) (bvals_one ys) (by unfold maxLen; omega) (by omega) ?_
  intro ao' c' w' hE'
  have h' := h ao' c' w'
  rw [rowB, bvals_append, List.length_append] at h'
  exact h' hE'

theorem step_appendB {ops : Array Oper} {o : Oper} {a : Act} {K : Act → World → Prop} {Q : Exit → Act → World → Prop} {E : Prop} {w : World} {l : List HProp} (hE : Ent l w) (k : Nat) {ao : Option Addr} {c : Nat} {bs : List UInt8}
    (hk : l[k]? = some (rowB ao c bs)) {s y : Operand} (ho : o.op = .call { callee := .builtin .append, args := #[s, y], argTypes := #[100, 100] }) (hw : Region.wanted o (yielded ops a.tmps) = true)
    (hs : a.eval s = .slice ao bs.length c) {x : Value} (hy : a.eval y = x) {ys : List UInt8} (hx : reads x ys.length (bvals ys) w) (hb : bs.length + ys.length ≤ 1099511627776)
    (h : ∀ ao' c' w', Ent (l.set k (rowB ao' c' (bs ++ ys))) w' → K (a.put o.dst (.slice ao' (bs ++ ys).length c')) w') : if Region.wanted o (yielded ops a.tmps) = true then Oper.wp Tryd.prog o a w K Q else E := by
  obtain ⟨i, hi, hz0, hz1, hz2⟩ := info_parts infoB
  rw [if_pos hw]
  obtain ⟨ao', c', w', hr, hE'⟩ := hE.append (P := Tryd.prog) o.type k hk Tryd.underlying100 hi hz0 hz1 hz2 rfl (by decide) hx (by simp [bvals_length]) (bvals_one ys) (by unfold maxLen; omega) (by omega)
  unfold Oper.wp execOp
  simp only [ho, resolve, invoke, builtin, Sem.run_bind, Sem.run_pure, Result.andThen_ok, List.map_toArray, List.map_cons, List.map_nil, hs, hy, hr]
  have h' := h ao' c' w'
  rw [rowB, bvals_append, List.length_append] at h'
  exact h' hE'

/-- one byte in a new block, as an owned row -/
theorem Ent.rowB1 {w : World} {l : List HProp} (hE : Ent l w) (x : UInt8) (v : Value) (hv : v = bval x) : Ent (rowB (some ⟨w.heap.size, 0, none⟩) 1 [x] :: l) (w.alloc (.cells #[v] 5)) :=
  (hE.alloc _).toRow 0 rfl (by simp [bvals]) (by simp) (by unfold maxLen; omega) (by simp) (by simp [bvals, hv])

def Ret (Φ : Value → World → Prop) (e : Ending) (w : World) : Prop := ∃ v, e = .returned v ∧ Φ v w
end Go.Proofs.YtjdignaddfhohaaDoor
namespace Go.SL
theorem Ent.ofBelow {l : List HProp} {w w' : World} (h : Ent l w) (hb : RowKit.Below w.heap.size w w') : Ent l w' := by
  have := h.step0 (Bs := []) ⟨hb.os, hb.tape, hb.output⟩ hb.size hb.block ⟨fun _ => False, fun _ h => h, fun _ h => h.elim⟩
  exact this
end Go.SL
namespace Go.Proofs
open Go.Shelf
shelf_lay Lays.n156 Nm 156 at Tryd as Tryd.lays156
theorem Tryd.Builder_Extra_156 : Builder.Extra Tryd.prog Tryd.lays156_ren where
  sizeBuilder := by kernel_rfl
  liesBuilder := by kernel_rfl
  t5 := Tryd.underlying5
  a5 := Tryd.isAgg5
  z5 := Tryd.sizeOf5
  v5 := Tryd.zeroValue5
  infoByte := by kernel_rfl
  cellsByte := by kernel_rfl
  sizeByte := by kernel_rfl
  neB5 := by decide
shelf_lay Lays.n143 Nm 143 at Tryd as Tryd.lays143
end Go.Proofs
namespace Go.Proofs.YtjdignaddfhohaaDoor
open Go.RowKit Go.SL
theorem join_none (a : Option Addr) (c : Nat) (sep : ByteArray) (w : World) :
    Calls Tryd.prog 45 #[.slice a 0 c, .string sep] w fun e w' => e = .returned (.string ⟨#[]⟩) ∧ w' = w := Any.strings_Join_none Tryd.lays156 Tryd.Builder_Extra_156 a c sep w
theorem join_many (bk o c : Nat) (xs : List ByteArray) (sep : ByteArray) (w : World) (hcells : ∀ (j : Nat) x, xs[j]? = some x → w.cell? ⟨bk, o + j, none⟩ = some (.string x)) (hbk : bk < w.heap.size) (hN : xs.length ≤ 140737488355328) (hcap : xs.length ≤ c) (hlen : (Lib.join (xs.map (·.data.toList)) sep.data.toList).length ≤ 140737488355328) :
    Calls Tryd.prog 45 #[.slice (some ⟨bk, o, none⟩) xs.length c, .string sep] w fun e w' => e = .returned (.string ⟨(Lib.join (xs.map (·.data.toList)) sep.data.toList).toArray⟩) ∧ Below w.heap.size w w' := Any.strings_Join Tryd.lays156 Tryd.Builder_Extra_156 bk o c xs sep w hcells hbk hN hcap hlen
theorem index_one (s : ByteArray) (c : UInt8) (w : World) :
    Calls Tryd.prog 54 #[.string s, .string ⟨#[c]⟩] w fun e w' => e = .returned (.int .i64 (Lib.indexByte s.data.toList c)) ∧ w' = w := Any.strings_Index_one Tryd.lays143 s c w
end Go.Proofs.YtjdignaddfhohaaDoor
namespace Go.Proofs.YtjdignaddfhohaaDoor
open Go.RowKit Go.SL

def goodB (c : UInt8) : Bool := decide (33 ≤ c.toNat) && (decide (c.toNat ≤ 126) && c != 47)
def isName (s : List UInt8) : Bool := s.all goodB && (decide (1 ≤ s.length) && decide (s.length ≤ 16))
def cuts : List UInt8 → List (List UInt8)
  | [] => [[]]
  | c :: s => if c == 47 then [] :: cuts s else match cuts s with
    | [] => [[c]]
    | h :: t => (c :: h) :: t
def splitL (p : List UInt8) : List (List UInt8) := if p = [] then [] else if (cuts p).all isName then (if (cuts p).length ≤ 6 then cuts p else []) else []
def splitE (p : List UInt8) : Int := if p = [] then 0 else if (cuts p).all isName then (if (cuts p).length ≤ 6 then 0 else 6) else 7
def joinP (l : List (List UInt8)) : List UInt8 := Lib.join l [47]

theorem cuts_cons (c : UInt8) (s : List UInt8) : cuts (c :: s) = if c == 47 then [] :: cuts s else match cuts s with
    | [] => [[c]]
    | h :: t => (c :: h) :: t := rfl
theorem cuts_ne (s : List UInt8) : cuts s ≠ [] := by
  cases s with
  | nil => simp [cuts]
  | cons c s =>
    unfold cuts
    split
    · simp
    · split <;> simp
theorem idx_cuts : ∀ s : List UInt8, (Lib.indexByte s 47 = -1 ∧ cuts s = [s]) ∨ ∃ k : Nat, k < s.length ∧ Lib.indexByte s 47 = k ∧ cuts s = s.take k :: cuts (s.drop (k + 1))
  | [] => .inl ⟨rfl, rfl⟩
  | c :: s => by
    rw [Lib.indexByte, cuts_cons]
    cases hc : c == 47 with
    | true => exact .inr ⟨0, by simp, by simp, by simp⟩
    | false =>
      rcases idx_cuts s with ⟨h1, h2⟩ | ⟨k, hk, h1, h2⟩
      · exact .inl ⟨by rw [h1]; simp, by rw [h2]; simp⟩
      · refine .inr ⟨k + 1, by simpa using hk, ?_, ?_⟩
        · rw [h1]
          have : ((k : Int) == -1) = false := by rw [beq_eq_false_iff_ne]; omega
          simp [this]
        · rw [h2, if_neg (by simp)]; rfl
theorem cuts_free {s : List UInt8} (h : ∀ c ∈ s, c ≠ 47) : cuts s = [s] := by
  induction s with
  | nil => rfl
  | cons c s ih =>
    have hc : (c == 47) = false := by simpa using h c (by simp)
    rw [cuts, hc, ih (fun d hd => h d (by simp [hd]))]
    simp
theorem cuts_app {a : List UInt8} (b : List UInt8) (h : ∀ c ∈ a, c ≠ 47) : cuts (a ++ 47 :: b) = a :: cuts b := by
  induction a with
  | nil => simp [cuts]
  | cons c a ih =>
    have hc : (c == 47) = false := by simpa using h c (by simp)
    rw [List.cons_append, cuts, hc, ih (fun d hd => h d (by simp [hd]))]
    simp
theorem joinP_cons (a : List UInt8) {l : List (List UInt8)} (h : l ≠ []) : joinP (a :: l) = a ++ 47 :: joinP l := by
  obtain ⟨b, t, rfl⟩ := List.exists_cons_of_ne_nil h
  rw [joinP, joinP, Lib.join_cons, Lib.join_cons, Lib.joinTail]
  simp [Lib.joinTail]
theorem joinP_one (a : List UInt8) : joinP [a] = a := Lib.join_one a [47]
theorem join_cuts : ∀ s : List UInt8, joinP (cuts s) = s
  | [] => by rw [cuts, joinP_one]
  | c :: s => by
    have ih := join_cuts s
    unfold cuts
    cases hc : c == 47 with
    | true =>
      have : c = 47 := by simpa using hc
      simp only [if_true]
      rw [joinP_cons [] (cuts_ne s), ih, this]
      rfl
    | false =>
      simp only [Bool.false_eq_true, if_false]
      obtain ⟨h, t, e⟩ := List.exists_cons_of_ne_nil (cuts_ne s)
      rw [e] at ih ⊢
      cases t with
      | nil =>
        rw [joinP_one] at ih
        show joinP [c :: h] = c :: s
        rw [joinP_one, ih]
      | cons x t =>
        rw [joinP_cons h (by simp)] at ih
        show joinP ((c :: h) :: x :: t) = c :: s
        rw [joinP_cons (c :: h) (by simp), ← ih]
        rfl
theorem name_free {s : List UInt8} (h : isName s = true) : ∀ c ∈ s, c ≠ 47 := by
  simp only [isName, Bool.and_eq_true] at h
  intro c hc e
  have := List.all_eq_true.1 h.1 c hc
  simp [goodB, e] at this
theorem cuts_join : ∀ l : List (List UInt8), l ≠ [] → l.all isName = true → cuts (joinP l) = l
  | [], h, _ => absurd rfl h
  | [a], _, h => by
    rw [joinP_one]
    simp only [List.all_cons, Bool.and_eq_true] at h
    exact cuts_free (name_free h.1)
  | a :: b :: t, _, h => by
    simp only [List.all_cons, Bool.and_eq_true] at h
    rw [joinP_cons a (by simp), cuts_app _ (name_free h.1), cuts_join (b :: t) (by simp) (by simp [h.2.1, h.2.2])]
theorem cuts_len : ∀ s : List UInt8, (cuts s).length ≤ s.length + 1 ∧ ∀ x ∈ cuts s, x.length ≤ s.length
  | [] => by simp [cuts]
  | c :: s => by
    obtain ⟨h1, h2⟩ := cuts_len s
    unfold cuts
    split
    · refine ⟨by simp only [List.length_cons]; omega, fun x hx => ?_⟩
      simp only [List.mem_cons] at hx
      rcases hx with rfl | hx
      · simp
      · have := h2 x hx; simp only [List.length_cons]; omega
    · obtain ⟨h, t, e⟩ := List.exists_cons_of_ne_nil (cuts_ne s)
      rw [e] at h1 h2 ⊢
      refine ⟨by simp only [List.length_cons] at h1 ⊢; omega, fun x hx => ?_⟩
      simp only [List.mem_cons] at hx
      rcases hx with rfl | hx
      · have := h2 h (by simp); simp only [List.length_cons]; omega
      · have := h2 x (by simp [hx]); simp only [List.length_cons]; omega

/-- what is left when some have come -/
def rst (p : List UInt8) (pre : List (List UInt8)) : List UInt8 := p.drop ((pre.map fun x => x.length + 1).sum)
theorem rst_nil (p : List UInt8) : rst p [] = p := by simp [rst]
theorem rst_step (p : List UInt8) (pre : List (List UInt8)) {k : Nat} (hk : k < (rst p pre).length) : rst p (pre ++ [(rst p pre).take k]) = (rst p pre).drop (k + 1) := by
  have hl : ((rst p pre).take k).length = k := by rw [List.length_take]; omega
  rw [rst, List.map_append, List.sum_append]
  simp only [List.map_cons, List.map_nil, List.sum_cons, List.sum_nil, hl, Nat.add_zero]
  rw [rst, List.drop_drop]

/-- the program's answer, as Split comes to it -/
theorem split_empty : splitL [] = [] ∧ splitE [] = 0 := ⟨rfl, rfl⟩
theorem split_bad {p : List UInt8} (h0 : p ≠ []) {x : List UInt8} (hx : x ∈ cuts p) (h : isName x = false) : splitL p = [] ∧ splitE p = 7 := by
  have : (cuts p).all isName = false := List.all_eq_false.2 ⟨x, hx, by simp [h]⟩
  simp [splitL, splitE, h0, this]
theorem split_many {p : List UInt8} (h0 : p ≠ []) (h : (cuts p).all isName = true) (h6 : ¬ (cuts p).length ≤ 6) : splitL p = [] ∧ splitE p = 6 := by simp [splitL, splitE, h0, h, h6]
theorem split_good {p : List UInt8} (h0 : p ≠ []) (h : (cuts p).all isName = true) (h6 : (cuts p).length ≤ 6) : splitL p = cuts p ∧ splitE p = 0 := by simp [splitL, splitE, h0, h, h6]
end Go.Proofs.YtjdignaddfhohaaDoor
namespace Go.SL

theorem bl_irrefl : ∀ a : List UInt8, Op.bytesLess a a = false
  | [] => rfl
  | x :: a => by simp [Op.bytesLess, bl_irrefl a]
theorem bl_cons (x y : UInt8) (a b : List UInt8) : Op.bytesLess (x :: a) (y :: b) = true ↔ x.toNat < y.toNat ∨ (x = y ∧ Op.bytesLess a b = true) := by
  simp [Op.bytesLess, UInt8.lt_iff_toNat_lt]
theorem bl_nil_cons (y : UInt8) (b : List UInt8) : Op.bytesLess [] (y :: b) = true := by simp [Op.bytesLess]
theorem bl_nil (a : List UInt8) : Op.bytesLess a [] = false := by cases a <;> rfl
theorem bl_trans : ∀ {a b c : List UInt8}, Op.bytesLess a b = true → Op.bytesLess b c = true → Op.bytesLess a c = true
  | a, [], c, h, _ => by rw [bl_nil] at h; cases h
  | a, y :: b, [], _, h => by rw [bl_nil] at h; cases h
  | [], y :: b, z :: c, _, _ => bl_nil_cons z c
  | x :: a, y :: b, z :: c, h1, h2 => by
    rw [bl_cons] at h1 h2 ⊢
    rcases h1 with h1 | ⟨rfl, h1⟩
    · rcases h2 with h2 | ⟨rfl, h2⟩
      · exact .inl (by omega)
      · exact .inl h1
    · rcases h2 with h2 | ⟨rfl, h2⟩
      · exact .inl h2
      · exact .inr ⟨rfl, bl_trans h1 h2⟩
theorem bl_total : ∀ {a b : List UInt8}, a ≠ b → Op.bytesLess a b = false → Op.bytesLess b a = true
  | [], [], h, _ => absurd rfl h
  | [], y :: b, _, h => by rw [bl_nil_cons] at h; cases h
  | x :: a, [], _, _ => bl_nil_cons x a
  | x :: a, y :: b, hn, h => by
    rw [bl_cons]
    have h' : ¬ (x.toNat < y.toNat ∨ (x = y ∧ Op.bytesLess a b = true)) := by rw [← bl_cons, h]; simp
    by_cases hxy : x = y
    · subst hxy
      refine .inr ⟨rfl, bl_total (fun e => hn (by rw [e])) ?_⟩
      cases hb : Op.bytesLess a b with
      | false => rfl
      | true => exact absurd (.inr ⟨rfl, hb⟩) h'
    · have : x.toNat ≠ y.toNat := fun e => hxy (UInt8.toNat_inj.1 e)
      exact .inl (by omega)
theorem bl_asymm {a b : List UInt8} (h : Op.bytesLess a b = true) : Op.bytesLess b a = false := by
  cases hb : Op.bytesLess b a with
  | false => rfl
  | true => have := bl_trans h hb; rw [bl_irrefl] at this; cases this

theorem bsGo_at {less : Nat → Bool} {n : Nat} : ∀ (f lo hi : Nat), hi - lo ≤ f → lo ≤ hi → hi ≤ n → (∀ i j, i ≤ j → j < n → less j = true → less i = true) → (∀ i, i < lo → less i = true) → (∀ i, hi ≤ i → i < n → less i = false) →
    lo ≤ Lib.bsGo less f lo hi ∧ Lib.bsGo less f lo hi ≤ hi ∧ (∀ i, i < Lib.bsGo less f lo hi → less i = true) ∧ ∀ i, Lib.bsGo less f lo hi ≤ i → i < n → less i = false
  | 0, lo, hi, hf, hl, hn, _, h1, h2 => by
    obtain rfl : lo = hi := by omega
    rw [Lib.bsGo]
    exact ⟨Nat.le_refl _, Nat.le_refl _, h1, h2⟩
  | f + 1, lo, hi, hf, hl, hn, hm, h1, h2 => by
    rw [Lib.bsGo]
    by_cases hlt : lo < hi
    · rw [if_pos hlt]
      cases hc : less ((lo + hi) / 2) with
      | true =>
        simp only [if_true]
        obtain ⟨a, b, c, d⟩ := bsGo_at f ((lo + hi) / 2 + 1) hi (by omega) (by omega) hn hm (fun i hi' => hm i ((lo + hi) / 2) (by omega) (by omega) hc) h2
        exact ⟨by omega, b, c, d⟩
      | false =>
        simp only [Bool.false_eq_true, if_false]
        obtain ⟨a, b, c, d⟩ := bsGo_at f lo ((lo + hi) / 2) (by omega) (by omega) (by omega) hm h1 (fun i hi' hin => by
          cases hli : less i with
          | false => rfl
          | true => rw [hm _ i hi' hin hli] at hc; cases hc)
        exact ⟨a, by omega, c, d⟩
    · rw [if_neg hlt]
      obtain rfl : lo = hi := by omega
      exact ⟨Nat.le_refl _, Nat.le_refl _, h1, h2⟩
theorem countP_at {α : Type} {p : α → Bool} {xs : List α} {r : Nat} (hr : r ≤ xs.length) (h1 : ∀ (i : Nat) (h : i < xs.length), i < r → p xs[i] = true) (h2 : ∀ (i : Nat) (h : i < xs.length), r ≤ i → p xs[i] = false) : xs.countP p = r := by
  have e : xs.countP p = (xs.take r).countP p + (xs.drop r).countP p := by rw [← List.countP_append, List.take_append_drop]
  have e1 : (xs.take r).countP p = r := by
    have : (xs.take r).countP p = (xs.take r).length := List.countP_eq_length.2 fun a ha => by
      obtain ⟨i, hi, rfl⟩ := List.getElem_of_mem ha
      rw [List.length_take] at hi
      rw [List.getElem_take]
      exact h1 i (by omega) (by omega)
    rw [this, List.length_take]
    omega
  have e2 : (xs.drop r).countP p = 0 := List.countP_eq_zero.2 fun a ha => by
    obtain ⟨i, hi, rfl⟩ := List.getElem_of_mem ha
    rw [List.length_drop] at hi
    rw [List.getElem_drop, h2 (r + i) (by omega) (by omega)]
    simp
  omega
/-- do texts rise? -/
def Rising (ks : List (List UInt8)) : Prop := ∀ (i : Nat) (h : i + 1 < ks.length), Op.bytesLess ks[i] ks[i + 1] = true
theorem Rising.lt {ks : List (List UInt8)} (h : Rising ks) : ∀ (d i : Nat) (hj : i + 1 + d < ks.length), Op.bytesLess (ks[i]'(by omega)) (ks[i + 1 + d]) = true
  | 0, i, hj => h i hj
  | d + 1, i, hj => bl_trans (h.lt d i (by omega)) (h (i + 1 + d) (by omega))
theorem Rising.of {ks : List (List UInt8)} (h : Rising ks) {i j : Nat} (hij : i < j) (hj : j < ks.length) : Op.bytesLess (ks[i]'(by omega)) ks[j] = true := by
  have := h.lt (j - i - 1) i (by omega)
  simpa [show i + 1 + (j - i - 1) = j by omega] using this
/-- where a text stands among texts that rise -/
def placeOf (ks : List (List UInt8)) (key : List UInt8) : Nat := ks.countP fun k => Op.bytesLess k key
def isIn (ks : List (List UInt8)) (key : List UInt8) : Bool := ks.contains key
theorem find_at {ks : List (List UInt8)} (h : Rising ks) (key : List UInt8) :
    Lib.bsGo (fun t => Op.bytesLess (ks.getD t []) key) ks.length 0 ks.length = placeOf ks key ∧ placeOf ks key ≤ ks.length ∧
    ks.countP (fun k => Op.bytesLess k key || k == key) = placeOf ks key + (if isIn ks key then 1 else 0) ∧
    (isIn ks key = true ↔ ∃ h : placeOf ks key < ks.length, ks[placeOf ks key] = key) := by
  have get : ∀ (i : Nat) (hi : i < ks.length), ks.getD i [] = ks[i] := fun i hi => by rw [List.getD_eq_getElem?_getD, List.getElem?_eq_getElem hi]; rfl
  have mono : ∀ i j, i ≤ j → j < ks.length → Op.bytesLess (ks.getD j []) key = true → Op.bytesLess (ks.getD i []) key = true := fun i j hij hj hl => by
    rcases Nat.lt_or_eq_of_le hij with h1 | rfl
    · rw [get i (by omega)]
      rw [get j hj] at hl
      exact bl_trans (h.of h1 hj) hl
    · exact hl
  obtain ⟨_, hb, hc, hd⟩ := bsGo_at (less := fun t => Op.bytesLess (ks.getD t []) key) ks.length 0 ks.length (by omega) (Nat.zero_le _) (Nat.le_refl _) mono (fun i hi => absurd hi (Nat.not_lt_zero _)) (fun i hi hn => by omega)
  generalize Lib.bsGo (fun t => Op.bytesLess (ks.getD t []) key) ks.length 0 ks.length = r at *
  have hr : placeOf ks key = r := countP_at hb (fun i hi hir => by have := hc i hir; simp only [get i hi] at this; exact this) (fun i hi hir => by have := hd i hir hi; simp only [get i hi] at this; exact this)
  rw [hr]
  have hin : isIn ks key = true ↔ ∃ h : r < ks.length, ks[r] = key := by
    rw [isIn, List.contains_iff_mem]
    constructor
    · intro hm
      obtain ⟨i, hi, e⟩ := List.getElem_of_mem hm
      have h1 : ¬ i < r := fun hir => by
        have := hc i hir
        simp only [get i hi, e, bl_irrefl] at this
        cases this
      have h2 : ¬ r < i := fun hri => by
        have h3 := h.of hri hi
        rw [e] at h3
        have := hd r (Nat.le_refl _) (by omega)
        simp only [get r (by omega), h3] at this
        cases this
      obtain rfl : i = r := by omega
      exact ⟨hi, e⟩
    · rintro ⟨h1, e⟩
      rw [← e]
      exact List.getElem_mem h1
  refine ⟨rfl, hb, ?_, hin⟩
  cases hi : isIn ks key with
  | true =>
    obtain ⟨h1, e⟩ := hin.1 hi
    refine countP_at (by simp only [if_true]; omega) (fun i hi' hir => ?_) (fun i hi' hir => ?_)
    · simp only [if_true] at hir
      rcases Nat.lt_or_eq_of_le (show i ≤ r by omega) with h2 | rfl
      · have := hc i h2
        simp only [get i hi'] at this
        rw [this]; rfl
      · rw [e]; simp
    · simp only [if_true] at hir
      have := hd i (by omega) hi'
      simp only [get i hi'] at this
      rw [this, Bool.false_or, beq_eq_false_iff_ne]
      intro e2
      have h3 := h.of (show r < i by omega) hi'
      rw [e, e2, bl_irrefl] at h3
      cases h3
  | false =>
    have hni : ∀ (i : Nat) (hi' : i < ks.length), ks[i] ≠ key := fun i hi' e => by
      have : isIn ks key = true := by rw [isIn, List.contains_iff_mem, ← e]; exact List.getElem_mem hi'
      rw [hi] at this; cases this
    refine countP_at (by simp; omega) (fun i hi' hir => ?_) (fun i hi' hir => ?_)
    · have := hc i (by simpa using hir)
      simp only [get i hi'] at this
      rw [this]; rfl
    · have := hd i (by simpa using hir) hi'
      simp only [get i hi'] at this
      rw [this, Bool.false_or, beq_eq_false_iff_ne]
      exact hni i hi'
/-- of a text that is there -/
theorem place_of_mem {ks : List (List UInt8)} (h : Rising ks) {i : Nat} (hi : i < ks.length) : placeOf ks ks[i] = i ∧ isIn ks ks[i] = true := by
  refine ⟨countP_at (by omega) (fun j hj hji => h.of hji hi) (fun j hj hij => ?_), by rw [isIn, List.contains_iff_mem]; exact List.getElem_mem hi⟩
  rcases Nat.lt_or_eq_of_le hij with h1 | rfl
  · exact bl_asymm (h.of h1 hj)
  · exact bl_irrefl _
end Go.SL
namespace Go.Proofs.YtjdignaddfhohaaDoor
open Go.RowKit Go.SL

/-- the order of two paths' texts -/
def lessL : List (List UInt8) → List (List UInt8) → Bool
  | _, [] => false
  | [], _ :: _ => true
  | a :: l, b :: m => Op.bytesLess a b || (a == b && lessL l m)
theorem lessL_cons (a b : List UInt8) (l m : List (List UInt8)) : lessL (a :: l) (b :: m) = true ↔ Op.bytesLess a b = true ∨ (a = b ∧ lessL l m = true) := by
  rw [lessL, Bool.or_eq_true, Bool.and_eq_true, beq_iff_eq]
theorem lessL_irrefl : ∀ l, lessL l l = false
  | [] => rfl
  | a :: l => by
    rw [lessL, bl_irrefl, lessL_irrefl l]
    simp
theorem lessL_nil (a : List (List UInt8)) : lessL a [] = false := by cases a <;> rfl
theorem lessL_trans : ∀ {a b c : List (List UInt8)}, lessL a b = true → lessL b c = true → lessL a c = true
  | a, b, [], _, h => by rw [lessL_nil] at h; cases h
  | a, [], _ :: _, h, _ => by rw [lessL_nil] at h; cases h
  | [], _ :: _, _ :: _, _, _ => rfl
  | x :: a, y :: b, z :: c, h1, h2 => by
    rcases (lessL_cons _ _ _ _).1 h1 with e1 | ⟨rfl, e1⟩
    · rcases (lessL_cons _ _ _ _).1 h2 with e2 | ⟨rfl, e2⟩
      · exact (lessL_cons _ _ _ _).2 (.inl (bl_trans e1 e2))
      · exact (lessL_cons _ _ _ _).2 (.inl e1)
    · rcases (lessL_cons _ _ _ _).1 h2 with e2 | ⟨rfl, e2⟩
      · exact (lessL_cons _ _ _ _).2 (.inl e2)
      · exact (lessL_cons _ _ _ _).2 (.inr ⟨rfl, lessL_trans e1 e2⟩)
theorem lessL_total : ∀ {a b : List (List UInt8)}, a ≠ b → lessL a b = false → lessL b a = true
  | [], [], h, _ => absurd rfl h
  | [], _ :: _, _, h => by cases h
  | _ :: _, [], _, _ => rfl
  | x :: a, y :: b, h, h1 => by
    have h2 : ¬ (Op.bytesLess x y = true ∨ (x = y ∧ lessL a b = true)) := fun e => by rw [(lessL_cons _ _ _ _).2 e] at h1; cases h1
    by_cases hxy : x = y
    · subst hxy
      refine (lessL_cons _ _ _ _).2 (.inr ⟨rfl, lessL_total (fun e => h (by rw [e])) ?_⟩)
      cases h3 : lessL a b with
      | false => rfl
      | true => exact absurd (.inr ⟨rfl, h3⟩) h2
    · refine (lessL_cons _ _ _ _).2 (.inl (bl_total hxy ?_))
      cases h3 : Op.bytesLess x y with
      | false => rfl
      | true => exact absurd (.inl h3) h2
theorem lessL_app : ∀ (q : List (List UInt8)) (a b : List (List UInt8)), lessL (q ++ a) (q ++ b) = lessL a b
  | [], _, _ => rfl
  | x :: q, a, b => by
    rw [Bool.eq_iff_iff, List.cons_append, List.cons_append, lessL_cons, lessL_app q a b, bl_irrefl]
    simp
/-- is a path ahead of another one? -/
def lessP (p q : List UInt8) : Bool := lessL (cuts p) (cuts q)
theorem cuts_inj {p q : List UInt8} (h : cuts p = cuts q) : p = q := by rw [← join_cuts p, ← join_cuts q, h]
theorem lessP_irrefl (p : List UInt8) : lessP p p = false := lessL_irrefl _
theorem lessP_trans {a b c : List UInt8} (h1 : lessP a b = true) (h2 : lessP b c = true) : lessP a c = true := lessL_trans h1 h2
theorem lessP_total {a b : List UInt8} (h : a ≠ b) (h1 : lessP a b = false) : lessP b a = true := lessL_total (fun e => h (cuts_inj e)) h1
theorem lessP_asymm {a b : List UInt8} (h : lessP a b = true) : lessP b a = false := by
  cases h2 : lessP b a with
  | false => rfl
  | true => have := lessP_trans h h2; rw [lessP_irrefl] at this; cases this
theorem lessP_ne {a b : List UInt8} (h : lessP a b = true) : a ≠ b := by
  rintro rfl
  rw [lessP_irrefl] at h
  cases h
/-- paths that rise -/
def RiseP (l : List (List UInt8)) : Prop := l.Pairwise fun a b => lessP a b = true
theorem RiseP.nodup {l : List (List UInt8)} (h : RiseP l) : l.Nodup := List.Pairwise.imp (fun h => lessP_ne h) h
/-- rising paths are told by what is among them -/
theorem riseP_ext : ∀ {a b : List (List UInt8)}, RiseP a → RiseP b → (∀ k, k ∈ a ↔ k ∈ b) → a = b
  | [], [], _, _, _ => rfl
  | [], y :: b, _, _, h => absurd ((h y).2 (by simp)) (by simp)
  | x :: a, [], _, _, h => absurd ((h x).1 (by simp)) (by simp)
  | x :: a, y :: b, ha, hb, h => by
    obtain ⟨ha1, ha2⟩ := List.pairwise_cons.1 ha
    obtain ⟨hb1, hb2⟩ := List.pairwise_cons.1 hb
    have hxy : x = y := by
      apply Classical.byContradiction
      intro hne
      have h1 : lessP y x = true := by
        rcases List.mem_cons.1 ((h x).1 (by simp)) with e | e
        · exact absurd e hne
        · exact hb1 x e
      have h2 : lessP x y = true := by
        rcases List.mem_cons.1 ((h y).2 (by simp)) with e | e
        · exact absurd e.symm hne
        · exact ha1 y e
      rw [lessP_asymm h1] at h2
      cases h2
    subst hxy
    congr 1
    refine riseP_ext ha2 hb2 fun k => ?_
    constructor
    · intro hk
      rcases List.mem_cons.1 ((h k).1 (List.mem_cons_of_mem _ hk)) with rfl | e
      · exact absurd rfl (lessP_ne (ha1 k hk))
      · exact e
    · intro hk
      rcases List.mem_cons.1 ((h k).2 (List.mem_cons_of_mem _ hk)) with rfl | e
      · exact absurd rfl (lessP_ne (hb1 k hk))
      · exact e
/-- a path put in its place -/
def insP (k : List UInt8) : List (List UInt8) → List (List UInt8)
  | [] => [k]
  | x :: r => if lessP k x = true then k :: x :: r else if x = k then x :: r else x :: insP k r
theorem insP_mem {k j : List UInt8} : ∀ {l : List (List UInt8)}, j ∈ insP k l ↔ j = k ∨ j ∈ l
  | [] => by simp [insP]
  | x :: r => by
    unfold insP
    split
    · simp
    · split
      · next h => subst h; simp
      · rw [List.mem_cons, insP_mem (l := r), List.mem_cons]
        constructor
        · rintro (h | h | h)
          · exact .inr (.inl h)
          · exact .inl h
          · exact .inr (.inr h)
        · rintro (h | h | h)
          · exact .inr (.inl h)
          · exact .inl h
          · exact .inr (.inr h)
theorem insP_rise {k : List UInt8} : ∀ {l : List (List UInt8)}, RiseP l → RiseP (insP k l)
  | [], _ => List.pairwise_singleton _ _
  | x :: r, h => by
    obtain ⟨h1, h2⟩ := List.pairwise_cons.1 h
    unfold insP
    split
    · next hk => exact List.pairwise_cons.2 ⟨fun y hy => by
        rcases List.mem_cons.1 hy with rfl | hy
        · exact hk
        · exact lessP_trans hk (h1 y hy), h⟩
    · split
      · exact h
      · next hk hne =>
        have hx : lessP x k = true := lessP_total (fun e => hne e.symm) (by simpa using hk)
        exact List.pairwise_cons.2 ⟨fun y hy => by
          rcases insP_mem.1 hy with rfl | hy
          · exact hx
          · exact h1 y hy, insP_rise h2⟩
/-- paths, each once, in order -/
def sortK (l : List (List UInt8)) : List (List UInt8) := l.foldl (fun out k => insP k out) []
theorem sortK_go : ∀ (l out : List (List UInt8)), RiseP out → RiseP (l.foldl (fun out k => insP k out) out) ∧ ∀ j, j ∈ l.foldl (fun out k => insP k out) out ↔ j ∈ out ∨ j ∈ l
  | [], out, h => ⟨h, fun j => by simp⟩
  | k :: l, out, h => by
    obtain ⟨h1, h2⟩ := sortK_go l (insP k out) (insP_rise h)
    refine ⟨h1, fun j => ?_⟩
    rw [List.foldl_cons, h2, insP_mem, List.mem_cons]
    constructor
    · rintro ((h | h) | h)
      · exact .inr (.inl h)
      · exact .inl h
      · exact .inr (.inr h)
    · rintro (h | h | h)
      · exact .inl (.inr h)
      · exact .inl (.inl h)
      · exact .inr h
theorem sortK_rise (l : List (List UInt8)) : RiseP (sortK l) := (sortK_go l [] List.Pairwise.nil).1
theorem sortK_mem {l : List (List UInt8)} {j : List UInt8} : j ∈ sortK l ↔ j ∈ l := by
  have := (sortK_go l [] List.Pairwise.nil).2 j
  simpa [sortK] using this
theorem sortK_len : ∀ (all : List (List UInt8)), (sortK all).length ≤ all.length := by
  intro all
  have key : ∀ (k : List UInt8) (l : List (List UInt8)), (insP k l).length ≤ l.length + 1 := by
    intro k l
    induction l with
    | nil => simp [insP]
    | cons x r ih =>
      unfold insP
      split
      · simp
      · split
        · simp
        · simp only [List.length_cons]; omega
  have go : ∀ (l out : List (List UInt8)), (l.foldl (fun out k => insP k out) out).length ≤ out.length + l.length := by
    intro l
    induction l with
    | nil => intro out; simp
    | cons k l ih =>
      intro out
      have h1 := ih (insP k out)
      have h2 := key k out
      simp only [List.foldl_cons, List.length_cons]
      omega
  have := go all []
  simpa [sortK] using this
/-- two rows side by side -/
def bothB {α β : Type} (f : α → List UInt8) (g : β → List UInt8) : Nat → List α → List β → List (Option α × Option β)
  | 0, _, _ => []
  | _ + 1, [], [] => []
  | n + 1, [], y :: m => (none, some y) :: bothB f g n [] m
  | n + 1, x :: l, [] => (some x, none) :: bothB f g n l []
  | n + 1, x :: l, y :: m => if lessP (f x) (g y) = true then (some x, none) :: bothB f g n l (y :: m) else if lessP (g y) (f x) = true then (none, some y) :: bothB f g n (x :: l) m else (some x, some y) :: bothB f g n l m
/-- the key of a pair -/
def keyB {α β : Type} (f : α → List UInt8) (g : β → List UInt8) : Option α × Option β → List UInt8
  | (some x, _) => f x
  | (none, some y) => g y
  | (none, none) => []
end Go.Proofs.YtjdignaddfhohaaDoor
namespace Go.Proofs.YtjdignaddfhohaaDoor
open Go.RowKit Go.SL

section
variable {α β : Type} {f : α → List UInt8} {g : β → List UInt8}
theorem find_gt {l : List α} {k : List UInt8} (h : ∀ j ∈ l.map f, lessP k j = true) : l.find? (fun x => f x == k) = none := by
  refine List.find?_eq_none.2 fun x hx => ?_
  have := lessP_ne (h (f x) (List.mem_map_of_mem hx))
  simpa using fun e => this e.symm
theorem find_here {x : α} {l : List α} : (x :: l).find? (fun z => f z == f x) = some x := by simp
theorem find_past {x : α} {l : List α} {k : List UInt8} (h : lessP (f x) k = true) : (x :: l).find? (fun z => f z == k) = l.find? (fun z => f z == k) := by
  have : (f x == k) = false := by simpa using lessP_ne h
  rw [List.find?_cons, this]
def pairAt (f : α → List UInt8) (g : β → List UInt8) (l : List α) (m : List β) (k : List UInt8) : Option α × Option β := (l.find? (fun z => f z == k), m.find? (fun z => g z == k))
theorem both_spec : ∀ (n : Nat) (l : List α) (m : List β), l.length + m.length ≤ n → RiseP (l.map f) → RiseP (m.map g) →
    RiseP ((bothB f g n l m).map (keyB f g)) ∧ (∀ k, k ∈ (bothB f g n l m).map (keyB f g) ↔ k ∈ l.map f ∨ k ∈ m.map g) ∧ ∀ p ∈ bothB f g n l m, p = pairAt f g l m (keyB f g p)
  | 0, l, m, h, _, _ => by
    obtain rfl : l = [] := List.eq_nil_of_length_eq_zero (by omega)
    obtain rfl : m = [] := List.eq_nil_of_length_eq_zero (by omega)
    exact ⟨List.Pairwise.nil, fun k => by simp [bothB], fun p hp => absurd hp (by simp [bothB])⟩
  | n + 1, [], [], _, _, _ => ⟨List.Pairwise.nil, fun k => by simp [bothB], fun p hp => absurd hp (by simp [bothB])⟩
  | n + 1, [], y :: m, h, hl, hm => by
    obtain ⟨hm1, hm2⟩ := List.pairwise_cons.1 hm
    obtain ⟨i1, i2, i3⟩ := both_spec n [] m (by simpa using h) hl hm2
    have hgt : ∀ k ∈ (bothB f g n [] m).map (keyB f g), lessP (g y) k = true := fun k hk => by
      rcases (i2 k).1 hk with h | h
      · cases h
      · exact hm1 k h
    refine ⟨List.pairwise_cons.2 ⟨hgt, i1⟩, fun k => ?_, fun p hp => ?_⟩
    · rw [bothB, List.map_cons, List.mem_cons, i2]
      simp [keyB]
    · rw [bothB] at hp
      rcases List.mem_cons.1 hp with rfl | hp
      · simp [pairAt, keyB]
      · have e := i3 p hp
        have hk := hgt _ (List.mem_map_of_mem hp)
        rw [pairAt, find_past hk]
        exact e
  | n + 1, x :: l, [], h, hl, hm => by
    obtain ⟨hl1, hl2⟩ := List.pairwise_cons.1 hl
    obtain ⟨i1, i2, i3⟩ := both_spec n l [] (by simpa using h) hl2 hm
    have hgt : ∀ k ∈ (bothB f g n l []).map (keyB f g), lessP (f x) k = true := fun k hk => by
      rcases (i2 k).1 hk with h | h
      · exact hl1 k h
      · cases h
    refine ⟨List.pairwise_cons.2 ⟨hgt, i1⟩, fun k => ?_, fun p hp => ?_⟩
    · rw [bothB, List.map_cons, List.mem_cons, i2]
      simp [keyB]
    · rw [bothB] at hp
      rcases List.mem_cons.1 hp with rfl | hp
      · simp [pairAt, keyB]
      · have e := i3 p hp
        have hk := hgt _ (List.mem_map_of_mem hp)
        rw [pairAt, find_past hk]
        exact e
  | n + 1, x :: l, y :: m, h, hl, hm => by
    obtain ⟨hl1, hl2⟩ := List.pairwise_cons.1 hl
    obtain ⟨hm1, hm2⟩ := List.pairwise_cons.1 hm
    rw [bothB]
    by_cases hxy : lessP (f x) (g y) = true
    · rw [if_pos hxy]
      obtain ⟨i1, i2, i3⟩ := both_spec n l (y :: m) (by simp at h ⊢; omega) hl2 hm
      have hgy : ∀ k ∈ (y :: m).map g, lessP (f x) k = true := fun k hk => by
        rcases List.mem_cons.1 hk with rfl | hk
        · exact hxy
        · exact lessP_trans hxy (hm1 k hk)
      have hgt : ∀ k ∈ (bothB f g n l (y :: m)).map (keyB f g), lessP (f x) k = true := fun k hk => by
        rcases (i2 k).1 hk with h | h
        · exact hl1 k h
        · exact hgy k h
      refine ⟨List.pairwise_cons.2 ⟨hgt, i1⟩, fun k => ?_, fun p hp => ?_⟩
      · rw [List.map_cons, List.mem_cons, i2, List.map_cons, List.mem_cons]
        simp only [keyB]
        rw [List.map_cons, List.mem_cons, or_assoc]
      · rcases List.mem_cons.1 hp with rfl | hp
        · rw [pairAt]
          simp only [keyB]
          rw [find_here, find_gt hgy]
        · have e := i3 p hp
          have hk := hgt _ (List.mem_map_of_mem hp)
          rw [pairAt, find_past hk]
          exact e
    · rw [if_neg hxy]
      by_cases hyx : lessP (g y) (f x) = true
      · rw [if_pos hyx]
        obtain ⟨i1, i2, i3⟩ := both_spec n (x :: l) m (by simp at h ⊢; omega) hl hm2
        have hfx : ∀ k ∈ (x :: l).map f, lessP (g y) k = true := fun k hk => by
          rcases List.mem_cons.1 hk with rfl | hk
          · exact hyx
          · exact lessP_trans hyx (hl1 k hk)
        have hgt : ∀ k ∈ (bothB f g n (x :: l) m).map (keyB f g), lessP (g y) k = true := fun k hk => by
          rcases (i2 k).1 hk with h | h
          · exact hfx k h
          · exact hm1 k h
        refine ⟨List.pairwise_cons.2 ⟨hgt, i1⟩, fun k => ?_, fun p hp => ?_⟩
        · rw [List.map_cons, List.mem_cons, i2, List.map_cons (l := m), List.mem_cons]
          simp only [keyB]
          constructor
          · rintro (h | h | h)
            · exact .inr (.inl h)
            · exact .inl h
            · exact .inr (.inr h)
          · rintro (h | h | h)
            · exact .inr (.inl h)
            · exact .inl h
            · exact .inr (.inr h)
        · rcases List.mem_cons.1 hp with rfl | hp
          · rw [pairAt]
            simp only [keyB]
            rw [find_here, find_gt hfx]
          · have e := i3 p hp
            have hk := hgt _ (List.mem_map_of_mem hp)
            rw [pairAt, find_past (f := g) hk]
            exact e
      · rw [if_neg hyx]
        have hfg : f x = g y := by
          apply Classical.byContradiction
          intro hne
          exact hyx (lessP_total hne (by simpa using hxy))
        obtain ⟨i1, i2, i3⟩ := both_spec n l m (by simp at h ⊢; omega) hl2 hm2
        have hgt : ∀ k ∈ (bothB f g n l m).map (keyB f g), lessP (f x) k = true := fun k hk => by
          rcases (i2 k).1 hk with h | h
          · exact hl1 k h
          · rw [hfg]; exact hm1 k h
        refine ⟨List.pairwise_cons.2 ⟨hgt, i1⟩, fun k => ?_, fun p hp => ?_⟩
        · rw [List.map_cons, List.mem_cons, i2, List.map_cons, List.map_cons, List.mem_cons, List.mem_cons]
          simp only [keyB]
          rw [← hfg]
          constructor
          · rintro (h | h | h)
            · exact .inl (.inl h)
            · exact .inl (.inr h)
            · exact .inr (.inr h)
          · rintro ((h | h) | h | h)
            · exact .inl h
            · exact .inr (.inl h)
            · exact .inl h
            · exact .inr (.inr h)
        · rcases List.mem_cons.1 hp with rfl | hp
          · rw [pairAt]
            simp only [keyB]
            rw [find_here, hfg, find_here]
          · have e := i3 p hp
            have hk := hgt _ (List.mem_map_of_mem hp)
            rw [pairAt, find_past hk, find_past (f := g) (by rw [← hfg]; exact hk)]
            exact e
/-- two rising rows side by side: over their paths, each once, in order -/
theorem both_sorted {l : List α} {m : List β} {n : Nat} (h : l.length + m.length ≤ n) (hl : RiseP (l.map f)) (hm : RiseP (m.map g)) :
    bothB f g n l m = (sortK (l.map f ++ m.map g)).map (pairAt f g l m) := by
  obtain ⟨h1, h2, h3⟩ := both_spec n l m h hl hm
  have e : (bothB f g n l m).map (keyB f g) = sortK (l.map f ++ m.map g) := riseP_ext h1 (sortK_rise _) fun k => by rw [h2, sortK_mem, List.mem_append]
  rw [← e, List.map_map]
  exact (List.map_id _).symm.trans (List.map_congr_left fun p hp => h3 p hp)
end
end Go.Proofs.YtjdignaddfhohaaDoor
namespace Go.Proofs.YtjdignaddfhohaaDoor
open Go.RowKit Go.SL

/-- a file or a directory; its kids have names -/
inductive Tr : Type
  | nd (dir : Bool) (data : List UInt8) (kids : List (List UInt8 × Tr))
namespace Tr
def dir : Tr → Bool | nd d _ _ => d
def data : Tr → List UInt8 | nd _ x _ => x
def kids : Tr → List (List UInt8 × Tr) | nd _ _ k => k
def zero : Tr := nd false [] []
def names (t : Tr) : List (List UInt8) := t.kids.map Prod.fst
def leafOf (d : Bool) (x : List UInt8) : Tr := nd d x []
/-- the kid of a name -/
def kid? (t : Tr) (n : List UInt8) : Option Tr := (t.kids.find? fun k => k.1 == n).map Prod.snd
/-- what is at names -/
def get? : List (List UInt8) → Tr → Option Tr
  | [], t => some t
  | n :: r, t => match t.kid? n with
    | none => none
    | some k => get? r k
/-- a row in which something new stands -/
def insAt {α : Type} (i : Nat) (x : α) (l : List α) : List α := l.take i ++ x :: l.drop i
/-- a directory in which names lead to one more node; its error -/
def withT : List (List UInt8) → Bool → List UInt8 → Tr → Int × Tr
  | [], _, _, _ => (8, zero)
  | [n], xd, xb, t =>
    if t.dir && !isIn t.names n then
      (if 6 < t.kids.length + 1 ∨ 8192 < xb.length then (6, zero) else (0, nd true [] (insAt (placeOf t.names n) (n, leafOf xd xb) t.kids)))
    else (8, zero)
  | n :: m :: r, xd, xb, t =>
    if t.dir && isIn t.names n then
      (match withT (m :: r) xd xb ((t.kids.getD (placeOf t.names n) ([], zero)).2) with
       | (e, k) => if e = 0 then (0, nd true [] (t.kids.set (placeOf t.names n) (n, k))) else (e, zero))
    else (8, zero)
/-- what a tree is like, so deep -/
def Wf : Nat → Tr → Prop
  | 0, t => t.kids = [] ∧ (t.dir = true → t.data = []) ∧ t.data.length ≤ 8192
  | d + 1, t => (t.dir = false → t.kids = []) ∧ (t.dir = true → t.data = []) ∧ Rising t.names ∧ t.kids.length ≤ 6 ∧ t.data.length ≤ 8192 ∧ ∀ k ∈ t.kids, isName k.1 = true ∧ Wf d k.2

theorem kid_mem {t : Tr} {n : List UInt8} {k : Tr} (h : t.kid? n = some k) : (n, k) ∈ t.kids := by
  unfold kid? at h
  cases hf : t.kids.find? fun k => k.1 == n with
  | none => rw [hf] at h; cases h
  | some x =>
    rw [hf] at h
    have h1 := List.mem_of_find?_eq_some hf
    have h2 := List.find?_some hf
    obtain ⟨a, b⟩ := x
    cases h
    rw [beq_iff_eq] at h2
    exact h2 ▸ h1
theorem rising_inj {ks : List (List UInt8)} (h : Rising ks) {i j : Nat} (hi : i < ks.length) (hj : j < ks.length) (e : ks[i] = ks[j]) : i = j := by
  have h1 := (place_of_mem h hi).1
  have h2 := (place_of_mem h hj).1
  rw [e] at h1
  omega
/-- in a row that rises, the kid of a name is at its place -/
theorem kid_at {t : Tr} (h : Rising t.names) {i : Nat} (hi : i < t.kids.length) : t.kid? t.kids[i].1 = some t.kids[i].2 := by
  unfold kid?
  cases hf : t.kids.find? fun k => k.1 == t.kids[i].1 with
  | none =>
    have := List.find?_eq_none.1 hf _ (List.getElem_mem hi)
    simp at this
  | some x =>
    have h1 := List.mem_of_find?_eq_some hf
    have h2 := List.find?_some hf
    obtain ⟨j, hj, rfl⟩ := List.getElem_of_mem h1
    rw [beq_iff_eq] at h2
    have : j = i := rising_inj h (i := j) (j := i) (by simpa [names] using hj) (by simpa [names] using hi) (by simpa [names] using h2)
    subst this
    rfl
theorem kid_none {t : Tr} {n : List UInt8} : t.kid? n = none ↔ isIn t.names n = false := by
  unfold kid? isIn names
  rw [Option.map_eq_none_iff, List.find?_eq_none]
  constructor
  · intro h
    rw [← Bool.not_eq_true, List.contains_iff_mem]
    intro hm
    obtain ⟨x, hx, e⟩ := List.mem_map.1 hm
    exact absurd (beq_iff_eq.2 e) (h x hx)
  · intro h x hx
    rw [← Bool.not_eq_true, List.contains_iff_mem] at h
    intro e
    exact h (List.mem_map.2 ⟨x, hx, beq_iff_eq.1 e⟩)
/-- the place of a name that is there -/
theorem kid_place {t : Tr} (h : Rising t.names) {n : List UInt8} (hn : isIn t.names n = true) : ∃ hi : placeOf t.names n < t.kids.length, t.kids[placeOf t.names n].1 = n ∧ t.kid? n = some t.kids[placeOf t.names n].2 := by
  obtain ⟨_, _, _, h4⟩ := find_at h n
  obtain ⟨hi, e⟩ := h4.1 hn
  have hi' : placeOf t.names n < t.kids.length := by simpa [names] using hi
  have e' : t.kids[placeOf t.names n].1 = n := by simpa [names] using e
  refine ⟨hi', e', ?_⟩
  have := kid_at h hi'
  rwa [e'] at this
end Tr
end Go.Proofs.YtjdignaddfhohaaDoor
namespace Go.Proofs.YtjdignaddfhohaaDoor
open Go.RowKit Go.SL
namespace Tr

theorem insAt_len {α : Type} {i : Nat} {x : α} {l : List α} (h : i ≤ l.length) : (insAt i x l).length = l.length + 1 := by
  simp [insAt]; omega
theorem insAt_map {α β : Type} (f : α → β) (i : Nat) (x : α) (l : List α) : (insAt i x l).map f = insAt i (f x) (l.map f) := by
  simp [insAt, List.map_take, List.map_drop]
theorem insAt_mem {α : Type} {i : Nat} {x y : α} {l : List α} : y ∈ insAt i x l ↔ y = x ∨ y ∈ l := by
  rw [insAt, List.mem_append, List.mem_cons]
  constructor
  · rintro (h | h | h)
    · exact .inr (List.mem_of_mem_take h)
    · exact .inl h
    · exact .inr (List.mem_of_mem_drop h)
  · rintro (h | h)
    · exact .inr (.inl h)
    · rw [← List.take_append_drop i l, List.mem_append] at h
      rcases h with h | h
      · exact .inl h
      · exact .inr (.inr h)
theorem insAt_get {α : Type} {i : Nat} {x : α} {l : List α} (hi : i ≤ l.length) (j : Nat) (hj : j < (insAt i x l).length) : (insAt i x l)[j] = if h : j < i then l[j]'(by omega) else if h2 : j = i then x else l[j - 1]'(by rw [insAt_len hi] at hj; omega) := by
  have hl := insAt_len (x := x) hi
  unfold insAt at hj ⊢
  by_cases h1 : j < i
  · rw [dif_pos h1, List.getElem_append_left (by rw [List.length_take]; omega), List.getElem_take]
  · rw [dif_neg h1, List.getElem_append_right (by rw [List.length_take]; omega)]
    by_cases h2 : j = i
    · subst h2
      rw [dif_pos rfl]
      simp [List.length_take, Nat.min_eq_left hi]
    · rw [dif_neg h2]
      have e : j - (l.take i).length = (j - i - 1) + 1 := by rw [List.length_take]; omega
      simp only [e, List.getElem_cons_succ, List.getElem_drop]
      congr 1
      omega
theorem place_lt {ks : List (List UInt8)} (h : Rising ks) {n : List UInt8} (i : Nat) (hi : i < ks.length) : i < placeOf ks n ↔ Op.bytesLess ks[i] n = true := by
  obtain ⟨h1, h2, _, _⟩ := find_at h n
  have get : ∀ (i : Nat) (hi : i < ks.length), ks.getD i [] = ks[i] := fun i hi => by rw [List.getD_eq_getElem?_getD, List.getElem?_eq_getElem hi]; rfl
  have mono : ∀ i j, i ≤ j → j < ks.length → Op.bytesLess (ks.getD j []) n = true → Op.bytesLess (ks.getD i []) n = true := fun i j hij hj hl => by
    rcases Nat.lt_or_eq_of_le hij with h3 | rfl
    · rw [get i (by omega)]
      rw [get j hj] at hl
      exact bl_trans (h.of h3 hj) hl
    · exact hl
  obtain ⟨_, hb, hc, hd⟩ := bsGo_at (less := fun t => Op.bytesLess (ks.getD t []) n) ks.length 0 ks.length (by omega) (Nat.zero_le _) (Nat.le_refl _) mono (fun i hi => absurd hi (Nat.not_lt_zero _)) (fun i hi hn => by omega)
  rw [h1] at hc hd
  constructor
  · intro hlt
    have := hc i hlt
    rwa [get i hi] at this
  · intro hl
    rcases Nat.lt_or_ge i (placeOf ks n) with h3 | h3
    · exact h3
    · have := hd i h3 hi
      rw [get i hi, hl] at this
      cases this
theorem rising_ins {ks : List (List UInt8)} (h : Rising ks) {n : List UInt8} (hn : isIn ks n = false) : Rising (insAt (placeOf ks n) n ks) := by
  have hp : placeOf ks n ≤ ks.length := (find_at h n).2.1
  have hne : ∀ (i : Nat) (hi : i < ks.length), ks[i] ≠ n := fun i hi e => by
    rw [isIn, ← Bool.not_eq_true, List.contains_iff_mem] at hn
    exact hn (e ▸ List.getElem_mem hi)
  intro i hi
  rw [insAt_len hp] at hi
  rw [insAt_get hp i (by rw [insAt_len hp]; omega), insAt_get hp (i + 1) (by rw [insAt_len hp]; omega)]
  by_cases h1 : i + 1 < placeOf ks n
  · rw [dif_pos (by omega), dif_pos h1]
    exact h i (by omega)
  · by_cases h2 : i + 1 = placeOf ks n
    · rw [dif_pos (by omega), dif_neg h1, dif_pos h2]
      exact (place_lt h i (by omega)).1 (by omega)
    · by_cases h3 : i = placeOf ks n
      · rw [dif_neg (by omega), dif_pos h3, dif_neg h1, dif_neg h2]
        have h4 : ¬ Op.bytesLess (ks[i]'(by omega)) n = true := fun hl => by
          have := (place_lt h i (by omega)).2 hl
          omega
        exact bl_total (hne i (by omega)) (by simpa using h4)
      · rw [dif_neg (by omega), dif_neg h3, dif_neg h1, dif_neg h2]
        have := h (i - 1) (by omega)
        simpa [show i - 1 + 1 = i by omega] using this
theorem names_set {t : Tr} {i : Nat} {n : List UInt8} {k : Tr} (hi : i < t.kids.length) (e : t.kids[i].1 = n) : (t.kids.set i (n, k)).map Prod.fst = t.names := by
  rw [List.map_set, names]
  have : t.kids.map Prod.fst = (t.kids.map Prod.fst).set i n := by
    apply List.ext_getElem (by simp)
    intro j h1 h2
    rw [List.getElem_set]
    split
    · next h => subst h; simp [e]
    · rfl
  exact this.symm
end Tr
end Go.Proofs.YtjdignaddfhohaaDoor
namespace Go.Proofs.YtjdignaddfhohaaDoor
open Go.RowKit Go.SL
namespace Tr

def look? (q : List (List UInt8)) (t : Tr) : Option (Bool × List UInt8) := (get? q t).map fun k => (k.dir, k.data)
theorem kid_iff {t : Tr} (h : Rising t.names) {m : List UInt8} {k : Tr} : t.kid? m = some k ↔ (m, k) ∈ t.kids := by
  refine ⟨kid_mem, fun hm => ?_⟩
  obtain ⟨i, hi, e⟩ := List.getElem_of_mem hm
  have := kid_at h hi
  rwa [e] at this
theorem wf_rising {d : Nat} {t : Tr} (h : Wf d t) : Rising t.names := by
  cases d with
  | zero => rw [names, h.1]; intro i hi; simp at hi
  | succ d => exact h.2.2.1
theorem wf_data {d : Nat} {t : Tr} (h : Wf d t) (hd : t.dir = true) : t.data = [] := by
  cases d with
  | zero => exact h.2.1 hd
  | succ d => exact h.2.1 hd
theorem wf_size {d : Nat} {t : Tr} (h : Wf d t) : t.data.length ≤ 8192 ∧ t.kids.length ≤ 6 := by
  cases d with
  | zero => exact ⟨h.2.2, by rw [h.1]; simp⟩
  | succ d => exact ⟨h.2.2.2.2.1, h.2.2.2.1⟩
theorem wf_kid {d : Nat} {t : Tr} (h : Wf d t) {k : List UInt8 × Tr} (hk : k ∈ t.kids) : ∃ e, d = e + 1 ∧ Wf e k.2 := by
  cases d with
  | zero => rw [h.1] at hk; cases hk
  | succ d => exact ⟨d, rfl, (h.2.2.2.2.2 k hk).2⟩
theorem kid_ins {t : Tr} (h : Rising t.names) {n : List UInt8} (hn : isIn t.names n = false) (k : Tr) (m : List UInt8) :
    (nd true [] (insAt (placeOf t.names n) (n, k) t.kids)).kid? m = if m = n then some k else t.kid? m := by
  have hr : Rising (nd true [] (insAt (placeOf t.names n) (n, k) t.kids)).names := by
    show Rising ((insAt (placeOf t.names n) (n, k) t.kids).map Prod.fst)
    rw [insAt_map]
    exact rising_ins h hn
  split
  · next e => subst e; exact (kid_iff hr).2 (insAt_mem.2 (.inl rfl))
  · next e =>
    cases hk : t.kid? m with
    | some x => exact (kid_iff hr).2 (insAt_mem.2 (.inr (kid_mem hk)))
    | none =>
      cases hk2 : (nd true [] (insAt (placeOf t.names n) (n, k) t.kids)).kid? m with
      | none => rfl
      | some x =>
        rcases insAt_mem.1 (kid_mem hk2) with h1 | h1
        · exact absurd (congrArg Prod.fst h1) e
        · rw [(kid_iff h).2 h1] at hk; cases hk
theorem kid_set {t : Tr} (h : Rising t.names) {n : List UInt8} (hn : isIn t.names n = true) (k : Tr) (m : List UInt8) :
    (nd true [] (t.kids.set (placeOf t.names n) (n, k))).kid? m = if m = n then some k else t.kid? m := by
  obtain ⟨hi, e, _⟩ := kid_place h hn
  have hr : Rising (nd true [] (t.kids.set (placeOf t.names n) (n, k))).names := by
    show Rising ((t.kids.set (placeOf t.names n) (n, k)).map Prod.fst)
    rw [names_set hi e]; exact h
  have mem : ∀ x : Tr, m ≠ n → ((m, x) ∈ t.kids.set (placeOf t.names n) (n, k) ↔ (m, x) ∈ t.kids) := fun x hm => by
    constructor
    · intro h1
      obtain ⟨j, hj, e1⟩ := List.getElem_of_mem h1
      rw [List.getElem_set] at e1
      split at e1
      · exact absurd (congrArg Prod.fst e1).symm hm
      · exact e1 ▸ List.getElem_mem _
    · intro h1
      obtain ⟨j, hj, e1⟩ := List.getElem_of_mem h1
      have hji : placeOf t.names n ≠ j := fun h2 => by
        subst h2
        rw [e1] at e
        exact hm e
      have : (t.kids.set (placeOf t.names n) (n, k))[j]'(by simpa using hj) = (m, x) := by rw [List.getElem_set_ne hji]; exact e1
      exact this ▸ List.getElem_mem _
  split
  · next hm =>
    subst hm
    refine (kid_iff hr).2 ?_
    exact List.mem_iff_getElem.2 ⟨placeOf t.names m, by simpa [kids] using hi, by simp [kids]⟩
  · next hm =>
    cases hk : t.kid? m with
    | some x => exact (kid_iff hr).2 ((mem x hm).2 (kid_mem hk))
    | none =>
      cases hk2 : (nd true [] (t.kids.set (placeOf t.names n) (n, k))).kid? m with
      | none => rfl
      | some x =>
        have := (mem x hm).1 (kid_mem hk2)
        rw [(kid_iff h).2 this] at hk; cases hk
theorem look_nil (t : Tr) : look? [] t = some (t.dir, t.data) := rfl
theorem look_cons (n : List UInt8) (r : List (List UInt8)) (t : Tr) : look? (n :: r) t = match t.kid? n with
    | none => none
    | some k => look? r k := by
  rw [look?, get?]
  cases t.kid? n <;> rfl
theorem kid_leaf (xd : Bool) (xb n : List UInt8) : (leafOf xd xb).kid? n = none := rfl

theorem with_dir : ∀ {names : List (List UInt8)} {xd : Bool} {xb : List UInt8} {t : Tr}, (withT names xd xb t).1 = 0 → t.dir = true
  | [], _, _, _, h => by cases h
  | [n], xd, xb, t, h => by
    cases hd : t.dir with
    | true => rfl
    | false => rw [withT, hd] at h; cases h
  | n :: m :: r, xd, xb, t, h => by
    cases hd : t.dir with
    | true => rfl
    | false => rw [withT, hd] at h; cases h

theorem with_look : ∀ {ns : List (List UInt8)} {xd : Bool} {xb : List UInt8} {d : Nat} {t : Tr}, Wf d t → (withT ns xd xb t).1 = 0 →
    (withT ns xd xb t).2.dir = true ∧ (withT ns xd xb t).2.data = [] ∧ ∀ q, look? q (withT ns xd xb t).2 = if q = ns then some (xd, xb) else look? q t
  | [], _, _, _, _, _, h => by cases h
  | [n], xd, xb, d, t, hw, h => by
    have hd := with_dir h
    have hr := wf_rising hw
    have hda := wf_data hw hd
    rw [withT, hd] at h ⊢
    cases hn : isIn t.names n with
    | true => rw [hn] at h; cases h
    | false =>
      rw [hn] at h
      simp only [Bool.not_false, Bool.and_self, if_true] at h ⊢
      split at h
      · cases h
      · next hc =>
        rw [if_neg hc]
        refine ⟨rfl, rfl, fun q => ?_⟩
        rcases q with _ | ⟨m, r⟩
        · rw [if_neg (by simp), look_nil, look_nil, hd, hda]; rfl
        · rw [look_cons, look_cons, kid_ins hr hn]
          by_cases hm : m = n
          · subst hm
            rw [if_pos rfl, kid_none.2 hn]
            rcases r with _ | ⟨m2, r⟩
            · simp [look_nil, leafOf, dir, data]
            · simp [look_cons, kid_leaf]
          · rw [if_neg hm, if_neg (by simp [hm])]
  | n :: m :: r, xd, xb, d, t, hw, h => by
    have hd := with_dir h
    have hr := wf_rising hw
    have hda := wf_data hw hd
    rw [withT, hd] at h ⊢
    cases hn : isIn t.names n with
    | false => rw [hn] at h; cases h
    | true =>
      rw [hn] at h
      simp only [Bool.and_self, if_true] at h ⊢
      obtain ⟨hi, e1, e2⟩ := kid_place hr hn
      have hg : t.kids.getD (placeOf t.names n) ([], zero) = t.kids[placeOf t.names n] := by
        rw [List.getD_eq_getElem?_getD, List.getElem?_eq_getElem hi]; rfl
      rw [hg] at h ⊢
      obtain ⟨d', rfl, hwk⟩ := wf_kid hw (List.getElem_mem hi)
      by_cases h0 : (withT (m :: r) xd xb t.kids[placeOf t.names n].2).1 = 0
      · rw [if_pos h0]
        obtain ⟨_, _, ih⟩ := with_look hwk h0
        refine ⟨rfl, rfl, fun q => ?_⟩
        rcases q with _ | ⟨o, s⟩
        · rw [if_neg (by simp), look_nil, look_nil, hd, hda]; rfl
        · rw [look_cons, look_cons, kid_set hr hn]
          by_cases ho : o = n
          · subst ho
            rw [if_pos rfl, e2]
            show look? s _ = _
            rw [ih s]
            by_cases hs : s = m :: r
            · subst hs; rw [if_pos rfl, if_pos rfl]
            · rw [if_neg hs, if_neg (by simp [hs])]
          · rw [if_neg ho, if_neg (by simp [ho])]
      · simp only [if_neg h0] at h
        exact absurd h h0
end Tr
end Go.Proofs.YtjdignaddfhohaaDoor
namespace Go.Proofs.YtjdignaddfhohaaDoor
open Go.RowKit Go.SL
namespace Tr

/-- why there may be no such node, as the document tells it: of what is at the names but the last, and of the last -/
def errAt (p : Option Tr) (n : List UInt8) (xb : List UInt8) : Int := match p with
  | none => 8
  | some p => if p.dir && !isIn p.names n then (if 6 < p.kids.length + 1 ∨ 8192 < xb.length then 6 else 0) else 8
theorem wf_file {d : Nat} {t : Tr} (h : Wf d t) (hd : t.dir = false) : t.kids = [] := by
  cases d with
  | zero => exact h.1
  | succ d => exact h.1 hd
theorem with_err : ∀ {ns : List (List UInt8)} {n : List UInt8} {xd : Bool} {xb : List UInt8} {d : Nat} {t : Tr}, Wf d t →
    (withT (ns ++ [n]) xd xb t).1 = errAt (get? ns t) n xb
  | [], n, xd, xb, d, t, _ => by
    show (withT [n] xd xb t).1 = errAt (some t) n xb
    rw [withT, errAt]
    split
    · split <;> rfl
    · rfl
  | o :: ns, n, xd, xb, d, t, hw => by
    obtain ⟨m, r, hmr⟩ : ∃ m r, ns ++ [n] = m :: r := by
      cases ns with
      | nil => exact ⟨n, [], rfl⟩
      | cons m r => exact ⟨m, r ++ [n], rfl⟩
    have hr := wf_rising hw
    show (withT (o :: (ns ++ [n])) xd xb t).1 = _
    rw [hmr, withT, get?]
    cases hd : t.dir with
    | false =>
      have hk : t.kid? o = none := by rw [kid?, wf_file hw hd]; rfl
      rw [hk]; rfl
    | true =>
      cases ho : isIn t.names o with
      | false =>
        rw [kid_none.2 ho]; rfl
      | true =>
        obtain ⟨hi, e1, e2⟩ := kid_place hr ho
        obtain ⟨d', rfl, hwk⟩ := wf_kid hw (List.getElem_mem hi)
        have hg : t.kids.getD (placeOf t.names o) ([], zero) = t.kids[placeOf t.names o] := by
          rw [List.getD_eq_getElem?_getD, List.getElem?_eq_getElem hi]; rfl
        have ih := with_err (ns := ns) (n := n) (xd := xd) (xb := xb) hwk
        rw [hmr] at ih
        rw [e2, hg]
        show _ = errAt (get? ns _) n xb
        rw [← ih]
        simp only [Bool.and_self, if_true]
        split
        · next h0 => exact h0.symm
        · rfl
/-- the tree is as it should be -/
theorem with_wf : ∀ {ns : List (List UInt8)} {xd : Bool} {xb : List UInt8} {d : Nat} {t : Tr}, Wf d t → ns.length ≤ d → ns.all isName = true → (xd = true → xb = []) → (withT ns xd xb t).1 = 0 → Wf d (withT ns xd xb t).2
  | [], _, _, _, _, _, _, _, _, h => by cases h
  | [n], xd, xb, d, t, hw, hl, hn, hx, h => by
    obtain ⟨d, rfl⟩ : ∃ e, d = e + 1 := ⟨d - 1, by simp at hl; omega⟩
    have hd := with_dir h
    have hr := wf_rising hw
    obtain ⟨_, _, _, w4, w5, w6⟩ := hw
    rw [withT, hd] at h ⊢
    cases hi : isIn t.names n with
    | true => rw [hi] at h; cases h
    | false =>
      rw [hi] at h
      simp only [Bool.not_false, Bool.and_self, if_true] at h ⊢
      split at h
      · cases h
      · next hc =>
        rw [if_neg hc]
        have hp : placeOf t.names n ≤ t.kids.length := by have := (find_at hr n).2.1; simpa [names] using this
        refine ⟨fun h => Bool.noConfusion (show true = false from h), fun _ => rfl, ?_, ?_, Nat.zero_le _, fun k hk => ?_⟩
        · show Rising ((insAt (placeOf t.names n) (n, leafOf xd xb) t.kids).map Prod.fst)
          rw [insAt_map]
          exact rising_ins hr hi
        · show (insAt (placeOf t.names n) (n, leafOf xd xb) t.kids).length ≤ 6
          rw [insAt_len hp]; omega
        · rcases insAt_mem.1 hk with rfl | hk
          · refine ⟨by simpa using hn, ?_⟩
            cases d with
            | zero => exact ⟨rfl, hx, by show xb.length ≤ 8192; omega⟩
            | succ d => exact ⟨fun _ => rfl, hx, fun i hi => by simp [names, leafOf, kids] at hi, Nat.zero_le _, by show xb.length ≤ 8192; omega, fun k hk => by cases hk⟩
          · exact w6 k hk
  | n :: m :: r, xd, xb, d, t, hw, hl, hn, hx, h => by
    obtain ⟨d, rfl⟩ : ∃ e, d = e + 1 := ⟨d - 1, by simp at hl; omega⟩
    have hd := with_dir h
    have hr := wf_rising hw
    obtain ⟨_, _, _, w4, w5, w6⟩ := hw
    rw [withT, hd] at h ⊢
    cases hi : isIn t.names n with
    | false => rw [hi] at h; cases h
    | true =>
      rw [hi] at h
      simp only [Bool.and_self, if_true] at h ⊢
      obtain ⟨hp, e1, e2⟩ := kid_place hr hi
      have hg : t.kids.getD (placeOf t.names n) ([], zero) = t.kids[placeOf t.names n] := by
        rw [List.getD_eq_getElem?_getD, List.getElem?_eq_getElem hp]; rfl
      rw [hg] at h ⊢
      have hwk := w6 _ (List.getElem_mem hp)
      by_cases h0 : (withT (m :: r) xd xb t.kids[placeOf t.names n].2).1 = 0
      · rw [if_pos h0]
        have ih := with_wf hwk.2 (by simp at hl ⊢; omega) (by simp at hn ⊢; exact ⟨hn.2.1, hn.2.2⟩) hx h0
        refine ⟨fun h => Bool.noConfusion (show true = false from h), fun _ => rfl, ?_, ?_, Nat.zero_le _, fun k hk => ?_⟩
        · show Rising ((t.kids.set (placeOf t.names n) _).map Prod.fst)
          rw [names_set hp e1]; exact hr
        · show (t.kids.set _ _).length ≤ 6
          rw [List.length_set]; exact w4
        · rcases List.mem_or_eq_of_mem_set hk with hk | rfl
          · exact w6 k hk
          · exact ⟨by simp at hn; exact hn.1, ih⟩
      · simp only [if_neg h0] at h
        exact absurd h h0
theorem with_zero {ns : List (List UInt8)} {xd : Bool} {xb : List UInt8} {t : Tr} (h : (withT ns xd xb t).1 ≠ 0) : (withT ns xd xb t).2 = zero := by
  rcases ns with _ | ⟨n, _ | ⟨m, r⟩⟩
  · rfl
  · rw [withT] at h ⊢
    split
    · next hc =>
      rw [if_pos hc] at h
      split
      · rfl
      · next h2 => rw [if_neg h2] at h; exact absurd rfl h
    · rfl
  · rw [withT] at h ⊢
    split
    · next hc =>
      rw [if_pos hc] at h
      simp only at h ⊢
      split
      · next h2 => rw [if_pos h2] at h; exact absurd rfl h
      · rfl
    · rfl
end Tr
end Go.Proofs.YtjdignaddfhohaaDoor
namespace Go.SL
theorem bytes_join (a b : List UInt8) : (⟨a.toArray⟩ : ByteArray) ++ ⟨b.toArray⟩ = ⟨(a ++ b).toArray⟩ := by
  apply ByteArray.ext
  simp [ByteArray.data_append]
theorem bytes_size (a : List UInt8) : (⟨a.toArray⟩ : ByteArray).size = a.length := by simp [ByteArray.size]
theorem wrap_id {n : Int} (h : 0 ≤ n ∧ n < 9223372036854775808) : IntKind.i64.wrap n = n := by
  simp only [IntKind.wrap, IntKind.bits, IntKind.signed]
  simp
  omega
theorem wrapU_id {n : Int} (h : 0 ≤ n ∧ n < 18446744073709551616) : IntKind.u64.wrap n = n := by
  simp only [IntKind.wrap, IntKind.bits, IntKind.signed]
  simp
  omega
theorem run_index_s {P : Program} {t : TypeId} (h : P.underlying t = some .string) {bs : List UInt8} {k : Nat} (hk : k < bs.length) (w : World) :
    (Instr.index t (.string ⟨bs.toArray⟩) (.int .i64 (k : Int))).run P w = .ok (.int .u8 ((bs.getD k 0).toNat : Int)) w := by
  have h1 : (⟨bs.toArray⟩ : ByteArray)[k]? = some (bs.getD k 0) := by
    rw [List.getD_eq_getElem?_getD, List.getElem?_eq_getElem hk]
    have : k < (⟨bs.toArray⟩ : ByteArray).size := by simpa [ByteArray.size] using hk
    rw [getElem?_pos (⟨bs.toArray⟩ : ByteArray) k this]
    simp [ByteArray.getElem_eq_getElem_data]
  simp [Instr.index, asIntOf, run_underlying h, h1]
theorem extract_mk (bs : List UInt8) (a b : Nat) : (⟨bs.toArray⟩ : ByteArray).extract a b = ⟨((bs.drop a).take (b - a)).toArray⟩ := by
  apply ByteArray.ext
  simp [ByteArray.data_extract]
theorem run_slice_sHi {P : Program} {t : TypeId} (h : P.underlying t = some .string) {bs : List UInt8} {k : Nat} (hk : k ≤ bs.length) (w : World) :
    (Instr.sliceAt t (.string ⟨bs.toArray⟩) none (some (.int .i64 (k : Int))) none).run P w = .ok (.string ⟨(bs.take k).toArray⟩) w := by
  have e := extract_mk bs 0 k
  simp only [List.drop_zero, Nat.sub_zero] at e
  have a1 : ((k : Int) ≤ ((⟨bs.toArray⟩ : ByteArray).size : Int)) := by rw [bytes_size]; omega
  have a2 : ¬ (⟨bs.toArray⟩ : ByteArray).size < k := by rw [bytes_size]; omega
  simp [Instr.sliceAt, Instr.slice, run_underlying h, Instr.sliceBounds, Instr.sliceBound, asIntOf, a1, a2, e]
theorem run_slice_s {P : Program} {t : TypeId} (h : P.underlying t = some .string) {bs : List UInt8} {a k : Nat} (ha : a ≤ k) (hk : k ≤ bs.length) (w : World) :
    (Instr.sliceAt t (.string ⟨bs.toArray⟩) (some (.int .i64 (a : Int))) (some (.int .i64 (k : Int))) none).run P w = .ok (.string ⟨((bs.drop a).take (k - a)).toArray⟩) w := by
  have e := extract_mk bs a k
  have a1 : ((k : Int) ≤ ((⟨bs.toArray⟩ : ByteArray).size : Int)) := by rw [bytes_size]; omega
  have a2 : ¬ (⟨bs.toArray⟩ : ByteArray).size < k := by rw [bytes_size]; omega
  have a3 : ¬ (k < a) := by omega
  simp [Instr.sliceAt, Instr.slice, run_underlying h, Instr.sliceBounds, Instr.sliceBound, asIntOf, a1, a2, a3, ha, e]
theorem run_slice_sLo {P : Program} {t : TypeId} (h : P.underlying t = some .string) {bs : List UInt8} {k : Nat} (hk : k ≤ bs.length) (w : World) :
    (Instr.sliceAt t (.string ⟨bs.toArray⟩) (some (.int .i64 (k : Int))) none none).run P w = .ok (.string ⟨(bs.drop k).toArray⟩) w := by
  have e := extract_mk bs k (⟨bs.toArray⟩ : ByteArray).size
  have e2 : ((bs.drop k).take ((⟨bs.toArray⟩ : ByteArray).size - k)) = bs.drop k := List.take_of_length_le (by rw [bytes_size]; simp)
  rw [e2] at e
  have a1 : ((k : Int) ≤ ((⟨bs.toArray⟩ : ByteArray).size : Int)) := by rw [bytes_size]; omega
  have a2 : ¬ (⟨bs.toArray⟩ : ByteArray).size < k := by rw [bytes_size]; omega
  simp [Instr.sliceAt, Instr.slice, run_underlying h, Instr.sliceBounds, Instr.sliceBound, asIntOf, a1, a2, e]
end Go.SL
namespace Go.Proofs.YtjdignaddfhohaaDoor
open Go.RowKit Go.SL
theorem joinP_len : ∀ xs : List (List UInt8), (∀ x ∈ xs, x.length ≤ 600) → (joinP xs).length ≤ xs.length * 601
  | [], _ => by simp [joinP, Lib.join_nil]
  | [a], h => by
    rw [joinP_one]
    have := h a (by simp)
    simp only [List.length_cons, List.length_nil]
    omega
  | a :: b :: t, h => by
    rw [joinP_cons a (by simp)]
    have h1 := joinP_len (b :: t) (fun x hx => h x (by simp [hx]))
    have h2 := h a (by simp)
    simp only [List.length_append, List.length_cons] at h1 ⊢
    omega
theorem joinP_snoc (x : List UInt8) : ∀ l : List (List UInt8), l ≠ [] → joinP (l ++ [x]) = joinP l ++ 47 :: x
  | [], h => absurd rfl h
  | [a], _ => by
    rw [joinP_one, List.cons_append, joinP_cons a (by simp), List.nil_append, joinP_one]
  | a :: b :: t, _ => by
    have ih := joinP_snoc x (b :: t) (by simp)
    rw [List.cons_append, joinP_cons a (by simp), ih, joinP_cons a (by simp)]
    simp
theorem splitL_names (p : List UInt8) : (splitL p).length ≤ 6 ∧ (splitL p).all isName = true := by
  unfold splitL
  split
  · simp
  · split
    · rename_i h
      split
      · rename_i h6
        exact ⟨h6, h⟩
      · simp
    · simp
theorem name_len {x : List UInt8} (h : isName x = true) : 1 ≤ x.length ∧ x.length ≤ 16 := by
  simp only [isName, Bool.and_eq_true, decide_eq_true_eq] at h
  exact h.2
theorem splitL_len (p : List UInt8) : ∀ x ∈ splitL p, x.length ≤ 600 := fun x hx => by
  have := (name_len (List.all_eq_true.1 (splitL_names p).2 x hx)).2
  omega
theorem split_ok {p : List UInt8} (h : splitE p = 0) : joinP (splitL p) = p := by
  unfold splitE at h
  unfold splitL
  split at h
  · rename_i h0
    rw [if_pos h0, h0]
    rfl
  · rename_i h0
    rw [if_neg h0]
    split at h
    · rename_i ha
      rw [if_pos ha]
      split at h
      · rename_i h6
        rw [if_pos h6]
        exact join_cuts p
      · simp at h
    · simp at h
theorem split_ne {p : List UInt8} (h : splitE p ≠ 0) : splitL p = [] := by
  unfold splitE at h
  unfold splitL
  split at h
  · simp at h
  · rename_i h0
    rw [if_neg h0]
    split at h
    · rename_i ha
      rw [if_pos ha]
      split at h
      · simp at h
      · rename_i h6
        rw [if_neg h6]
    · rename_i ha
      rw [if_neg ha]
theorem joinP_ne {xs : List (List UInt8)} (h0 : xs ≠ []) (h : xs.all isName = true) : joinP xs ≠ [] := by
  obtain ⟨a, t, rfl⟩ := List.exists_cons_of_ne_nil h0
  simp only [List.all_cons, Bool.and_eq_true] at h
  have ha := (name_len h.1).1
  intro e
  have : (joinP (a :: t)).length = 0 := by rw [e]; rfl
  cases t with
  | nil => rw [joinP_one] at this; omega
  | cons b t => rw [joinP_cons a (by simp), List.length_append] at this; omega
theorem join_split {xs : List (List UInt8)} (h0 : xs ≠ []) (h : xs.all isName = true) (h6 : xs.length ≤ 6) : splitL (joinP xs) = xs ∧ splitE (joinP xs) = 0 := by
  have hc := cuts_join xs h0 h
  have := split_good (joinP_ne h0 h) (by rw [hc]; exact h) (by rw [hc]; exact h6)
  rwa [hc] at this
theorem joins_many {xs : List (List UInt8)} (h0 : xs ≠ []) (h : xs.all isName = true) (h6 : ¬ xs.length ≤ 6) : splitL (joinP xs) = [] ∧ splitE (joinP xs) = 6 := by
  have hc := cuts_join xs h0 h
  exact split_many (joinP_ne h0 h) (by rw [hc]; exact h) (by rw [hc]; exact h6)
end Go.Proofs.YtjdignaddfhohaaDoor
namespace Go.Proofs.YtjdignaddfhohaaDoor
open Go.RowKit Go.SL

/-- an entry -/
structure En where
  path : List UInt8
  dir : Bool
  data : List UInt8
/-- the path of a path's directory, as the document reckons it -/
def parP (p : List UInt8) : List UInt8 := ((p.reverse.dropWhile fun c => c != 47).drop 1).reverse
theorem dropWhile_free : ∀ {s r : List UInt8}, (∀ c ∈ s, c ≠ 47) → (s ++ r).dropWhile (fun c => c != 47) = r.dropWhile fun c => c != 47
  | [], _, _ => rfl
  | c :: s, r, h => by
    have hc : (c != 47) = true := by simpa using h c (by simp)
    rw [List.cons_append, List.dropWhile_cons, if_pos hc]
    exact dropWhile_free fun d hd => h d (by simp [hd])
theorem parP_free {n : List UInt8} (h : ∀ c ∈ n, c ≠ 47) : parP n = [] := by
  have := dropWhile_free (s := n.reverse) (r := []) (fun c hc => h c (by simpa using hc))
  rw [List.append_nil] at this
  rw [parP, this]; rfl
theorem parP_app {a n : List UInt8} (h : ∀ c ∈ n, c ≠ 47) : parP (a ++ 47 :: n) = a := by
  have e : (a ++ 47 :: n).reverse = n.reverse ++ 47 :: a.reverse := by simp
  rw [parP, e, dropWhile_free (fun c hc => h c (by simpa using hc))]
  simp
theorem joinP_end : ∀ {q : List (List UInt8)} {n : List UInt8}, q ≠ [] → joinP (q ++ [n]) = joinP q ++ 47 :: n
  | [], _, h => absurd rfl h
  | [a], n, _ => by
    show joinP (a :: [n]) = _
    rw [joinP_cons a (by simp), joinP_one, joinP_one]
  | a :: b :: q, n, _ => by
    show joinP (a :: ((b :: q) ++ [n])) = _
    rw [joinP_cons a (by simp), joinP_end (by simp), joinP_cons a (by simp), List.append_assoc]; rfl
theorem parP_join {q : List (List UInt8)} {n : List UInt8} (h : isName n = true) : parP (joinP (q ++ [n])) = joinP q := by
  by_cases hq : q = []
  · subst hq
    rw [List.nil_append, joinP_one, parP_free (name_free h)]; rfl
  · rw [joinP_end hq, parP_app (name_free h)]
/-- of a path that is one: its names -/
theorem split_names {p : List UInt8} (h : splitE p = 0) : (splitL p).all isName = true ∧ (splitL p).length ≤ 6 ∧ joinP (splitL p) = p ∧ (splitL p = [] ↔ p = []) := by
  refine ⟨?_, ?_, split_ok h, ?_⟩
  · unfold splitL splitE at *
    split
    · rfl
    · next h0 =>
      rw [if_neg h0] at h
      split
      · next h1 =>
        rw [if_pos h1] at h
        split
        · exact h1
        · rfl
      · rfl
  · unfold splitL
    split
    · simp
    · split
      · split
        · assumption
        · simp
      · simp
  · constructor
    · intro e
      have := split_ok h
      rw [e] at this
      exact this.symm
    · rintro rfl; rfl

/-- the row says what is at any names -/
def Rel (t : Tr) (L : List En) : Prop :=
  (∀ x ∈ L, splitE x.path = 0 ∧ x.path ≠ []) ∧ (L.map En.path).Nodup ∧
  ∀ q, q ≠ [] → ∀ d b, Tr.look? q t = some (d, b) ↔ ∃ x ∈ L, splitL x.path = q ∧ x.dir = d ∧ x.data = b
def root : Tr := .nd true [] []
theorem Rel.start : Rel root [] := by
  refine ⟨fun x hx => (by cases hx), List.nodup_nil, fun q hq d b => ?_⟩
  rcases q with _ | ⟨n, r⟩
  · exact absurd rfl hq
  · constructor
    · intro h
      rw [Tr.look_cons] at h
      cases h
    · rintro ⟨x, hx, _⟩; cases hx
theorem root_wf (d : Nat) : Tr.Wf d root := by
  cases d with
  | zero => exact ⟨rfl, fun _ => rfl, Nat.zero_le _⟩
  | succ d => exact ⟨fun _ => rfl, fun _ => rfl, fun i hi => by simp [Tr.names, root, Tr.kids] at hi, Nat.zero_le _, Nat.zero_le _, fun k hk => by cases hk⟩
/-- one more -/
theorem Rel.add {t : Tr} {L : List En} {x : En} {d : Nat} (hR : Rel t L) (hw : Tr.Wf d t) (hp : splitE x.path = 0) (h : (Tr.withT (splitL x.path) x.dir x.data t).1 = 0) (hno : Tr.look? (splitL x.path) t = none) :
    Rel (Tr.withT (splitL x.path) x.dir x.data t).2 (L ++ [x]) := by
  obtain ⟨r1, r2, r3⟩ := hR
  obtain ⟨_, _, hl⟩ := Tr.with_look hw h
  obtain ⟨_, _, n3, n4⟩ := split_names hp
  have hne : x.path ≠ [] := fun e => by
    rw [n4.2 e] at h; cases h
  have hnew : ∀ y ∈ L, splitL y.path ≠ splitL x.path := fun y hy e => by
    have := (r3 (splitL x.path) (fun e2 => hne (n4.1 e2)) y.dir y.data).2 ⟨y, hy, e, rfl, rfl⟩
    rw [hno] at this; cases this
  refine ⟨fun y hy => ?_, ?_, fun q hq d b => ?_⟩
  · rcases List.mem_append.1 hy with hy | hy
    · exact r1 y hy
    · rw [List.mem_singleton.1 hy]; exact ⟨hp, hne⟩
  · rw [List.map_append, List.nodup_append]
    refine ⟨r2, by simp, fun a ha b hb => ?_⟩
    obtain ⟨y, hy, rfl⟩ := List.mem_map.1 ha
    simp only [List.map_cons, List.map_nil, List.mem_singleton] at hb
    subst hb
    exact fun e => hnew y hy (by rw [e])
  · rw [hl q]
    by_cases hqx : q = splitL x.path
    · subst hqx
      rw [if_pos rfl]
      constructor
      · intro e
        cases e
        exact ⟨x, by simp, rfl, rfl, rfl⟩
      · rintro ⟨y, hy, e1, rfl, rfl⟩
        rcases List.mem_append.1 hy with hy | hy
        · exact absurd e1 (hnew y hy)
        · rw [List.mem_singleton.1 hy]
    · rw [if_neg hqx, r3 q hq]
      constructor
      · rintro ⟨y, hy, e⟩
        exact ⟨y, by simp [hy], e⟩
      · rintro ⟨y, hy, e1, e2⟩
        rcases List.mem_append.1 hy with hy | hy
        · exact ⟨y, hy, e1, e2⟩
        · rw [List.mem_singleton.1 hy] at e1
          exact absurd e1.symm hqx
end Go.Proofs.YtjdignaddfhohaaDoor
