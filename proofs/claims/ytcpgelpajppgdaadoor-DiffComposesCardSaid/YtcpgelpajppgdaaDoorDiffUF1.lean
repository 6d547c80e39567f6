/-
  Separation lists over the model's worlds: what is known of memory is a list of assertions with disjoint footprints; the rules for loads, stores, new blocks and appends are stated over such a list. Conditions: none; plain lemmas over any program.
-/
import Derived.WalkKit
import Derived.WalkSpells
import Derived.WalkLawsBesides
import Derived.Maps.AppendAt
import Derived.Deep.AppendSrc
import Derived.Lib.ConvBytes
import Derived.ChangeKeysEq
import Derived.ProofKit
import Derived.OpenShut
import Derived.ShutString
import Derived.ChangeOld
import Derived.ChangeMaps5
import Derived.Carry
import Derived.Below
import Derived.Deep.Slices
import Derived.Deep.Fields
import Derived.ChangeSame
import Derived.StillTailTactics
import Derived.Laws.BitsAllLaws
import Derived.Laws.OwnMore
import Derived.Lib.SliceRun
import Derived.MapKept
import Derived.RangeFuncNested
import Derived.RangeFuncCalls
import Derived.RangeFuncLeaves
import Derived.OwnWalkIn
import Derived.TacticsInMore
import Derived.LoopNIn
import Derived.LoopIn
import Derived.Test.YtcpgelpajppgdaaDoorChecked
import Derived.Shelf.Lay
import Derived.Shelf.Strings.OnBuilder
import Derived.Shelf.Strings.Search3
import Derived.Shelf.Spec.SearchS
import Derived.OrdersHeld
import Derived.KernelRfl
namespace Go.SL

structure Same (w w' : World) : Prop where
  os : w'.os = w.os
  tape : w'.tape = w.tape
  output : w'.output = w.output

theorem Same.refl (w : World) : Same w w := ⟨rfl, rfl, rfl⟩
theorem Same.trans {a b c : World} (h : Same a b) (k : Same b c) : Same a c := ⟨k.os.trans h.os, k.tape.trans h.tape, k.output.trans h.output⟩

structure HProp where
  on : World → (Nat → Prop) → Prop
  stable : ∀ {w w' : World} {F : Nat → Prop}, Same w w' → w.heap.size ≤ w'.heap.size → (∀ b, F b → w'.heap[b]? = w.heap[b]?) → on w F → on w' F
  bound : ∀ {w : World} {F : Nat → Prop} {b : Nat}, on w F → F b → b < w.heap.size

def emp : HProp where
  on _ F := ∀ b, ¬ F b
  stable _ _ _ h := h
  bound h hb := (h _ hb).elim

def star (A B : HProp) : HProp where
  on w F := ∃ F1 F2, A.on w F1 ∧ B.on w F2 ∧ (∀ b, F1 b → ¬ F2 b) ∧ (∀ b, F b ↔ F1 b ∨ F2 b)
  stable := fun hs hz h ⟨F1, F2, h1, h2, hd, hF⟩ =>
    ⟨F1, F2, A.stable hs hz (fun b hb => h b ((hF b).2 (.inl hb))) h1, B.stable hs hz (fun b hb => h b ((hF b).2 (.inr hb))) h2, hd, hF⟩
  bound := fun ⟨F1, F2, h1, h2, _, hF⟩ hb => by
    rcases (hF _).1 hb with h | h
    · exact A.bound h1 h
    · exact B.bound h2 h

def all : List HProp → HProp
  | [] => emp
  | A :: l => star A (all l)

/-- what is known of a world -/
def Ent (l : List HProp) (w : World) : Prop := ∃ F, (all l).on w F

/-- a block, known whole -/
def pt (b : Nat) (o : Obj) : HProp where
  on w F := w.heap[b]? = some o ∧ ∀ x, F x ↔ x = b
  stable := fun _ _ h ⟨hb, hF⟩ => ⟨(h b ((hF b).2 rfl)).trans hb, hF⟩
  bound := fun ⟨hb, hF⟩ hx => by
    obtain rfl := (hF _).1 hx
    exact (Array.getElem?_eq_some_iff.1 hb).1

/-- a fact of no footprint -/
def pure' (p : Prop) : HProp where
  on _ F := p ∧ ∀ b, ¬ F b
  stable _ _ _ h := h
  bound h hb := (h.2 _ hb).elim

/-- what was there at the beginning, but for the blocks of S, is as it was -/
def rest (w0 : World) (S : Nat → Prop) : HProp where
  on w F := Same w0 w ∧ w0.heap.size ≤ w.heap.size ∧ (∀ b, F b ↔ b < w0.heap.size ∧ ¬ S b) ∧ ∀ b, F b → w.heap[b]? = w0.heap[b]?
  stable := fun hs hz h ⟨h1, h2, h3, h4⟩ => ⟨h1.trans hs, Nat.le_trans h2 hz, h3, fun b hb => (h b hb).trans (h4 b hb)⟩
  bound := fun ⟨_, h2, h3, _⟩ hb => Nat.lt_of_lt_of_le ((h3 _).1 hb).1 h2

/-- an assertion given by a family of lists -/
def ex {α : Sort _} (f : α → List HProp) : HProp where
  on w F := ∃ x, (all (f x)).on w F
  stable := fun hs hz h ⟨x, hx⟩ => ⟨x, (all (f x)).stable hs hz h hx⟩
  bound := fun ⟨x, hx⟩ hb => (all (f x)).bound hx hb

theorem all_append_on {l m : List HProp} {w : World} {F : Nat → Prop} : (all (l ++ m)).on w F ↔ (star (all l) (all m)).on w F := by
  induction l generalizing F with
  | nil =>
    constructor
    · intro h
      exact ⟨fun _ => False, F, fun b hb => hb, h, fun _ hb => hb.elim, fun b => by simp⟩
    · rintro ⟨F1, F2, h1, h2, hd, hF⟩
      have : F = F2 := funext fun b => propext ⟨fun hb => ((hF b).1 hb).resolve_left (h1 b), fun hb => (hF b).2 (.inr hb)⟩
      subst this
      exact h2
  | cons A l ih =>
    constructor
    · rintro ⟨F1, F2, h1, h2, hd, hF⟩
      obtain ⟨G1, G2, g1, g2, gd, gF⟩ := ih.1 h2
      refine ⟨fun b => F1 b ∨ G1 b, G2, ⟨F1, G1, h1, g1, fun b hb hb' => hd b hb ((gF b).2 (.inl hb')), fun _ => Iff.rfl⟩, g2, ?_, ?_⟩
      · rintro b (hb | hb) hb2
        · exact hd b hb ((gF b).2 (.inr hb2))
        · exact gd b hb hb2
      · intro b
        rw [hF, gF, or_assoc]
    · rintro ⟨F1, F2, ⟨G1, G2, g1, g2, gd, gF⟩, h2, hd, hF⟩
      refine ⟨G1, fun b => G2 b ∨ F2 b, g1, ih.2 ⟨G2, F2, g2, h2, fun b hb hb' => hd b ((gF b).2 (.inr hb)) hb', fun _ => Iff.rfl⟩, ?_, ?_⟩
      · rintro b hb (hb2 | hb2)
        · exact gd b hb hb2
        · exact hd b ((gF b).2 (.inl hb)) hb2
      · intro b
        rw [hF, gF, or_assoc]

theorem star_comm_on {A B : HProp} {w : World} {F : Nat → Prop} (h : (star A B).on w F) : (star B A).on w F := by
  obtain ⟨F1, F2, h1, h2, hd, hF⟩ := h
  exact ⟨F2, F1, h2, h1, fun b hb hb' => hd b hb' hb, fun b => by rw [hF, or_comm]⟩

theorem perm_on {l m : List HProp} (h : l.Perm m) {w : World} {F : Nat → Prop} (hl : (all l).on w F) : (all m).on w F := by
  induction h generalizing F with
  | nil => exact hl
  | cons A _ ih =>
    obtain ⟨F1, F2, h1, h2, hd, hF⟩ := hl
    exact ⟨F1, F2, h1, ih h2, hd, hF⟩
  | swap A B l =>
    obtain ⟨F1, F2, h1, ⟨G1, G2, g1, g2, gd, gF⟩, hd, hF⟩ := hl
    refine ⟨G1, fun b => F1 b ∨ G2 b, g1, ⟨F1, G2, h1, g2, fun b hb hb' => hd b hb ((gF b).2 (.inr hb')), fun _ => Iff.rfl⟩, ?_, ?_⟩
    · rintro b hb (hb2 | hb2)
      · exact hd b hb2 ((gF b).2 (.inl hb))
      · exact gd b hb hb2
    · intro b
      rw [hF, gF]
      constructor <;> (rintro (h | h | h) <;> simp [h])
  | trans _ _ ih1 ih2 => exact ih2 (ih1 hl)

theorem Ent.perm {l m : List HProp} {w : World} (hl : Ent l w) (h : l.Perm m) : Ent m w := let ⟨F, hF⟩ := hl; ⟨F, perm_on h hF⟩

theorem perm_front {l : List HProp} {i : Nat} {A : HProp} (h : l[i]? = some A) : l.Perm (A :: l.eraseIdx i) := by
  obtain ⟨hi, rfl⟩ := List.getElem?_eq_some_iff.1 h
  clear h
  induction l generalizing i with
  | nil => simp at hi
  | cons B l ih =>
    cases i with
    | zero => simp
    | succ i =>
      have := ih (i := i) (by simpa using hi)
      simp only [List.getElem_cons_succ, List.eraseIdx_cons_succ]
      exact (this.cons B).trans (.swap _ _ _)

/-- the i-th to the front -/
theorem Ent.front {l : List HProp} {w : World} (hl : Ent l w) (i : Nat) {A : HProp} (h : l[i]? = some A) : Ent (A :: l.eraseIdx i) w := hl.perm (perm_front h)

/-- and back to its place -/
theorem Ent.put {l : List HProp} {w : World} {i : Nat} {A : HProp} (hl : Ent (A :: l.eraseIdx i) w) (h : i < l.length) : Ent (l.set i A) w := by
  refine hl.perm ?_
  have h1 : (l.set i A)[i]? = some A := by simp [h]
  have h2 := perm_front h1
  rw [List.eraseIdx_set_eq] at h2
  exact h2.symm

theorem Ent.tail {A : HProp} {l : List HProp} {w : World} (h : Ent (A :: l) w) : Ent l w := let ⟨_, _, F2, _, h2, _⟩ := h; ⟨F2, h2⟩
theorem Ent.drop {l m : List HProp} {w : World} (h : Ent (l ++ m) w) : Ent m w := let ⟨_, hF⟩ := h; let ⟨_, F2, _, h2, _⟩ := all_append_on.1 hF; ⟨F2, h2⟩
theorem Ent.erase {l : List HProp} {w : World} (h : Ent l w) (i : Nat) : Ent (l.eraseIdx i) w := by
  by_cases hi : i < l.length
  · exact (h.front i (List.getElem?_eq_getElem hi)).tail
  · rw [List.eraseIdx_of_length_le (by omega)]; exact h

/-- THE STEP: the head's blocks may turn, new ones come, all else is as it was -/
theorem Ent.step {A : HProp} {Bs l : List HProp} {w w' : World} (h : Ent (A :: l) w) (hs : Same w w') (hz : w.heap.size ≤ w'.heap.size)
    (hup : ∀ F, A.on w F → (∀ b, b < w.heap.size → ¬ F b → w'.heap[b]? = w.heap[b]?) ∧ ∃ F', (all Bs).on w' F' ∧ ∀ b, F' b → F b ∨ w.heap.size ≤ b) : Ent (Bs ++ l) w' := by
  obtain ⟨F, F1, F2, h1, h2, hd, hF⟩ := h
  obtain ⟨hk, F', h', hF'⟩ := hup F1 h1
  have h2' : (all l).on w' F2 := (all l).stable hs hz (fun b hb => hk b ((all l).bound h2 hb) (fun h => hd b h hb)) h2
  refine ⟨_, all_append_on.2 ⟨F', F2, h', h2', ?_, fun _ => Iff.rfl⟩⟩
  intro b hb hb2
  rcases hF' b hb with h | h
  · exact hd b h hb2
  · have := (all l).bound h2 hb2
    omega

theorem Ent.step0 {Bs l : List HProp} {w w' : World} (h : Ent l w) (hs : Same w w') (hz : w.heap.size ≤ w'.heap.size)
    (hk : ∀ b, b < w.heap.size → w'.heap[b]? = w.heap[b]?) (hup : ∃ F', (all Bs).on w' F' ∧ ∀ b, F' b → w.heap.size ≤ b) : Ent (Bs ++ l) w' := by
  have h' : Ent (emp :: l) w := by
    obtain ⟨F, hF⟩ := h
    exact ⟨F, fun _ => False, F, fun _ hb => hb, hF, fun _ hb => hb.elim, fun b => by simp⟩
  refine h'.step hs hz fun F hF => ⟨fun b hb _ => hk b hb, ?_⟩
  obtain ⟨F', h1, h2⟩ := hup
  exact ⟨F', h1, fun b hb => .inr (h2 b hb)⟩

theorem Ent.drew {l : List HProp} {w : World} (h : Ent l w) : Ent l w.drew :=
  let ⟨F, hF⟩ := h; ⟨F, (all l).stable (w := w) ⟨rfl, rfl, rfl⟩ (Nat.le_refl _) (fun _ _ => rfl) hF⟩
theorem Ent.drewN {l : List HProp} {w : World} (h : Ent l w) (n : Nat) : Ent l (w.drewN n) :=
  let ⟨F, hF⟩ := h; ⟨F, (all l).stable (w := w) ⟨rfl, rfl, rfl⟩ (Nat.le_refl _) (fun _ _ => rfl) hF⟩

theorem Ent.head {b : Nat} {o : Obj} {l : List HProp} {w : World} (h : Ent (pt b o :: l) w) : w.heap[b]? = some o := let ⟨_, _, _, h1, _⟩ := h; h1.1
theorem Ent.at {b : Nat} {o : Obj} {l : List HProp} {w : World} (h : Ent l w) (i : Nat) (hi : l[i]? = some (pt b o)) : w.heap[b]? = some o := (h.front i hi).head

theorem on_single {A : HProp} {w : World} {F : Nat → Prop} (h : A.on w F) : (all [A]).on w F :=
  ⟨F, fun _ => False, h, fun _ hb => hb, fun _ _ hb => hb, fun b => by simp⟩

/-- a new block -/
theorem Ent.alloc {l : List HProp} {w : World} (h : Ent l w) (o : Obj) : Ent (pt w.heap.size o :: l) (w.alloc o) := by
  refine h.step0 (Bs := [pt w.heap.size o]) ⟨rfl, rfl, rfl⟩ (by simp) (fun b hb => RowKit.Below.heap_alloc w o b hb) ⟨fun b => b = w.heap.size, on_single ⟨heap_alloc_new w o, fun _ => Iff.rfl⟩, fun b hb => by omega⟩

/-- a block's turn, whatever the new object -/
theorem Ent.turn {b : Nat} {o o' : Obj} {l : List HProp} {w w' : World} (h : Ent l w) (i : Nat) (hi : l[i]? = some (pt b o)) (hs : Same w w') (hz : w.heap.size ≤ w'.heap.size)
    (hn : w'.heap[b]? = some o') (hk : ∀ k, k < w.heap.size → k ≠ b → w'.heap[k]? = w.heap[k]?) : Ent (l.set i (pt b o')) w' := by
  have h1 := h.front i hi
  refine Ent.put ?_ (List.getElem?_eq_some_iff.1 hi).1
  refine h1.step (Bs := [pt b o']) hs hz fun F hF => ⟨fun k hk' hkF => hk k hk' (fun e => hkF ((hF.2 k).2 e)), fun x => x = b, on_single ⟨hn, fun _ => Iff.rfl⟩, fun x hx => .inl ((hF.2 x).2 hx)⟩

theorem Ent.size {b : Nat} {o : Obj} {l : List HProp} {w : World} (h : Ent l w) (i : Nat) (hi : l[i]? = some (pt b o)) : b < w.heap.size := (Array.getElem?_eq_some_iff.1 (h.at i hi)).1

theorem Ent.cell {b : Nat} {cs : Array Value} {T : TypeId} {fz : Nat × Nat} {l : List HProp} {w : World} (h : Ent l w) (i : Nat) (hi : l[i]? = some (pt b (.cells cs T fz))) (off : Nat) : w.cell? ⟨b, off, none⟩ = cs[off]? := by
  simp [World.cell?, h.at i hi]

/-- what the list says of the world, as a fact that goes with the list -/
def Knows (l : List HProp) (p : World → Prop) : Prop := ∀ w, Ent l w → p w
theorem Knows.cons {A : HProp} {l : List HProp} {p : World → Prop} (h : Knows l p) : Knows (A :: l) p := fun w hw => h w hw.tail
theorem Knows.append {m l : List HProp} {p : World → Prop} (h : Knows l p) : Knows (m ++ l) p := fun w hw => h w hw.drop

theorem Ent.below {w0 w : World} {l : List HProp} (h : Ent l w) (i : Nat) (hi : l[i]? = some (rest w0 fun _ => False)) : RowKit.Below w0.heap.size w0 w := by
  obtain ⟨F, F1, F2, ⟨hs, hz, hF, hk⟩, _⟩ := h.front i hi
  exact ⟨hs.os, hs.tape, hs.output, hz, fun k hk' => hk k ((hF k).2 ⟨hk', fun h => h⟩)⟩

theorem Ent.start (w : World) : Ent [rest w fun _ => False] w :=
  ⟨_, on_single ⟨Same.refl w, Nat.le_refl _, fun _ => Iff.rfl, fun _ _ => rfl⟩⟩

section
variable {P : Program} {ops : Array Oper} {rest : List Oper} {o : Oper} {a : Act} {Q : Exit → Act → World → Prop} {w : World} {l : List HProp}

theorem wpl_run (hw : Region.wanted o (yielded ops a.tmps) = true) {v : Value} {w' : World} (hr : (execOp a.eval o).run P w = .ok (.value v) w')
    (h : wpList P ops Q rest (a.put o.dst v) w') : wpList P ops Q (o :: rest) a w := by
  unfold wpList
  rw [if_pos hw]
  left
  simp only [Oper.wp, hr, Oper.upon]
  exact h

theorem wpl_run_skip (hw : Region.wanted o (yielded ops a.tmps) = true) {w' : World} (hr : (execOp a.eval o).run P w = .ok .skip w')
    (h : wpList P ops Q rest (a.put o.dst undef) w') : wpList P ops Q (o :: rest) a w := by
  unfold wpList
  rw [if_pos hw]
  left
  simp only [Oper.wp, hr, Oper.upon]
  exact h

theorem run_load1 (hE : Ent l w) (i : Nat) {b : Nat} {cs : Array Value} {T : TypeId} {fz : Nat × Nat} (hi : l[i]? = some (pt b (.cells cs T fz)))
    {t : TypeId} (hA : ∀ w, (isAgg t).run P w = .ok false w) {off : Nat} {v : Value} (hv : cs[off]? = some v) :
    (Instr.loadAt t (.pointer (some ⟨b, off, none⟩))).run P w = .ok v w := by
  simp [Instr.loadAt, Instr.sureAddr, loadVar, hA, hE.cell i hi, hv]

theorem wpl_load1 (hE : Ent l w) (i : Nat) {b : Nat} {cs : Array Value} {T : TypeId} {fz : Nat × Nat} (hi : l[i]? = some (pt b (.cells cs T fz)))
    {t : TypeId} {x : Operand} (ho : o.op = .load t x) (hw : Region.wanted o (yielded ops a.tmps) = true)
    {off : Nat} (hx : a.eval x = .pointer (some ⟨b, off, none⟩)) (hA : ∀ w, (isAgg t).run P w = .ok false w) {v : Value} (hv : cs[off]? = some v)
    (h : wpList P ops Q rest (a.put o.dst v) w) : wpList P ops Q (o :: rest) a w := by
  refine wpl_run hw (w' := w) (v := v) ?_ h
  simp [execOp, ho, hx, run_load1 hE i hi hA hv]

theorem run_loadA (hE : Ent l w) (i : Nat) {b : Nat} {cs : Array Value} {T : TypeId} {fz : Nat × Nat} (hi : l[i]? = some (pt b (.cells cs T fz)))
    {t : TypeId} (hA : ∀ w, (isAgg t).run P w = .ok true w) {n : Nat} (hn : ∀ w, (Go.sizeOf t).run P w = .ok n w) {off : Nat} {vs : List Value} (hl : vs.length = n)
    (hv : ∀ j, j < n → cs[off + j]? = vs[j]?) :
    (Instr.loadAt t (.pointer (some ⟨b, off, none⟩))).run P w = .ok (.agg vs.toArray) w := by
  have hc : ∀ j v, vs[j]? = some v → w.cell? ((⟨b, off, none⟩ : Addr).add j) = some v := by
    intro j v hj
    rw [Addr.add_lit, hE.cell i hi, hv j (by rw [← hl]; exact (List.getElem?_eq_some_iff.1 hj).1), hj]
  have hr := run_loadCells_list (P := P) w ⟨b, off, none⟩ vs hc
  subst hl
  simp [Instr.loadAt, Instr.sureAddr, loadVar, hA, hn, hr]

theorem wpl_loadA (hE : Ent l w) (i : Nat) {b : Nat} {cs : Array Value} {T : TypeId} {fz : Nat × Nat} (hi : l[i]? = some (pt b (.cells cs T fz)))
    {t : TypeId} {x : Operand} (ho : o.op = .load t x) (hw : Region.wanted o (yielded ops a.tmps) = true)
    {off : Nat} (hx : a.eval x = .pointer (some ⟨b, off, none⟩)) (hA : ∀ w, (isAgg t).run P w = .ok true w) {n : Nat} (hn : ∀ w, (Go.sizeOf t).run P w = .ok n w)
    (vs : List Value) (hl : vs.length = n) (hv : ∀ j, j < n → cs[off + j]? = vs[j]?)
    (h : wpList P ops Q rest (a.put o.dst (.agg vs.toArray)) w) : wpList P ops Q (o :: rest) a w := by
  refine wpl_run hw (w' := w) (v := .agg vs.toArray) ?_ h
  simp [execOp, ho, hx, run_loadA hE i hi hA hn hl hv]

/-- a load out of memory that is known by a fact on cells -/
theorem wpl_loadC {t : TypeId} {x : Operand} (ho : o.op = .load t x) (hw : Region.wanted o (yielded ops a.tmps) = true)
    {ad : Addr} (hx : a.eval x = .pointer (some ad)) (hA : ∀ w, (isAgg t).run P w = .ok true w) {n : Nat} (hn : ∀ w, (Go.sizeOf t).run P w = .ok n w)
    (vs : List Value) (hl : vs.length = n) (hc : ∀ j v, vs[j]? = some v → w.cell? (ad.add j) = some v)
    (h : wpList P ops Q rest (a.put o.dst (.agg vs.toArray)) w) : wpList P ops Q (o :: rest) a w := by
  refine wpl_run hw (w' := w) (v := .agg vs.toArray) ?_ h
  have hr := run_loadCells_list (P := P) w ad vs hc
  subst hl
  simp [execOp, ho, hx, Instr.loadAt, Instr.sureAddr, loadVar, hA, hn, hr]

theorem setRow_same (w : World) (b : Nat) (cs : Array Value) : Same w (w.setRow b cs) := ⟨rfl, rfl, rfl⟩

/-- a block is written to: the i-th of the list -/
theorem Ent.setRow (hE : Ent l w) (i : Nat) {b : Nat} {cs : Array Value} {T : TypeId} {fz : Nat × Nat} (hi : l[i]? = some (pt b (.cells cs T fz))) (cs' : Array Value) :
    Ent (l.set i (pt b (.cells cs' T fz))) (w.setRow b cs') :=
  hE.turn i hi (setRow_same w b cs') (by simp [World.setRow]) (setRow_heap w b cs cs' T fz (hE.at i hi)) (fun k _ hk => setRow_other w b k cs' hk)

theorem run_storeV (hE : Ent l w) (i : Nat) {b : Nat} {cs : Array Value} {T : TypeId} (hi : l[i]? = some (pt b (.cells cs T (0, 0))))
    {t : TypeId} {v : Value} {n : Nat} (hn : ∀ w, (Go.sizeOf t).run P w = .ok n w) (hc : v.cells.size = n) (h1 : ∀ u ∈ v.cells.toList, u.oneCell' = true) {off : Nat} (hfit : off + n ≤ cs.size) :
    (Instr.storeAt t (.pointer (some ⟨b, off, none⟩)) v).run P w = .ok () (w.setRow b (cs.toList.take off ++ v.cells.toList ++ cs.toList.drop (off + v.cells.toList.length)).toArray) := by
  have hst := run_storeCells_at P b off T v.cells.toList 0 cs w (hE.at i hi) (by simp; omega) h1
  simp only [Nat.add_zero] at hst
  simp only [Instr.storeAt, Instr.sureAddr, storeVar, Sem.run_bind, Sem.run_pure, Result.andThen_ok, hn, hc]
  simp only [ne_eq, not_true_eq_false, if_false]
  simpa using hst

theorem wpl_store (hE : Ent l w) (i : Nat) {b : Nat} {cs : Array Value} {T : TypeId} (hi : l[i]? = some (pt b (.cells cs T (0, 0))))
    {t : TypeId} {x y : Operand} (ho : o.op = .store t x y) (hw : Region.wanted o (yielded ops a.tmps) = true)
    {off : Nat} (hx : a.eval x = .pointer (some ⟨b, off, none⟩)) {v : Value} (hy : a.eval y = v) {n : Nat} (hn : ∀ w, (Go.sizeOf t).run P w = .ok n w) (hc : v.cells.size = n)
    (h1 : ∀ u ∈ v.cells.toList, u.oneCell' = true) (hfit : off + n ≤ cs.size)
    (h : ∀ w', Ent (l.set i (pt b (.cells (cs.toList.take off ++ v.cells.toList ++ cs.toList.drop (off + v.cells.toList.length)).toArray T (0, 0)))) w' → wpList P ops Q rest (a.put o.dst undef) w') : wpList P ops Q (o :: rest) a w := by
  refine wpl_run_skip hw (w' := w.setRow b (cs.toList.take off ++ v.cells.toList ++ cs.toList.drop (off + v.cells.toList.length)).toArray) ?_ (h _ (hE.setRow i hi _))
  simp [execOp, ho, hx, hy, run_storeV hE i hi hn hc h1 hfit]

theorem wpl_box (hE : Ent l w) {t : TypeId} {x : Operand} (ho : o.op = .box t x) (hw : Region.wanted o (yielded ops a.tmps) = true) {v : Value} (hx : a.eval x = v)
    (h : ∀ b w', Ent (pt b (.cells v.cells t) :: l) w' → wpList P ops Q rest (a.put o.dst (.pointer (some ⟨b, 0, none⟩))) w') : wpList P ops Q (o :: rest) a w := by
  refine wpl_run hw (w' := w.alloc (.cells v.cells t)) (v := .pointer (some ⟨w.heap.size, 0, none⟩)) ?_ (h _ _ (hE.alloc _))
  simp [execOp, ho, hx, Instr.box, newVar, newRow]

theorem wpl_alloc (hE : Ent l w) {t : TypeId} (ho : o.op = .alloc t) (hw : Region.wanted o (yielded ops a.tmps) = true) {v : Value} (hz : ∀ w, (zeroValue t).run P w = .ok v w)
    (h : ∀ b w', Ent (pt b (.cells v.cells t) :: l) w' → wpList P ops Q rest (a.put o.dst (.pointer (some ⟨b, 0, none⟩))) w') : wpList P ops Q (o :: rest) a w := by
  refine wpl_run hw (w' := w.alloc (.cells v.cells t)) (v := .pointer (some ⟨w.heap.size, 0, none⟩)) ?_ (h _ _ (hE.alloc _))
  simp [execOp, ho, hz, Instr.alloc, newVar, newRow]

/-- an owned row, its capacity and block hidden -/
def row (e : TypeId) (size : Nat) (v : Value) (n : Nat) (xs : List Value) : HProp where
  on w F := w.ownsRow 0 e size v n xs ∧ ∀ b, F b ↔ v.ownBlock = some b
  stable := fun {w w' F} _ _ h ⟨h1, hF⟩ => by
    refine ⟨⟨h1.1, ?_⟩, hF⟩
    rcases h1.2 with h2 | ⟨g, cap, cur, rfl, hb, hg, r⟩
    · exact .inl h2
    · exact .inr ⟨g, cap, cur, rfl, hb, (h g ((hF g).2 rfl)).trans hg, r⟩
  bound := fun {w F b} ⟨h1, hF⟩ hb => (h1.lt b ((hF b).1 hb)).2

theorem Ent.owns {e : TypeId} {size : Nat} {v : Value} {n : Nat} {xs : List Value} (hE : Ent l w) (i : Nat) (hi : l[i]? = some (row e size v n xs)) : w.ownsRow 0 e size v n xs := by
  obtain ⟨F, F1, F2, ⟨h1, _⟩, _⟩ := hE.front i hi
  exact h1

/-- an empty row comes at no cost -/
theorem Ent.nil (hE : Ent l w) (e : TypeId) (size : Nat) : Ent (row e size (.slice none 0 0) 0 [] :: l) w :=
  hE.step0 (Bs := [row e size (.slice none 0 0) 0 []]) (Same.refl w) (Nat.le_refl _) (fun _ _ => rfl) ⟨fun _ => False, on_single ⟨World.ownsRow_nil _ _ _ _, fun b => by simp [Value.ownBlock]⟩, fun _ h => h.elim⟩

/-- a block of one's own as an owned row -/
theorem Ent.toRow (hE : Ent l w) (i : Nat) {b : Nat} {cs : Array Value} {e : TypeId} (hi : l[i]? = some (pt b (.cells cs e (0, 0)))) {size n cap : Nat} {xs : List Value}
    (h1 : xs.length = n * size) (hn : n ≤ cap) (hm : cap ≤ maxLen) (hs : cs.size = cap * size) (ht : cs.toList.take (n * size) = xs) :
    Ent (l.set i (row e size (.slice (some ⟨b, 0, none⟩) n cap) n xs)) w := by
  refine Ent.put ((hE.front i hi).step (Bs := [row e size (.slice (some ⟨b, 0, none⟩) n cap) n xs]) (Same.refl w) (Nat.le_refl _) fun F hF => ⟨fun _ _ _ => rfl, F, on_single ⟨⟨h1, .inr ⟨b, cap, cs, rfl, Nat.zero_le _, hF.1, hn, hm, hs, ht⟩⟩, fun x => ?_⟩, fun _ h => .inl h⟩) (List.getElem?_eq_some_iff.1 hi).1
  rw [hF.2]
  simp [Value.ownBlock, eq_comm]

theorem Ent.grown {e : TypeId} {size : Nat} {v v' : Value} {n n' : Nat} {xs xs' : List Value} {w' : World} (hE : Ent l w) (i : Nat) (hi : l[i]? = some (row e size v n xs))
    (hg : w.grownBy w' v.ownBlock) (ho : w'.ownsRow 0 e size v' n' xs') (hat : v'.ownBlock = v.ownBlock ∨ v'.ownBlock = some w.heap.size) : Ent (l.set i (row e size v' n' xs')) w' := by
  refine Ent.put ((hE.front i hi).step (Bs := [row e size v' n' xs']) ⟨hg.os, hg.tape, hg.output⟩ hg.size fun F hF => ⟨fun b hb hbF => hg.block b hb fun h => hbF ((hF.2 b).2 h.symm), fun b => v'.ownBlock = some b, on_single ⟨ho, fun _ => Iff.rfl⟩, fun b hb => ?_⟩) (List.getElem?_eq_some_iff.1 hi).1
  rcases hat with h | h
  · exact .inl ((hF.2 b).2 (h ▸ hb))
  · right
    rw [h] at hb
    simp at hb
    omega

/-- a slice value whose elements' cells are xs, in a world -/
def reads (v : Value) (n : Nat) (xs : List Value) (w : World) : Prop :=
  ∃ ao c, v = .slice ao n c ∧ (ao = none → n = 0 ∧ xs = []) ∧ ∀ ad, ao = some ad → ∀ j u, xs[j]? = some u → w.cell? (ad.add j) = some u

theorem owns_shape {e : TypeId} {size : Nat} {v : Value} {n : Nat} {xs : List Value} (h : w.ownsRow 0 e size v n xs) : ∃ ao c, v = .slice ao n c := by
  rcases h.2 with ⟨rfl, rfl⟩ | ⟨g, cap, cur, rfl, _⟩
  · exact ⟨_, _, rfl⟩
  · exact ⟨_, _, rfl⟩

theorem Ent.append {e : TypeId} {i : TypeInfo} {z : Value} {size bytes : Nat} {t : TypeId} (ty : TypeId) (hE : Ent l w) (k : Nat) {v : Value} {n : Nat} {xs : List Value} (hk : l[k]? = some (row e size v n xs))
    (ht : P.underlying t = some (.slice e)) (hi : P.info? e = some i) (hz : i.zero = some z) (hsize : i.size = size) (hby : i.bytes = bytes) (hzs : z.cells.size = size) (hsz : 0 < size)
    {x : Value} {m : Nat} {news : List Value} (hx : reads x m news w) (hl : news.length = m * size) (h1 : ∀ u ∈ news, u.oneCell' = true) (h63 : n + m ≤ maxLen) (hbytes : (n + m) * bytes ≤ 140737488355328) :
    ∃ ao' c' w', (Builtin.append_ #[t, t] ty #[v, x]).run P w = .ok (.slice ao' (n + m) c') w' ∧ Ent (l.set k (row e size (.slice ao' (n + m) c') (n + m) (xs ++ news))) w' := by
  have hown := hE.owns k hk
  obtain ⟨ao, c, rfl, hnone, hc⟩ := hx
  cases ao with
  | some ad =>
    obtain ⟨v', w', hr, h2, h3, _, h5⟩ := run_append_own_at (P := P) w 0 t ty e i z size bytes ht hi hz hsize hby hzs hsz v n xs hown ad m c news hl (hc ad rfl) h1 h63 hbytes (Nat.zero_le _)
    obtain ⟨ao', c', rfl⟩ := owns_shape h2
    exact ⟨ao', c', w', hr, hE.grown k hk h3 h2 h5⟩
  | none =>
    obtain ⟨rfl, rfl⟩ := hnone rfl
    obtain ⟨ao', c', rfl⟩ := owns_shape hown
    refine ⟨ao', c', w, ?_, by simpa using hE.grown k hk (World.grownBy.refl w _) hown (.inl rfl)⟩
    rcases hown.2 with ⟨h, rfl⟩ | ⟨g, cap, cur, h, _, _, hnc, _⟩
    all_goals cases h
    · simp [Builtin.append_, run_underlying ht, Go.sizeOf, typeInfo, hi, Builtin.lenOf, Builtin.firstCells]
    · simp [Builtin.append_, run_underlying ht, Go.sizeOf, typeInfo, hi, Builtin.lenOf, Builtin.firstCells, storeCells, hnc]

theorem wpl_append {e : TypeId} {i : TypeInfo} {z : Value} {size bytes : Nat} {t : TypeId} (hE : Ent l w) (k : Nat) {v : Value} {n : Nat} {xs : List Value} (hk : l[k]? = some (row e size v n xs))
    {s y : Operand} (ho : o.op = .call { callee := .builtin .append, args := #[s, y], argTypes := #[t, t] }) (hw : Region.wanted o (yielded ops a.tmps) = true)
    (hs : a.eval s = v) {x : Value} (hy : a.eval y = x)
    (ht : P.underlying t = some (.slice e)) (hi : P.info? e = some i) (hz : i.zero = some z) (hsize : i.size = size) (hby : i.bytes = bytes) (hzs : z.cells.size = size) (hsz : 0 < size)
    {m : Nat} {news : List Value} (hx : reads x m news w) (hl : news.length = m * size) (h1 : ∀ u ∈ news, u.oneCell' = true) (h63 : n + m ≤ maxLen) (hbytes : (n + m) * bytes ≤ 140737488355328)
    (h : ∀ ao' c' w', Ent (l.set k (row e size (.slice ao' (n + m) c') (n + m) (xs ++ news))) w' → wpList P ops Q rest (a.put o.dst (.slice ao' (n + m) c')) w') : wpList P ops Q (o :: rest) a w := by
  obtain ⟨ao', c', w', hr, hE'⟩ := hE.append (P := P) o.type k hk ht hi hz hsize hby hzs hsz hx hl h1 h63 hbytes
  refine wpl_run hw (w' := w') (v := .slice ao' (n + m) c') ?_ (h ao' c' w' hE')
  simp [execOp, ho, resolve, invoke, builtin, hs, hy, hr]

theorem reads_pt (hE : Ent l w) (i : Nat) {b : Nat} {cs : Array Value} {T : TypeId} {fz : Nat × Nat} (hi : l[i]? = some (pt b (.cells cs T fz))) {off n c : Nat} {xs : List Value}
    (h : ∀ j u, xs[j]? = some u → cs[off + j]? = some u) : reads (.slice (some ⟨b, off, none⟩) n c) n xs w :=
  ⟨_, _, rfl, fun h => (by cases h), fun ad had j u hu => by cases had; rw [Addr.add_lit, hE.cell i hi]; exact h j u hu⟩

theorem reads_row {e : TypeId} {size : Nat} {v : Value} {n : Nat} {xs : List Value} (hE : Ent l w) (i : Nat) (hi : l[i]? = some (row e size v n xs)) : reads v n xs w := by
  have h := hE.owns i hi
  rcases h.2 with ⟨rfl, rfl⟩ | ⟨g, cap, cur, rfl, _⟩
  · exact ⟨none, 0, rfl, fun _ => ⟨rfl, List.eq_nil_of_length_eq_zero (by simpa using h.1)⟩, fun _ h => (by cases h)⟩
  · exact ⟨_, _, rfl, fun h => (by cases h), fun ad had => by cases had; exact h.cells rfl⟩

theorem reads_nil (n c : Nat) (h : n = 0) (w : World) : reads (.slice none n c) n [] w := ⟨none, c, rfl, fun _ => ⟨h, rfl⟩, fun _ h => by cases h⟩

/-- opening and closing an assertion that is given by a family -/
theorem Ent.unpack {α : Sort _} {f : α → List HProp} (hE : Ent (ex f :: l) w) : ∃ x, Ent (f x ++ l) w := by
  obtain ⟨F, F1, F2, ⟨x, h1⟩, h2, hd, hF⟩ := hE
  exact ⟨x, F, all_append_on.2 ⟨F1, F2, h1, h2, hd, hF⟩⟩
theorem Ent.pack {α : Sort _} {f : α → List HProp} (x : α) (hE : Ent (f x ++ l) w) : Ent (ex f :: l) w := by
  obtain ⟨F, hF⟩ := hE
  obtain ⟨F1, F2, h1, h2, hd, hF'⟩ := all_append_on.1 hF
  exact ⟨F, F1, F2, ⟨x, h1⟩, h2, hd, hF'⟩

theorem Ent.setCell (hE : Ent l w) (i : Nat) {b : Nat} {cs : Array Value} {T : TypeId} {fz : Nat × Nat} (hi : l[i]? = some (pt b (.cells cs T fz))) (off : Nat) (v : Value) :
    Ent (l.set i (pt b (.cells (cs.setIfInBounds off v) T fz))) (w.setCell ⟨b, off, none⟩ v) := by
  refine hE.turn i hi ⟨rfl, rfl, rfl⟩ (by simp) ?_ (fun k _ hk => RowKit.Below.heap_setCell w _ v k hk)
  simp [World.setCell, Array.getElem?_modify, hE.at i hi]

theorem Ent.frozen (hE : Ent l w) (i : Nat) {b : Nat} {cs : Array Value} {T : TypeId} (hi : l[i]? = some (pt b (.cells cs T (0, 0)))) (off : Nat) : w.frozen? ⟨b, off, none⟩ = false := by
  simp [World.frozen?, hE.at i hi]

theorem hid {p : Prop} (h : p) : RowKit.Hid p := h
theorem getD_lit (l : List Value) (i : Nat) (d : Value) : l.toArray.getD i d = l.getD i d := by simp

end
attribute [irreducible] pt row rest ex pure' Ent
end Go.SL
namespace Go.SL
section
variable {P : Program} {w : World} {l : List HProp}

theorem heap_setCell_self (w : World) (g o : Nat) (cur : Array Value) (e : TypeId) (fz : Nat × Nat) (v : Value) (h : w.heap[g]? = some (.cells cur e fz)) :
    (w.setCell ⟨g, o, none⟩ v).heap[g]? = some (.cells (cur.setIfInBounds o v) e fz) := by
  simp [World.setCell, Array.getElem?_modify, h]

theorem setCells_cells (g : Nat) (e : TypeId) (fz : Nat × Nat) : ∀ (vs : List Value) (o : Nat) (w : World) (cur : Array Value), w.heap[g]? = some (.cells cur e fz) →
    ∃ cur', (w.setCells g o vs).heap[g]? = some (.cells cur' e fz) ∧ cur'.size = cur.size ∧ (∀ j, j < o → cur'[j]? = cur[j]?) ∧ (o + vs.length ≤ cur.size → ∀ j, j < vs.length → cur'[o + j]? = vs[j]?)
  | [], o, w, cur, h => ⟨cur, h, rfl, fun _ _ => rfl, fun _ j hj => by simp at hj⟩
  | v :: vs, o, w, cur, h => by
    obtain ⟨cur', h1, h2, h3, h4⟩ := setCells_cells g e fz vs (o + 1) (w.setCell ⟨g, o, none⟩ v) _ (heap_setCell_self w g o cur e fz v h)
    refine ⟨cur', h1, by simpa using h2, fun j hj => ?_, fun hfit j hj => ?_⟩
    · rw [h3 j (by omega), Array.getElem?_setIfInBounds_ne (by omega)]
    · simp only [List.length_cons] at hfit hj
      cases j with
      | zero =>
        have ho : o < cur.size := by omega
        rw [Nat.add_zero, h3 o (by omega)]
        simp [ho]
      | succ j =>
        have hsz : (cur.setIfInBounds o v).size = cur.size := by simp
        have := h4 (by omega) j (by omega)
        rw [show o + (j + 1) = o + 1 + j by omega, this]
        simp

theorem setCells_same (g : Nat) : ∀ (vs : List Value) (o : Nat) (w : World), Same w (w.setCells g o vs) ∧ (w.setCells g o vs).heap.size = w.heap.size ∧ ∀ k, k ≠ g → (w.setCells g o vs).heap[k]? = w.heap[k]?
  | [], _, w => ⟨Same.refl w, rfl, fun _ _ => rfl⟩
  | v :: vs, o, w => by
    obtain ⟨h1, h2, h3⟩ := setCells_same g vs (o + 1) (w.setCell ⟨g, o, none⟩ v)
    exact ⟨Same.trans (b := w.setCell ⟨g, o, none⟩ v) ⟨rfl, rfl, rfl⟩ h1, by rw [World.setCells, h2]; simp, fun k hk => by rw [World.setCells, h3 k hk]; exact RowKit.Below.heap_setCell w _ v k hk⟩

theorem append_src {e : TypeId} {i : TypeInfo} {z : Value} {size bytes : Nat} {t tx : TypeId} (ty : TypeId)
    (ht : P.underlying t = some (.slice e)) (hi : P.info? e = some i) (hz : i.zero = some z) (hsize : i.size = size) (hby : i.bytes = bytes) (hzs : z.cells.size = size) (hsz : 0 < size)
    {v : Value} {n : Nat} {xs : List Value} (hown : w.ownsRow 0 e size v n xs) {x : Value} {m : Nat} {news : List Value} (hs : Src P size tx x m news w) (h63 : n + m ≤ maxLen) (hbytes : (n + m) * bytes ≤ 140737488355328) :
    ∃ ao' c' w', (Builtin.append_ #[t, tx] ty #[v, x]).run P w = .ok (.slice ao' (n + m) c') w' ∧ w'.ownsRow 0 e size (.slice ao' (n + m) c') (n + m) (xs ++ news) ∧ w.grownBy w' v.ownBlock ∧
      ((Value.slice ao' (n + m) c').ownBlock = v.ownBlock ∨ (Value.slice ao' (n + m) c').ownBlock = some w.heap.size) := by
  subst hsize
  subst hby
  have hm : n + m ≤ 9223372036854775807 := by simp only [maxLen] at h63; omega
  have hlen : (xs ++ news).length = (n + m) * i.size := by rw [List.length_append, hown.1, hs.newsLen, Nat.add_mul]
  have hzero : ∀ k, (Builtin.zeroCells z.cells k).size = k * i.size := fun k => by rw [size_zeroCells, hzs]
  -- a new row
  have key : ∀ (base : Option Addr) (cap : Nat), (Builtin.firstCells i.size n (.slice base n cap)).run P w.drew = .ok xs.toArray w.drew → cap < n + m → v = .slice base n cap →
      ∃ ao' c' w', (Builtin.append_ #[t, tx] ty #[v, x]).run P w = .ok (.slice ao' (n + m) c') w' ∧ w'.ownsRow 0 e i.size (.slice ao' (n + m) c') (n + m) (xs ++ news) ∧ w.grownBy w' v.ownBlock ∧
      ((Value.slice ao' (n + m) c').ownBlock = v.ownBlock ∨ (Value.slice ao' (n + m) c').ownBlock = some w.heap.size) := by
    intro base cap hold hc hv
    have hr := run_append_grow_src w t tx ty e i z ht hi hz base n cap xs hold x m news hs hc (by omega) (growslice_fits (by omega) hbytes)
    have hge := grownCap_ge w (n + m) cap e
    refine ⟨_, _, _, by rw [hv]; exact hr, ⟨hlen, .inr ⟨w.heap.size, _, _, rfl, Nat.zero_le _, heap_alloc_new w.drew _, hge, grownCap_le_maxLen w (n + m) cap e h63, ?_, ?_⟩⟩,
      ⟨rfl, rfl, rfl, by simp, fun k hk _ => RowKit.Below.heap_alloc w.drew _ k hk⟩, .inr rfl⟩
    · rw [Array.size_append, hzero, List.size_toArray, hlen, ← Nat.add_mul]
      congr 1
      omega
    · rw [Array.toList_append, ← hlen]
      exact List.take_left
  rcases hown.2 with ⟨hv, h0⟩ | ⟨g, cap, cur, hv, _, hg, hnc, hcm, hcs, htake⟩
  · have hx : xs = [] := List.eq_nil_of_length_eq_zero (by rw [hown.1, h0]; simp)
    by_cases hm0 : m = 0
    · have hn : news = [] := List.eq_nil_of_length_eq_zero (by rw [hs.newsLen, hm0]; simp)
      subst hv h0 hx hn hm0
      refine ⟨none, 0, w, ?_, by simpa using World.ownsRow_nil w 0 e i.size, World.grownBy.refl _ _, .inl rfl⟩
      have hc := hs.cells
      rcases hs.kind with ⟨e', hk⟩ | hk <;> simp [Builtin.append_, run_underlying ht, run_underlying hk, Go.sizeOf, typeInfo, hi, hs.len, hc]
    · exact key none 0 (by subst hx h0; exact run_firstCells_none w.drew i.size 0 0 0) (by omega) (by rw [hv, h0])
  · by_cases hroom : n + m ≤ cap
    · have hfit : n * i.size + news.length ≤ cur.size := by rw [hs.newsLen, hcs, ← Nat.add_mul]; exact Nat.mul_le_mul_right _ hroom
      have hr := run_append_room_src w t tx ty e i ht hi g 0 n cap x m news hs hroom (fun j hj => by simp [World.cell?, hg]; omega) (fun j hj => by simp [World.frozen?, hg])
      obtain ⟨cur', h1, h2, h3, h4⟩ := setCells_cells g e (0, 0) news (0 + n * i.size) w cur hg
      obtain ⟨s1, s2, s3⟩ := setCells_same g news (0 + n * i.size) w
      refine ⟨_, _, _, by rw [hv]; exact hr, ⟨hlen, .inr ⟨g, cap, cur', rfl, Nat.zero_le _, h1, hroom, hcm, by rw [h2, hcs], ?_⟩⟩, ⟨s1.os, s1.tape, s1.output, Nat.le_of_eq s2.symm, fun k _ hk => s3 k fun hkg => hk (by rw [hv, hkg]; rfl)⟩, .inl (by rw [hv]; rfl)⟩
      apply List.ext_getElem?
      intro j
      rw [List.getElem?_take]
      by_cases hj : j < n * i.size
      · rw [if_pos (by rw [Nat.add_mul]; omega), Array.getElem?_toList, h3 j (by omega), List.getElem?_append_left (by rw [hown.1]; exact hj), ← htake, List.getElem?_take, if_pos hj, Array.getElem?_toList]
      · by_cases hj2 : j < (n + m) * i.size
        · have := h4 (by omega) (j - n * i.size) (by rw [hs.newsLen]; rw [Nat.add_mul] at hj2; omega)
          rw [if_pos hj2, Array.getElem?_toList, List.getElem?_append_right (by rw [hown.1]; omega), hown.1, ← this]
          congr 1
          omega
        · rw [if_neg hj2, List.getElem?_eq_none (by rw [hlen]; omega)]
    · refine key (some ⟨g, 0, none⟩) cap ?_ (by omega) hv
      have holds : ∀ j u, xs[j]? = some u → w.drew.cell? ((⟨g, 0, none⟩ : Addr).add j) = some u := hown.cells (by rw [hv]; rfl)
      exact run_firstCells_some w.drew i.size n ⟨g, 0, none⟩ n cap xs hown.1 holds

/-- append of a string onto a row of bytes -/
theorem Ent.appendS {e : TypeId} {i : TypeInfo} {t tx : TypeId} (ty : TypeId) (hE : Ent l w) (k : Nat) {v : Value} {n : Nat} {xs : List Value} (hk : l[k]? = some (row e 1 v n xs))
    (ht : P.underlying t = some (.slice e)) (htx : P.underlying tx = some .string) (hi : P.info? e = some i) (hz : i.zero = some (.int .u8 0)) (hsize : i.size = 1) (hby : i.bytes = 1) (s : ByteArray)
    (h63 : n + s.size ≤ 140737488355328) :
    ∃ ao' c' w', (Builtin.append_ #[t, tx] ty #[v, .string s]).run P w = .ok (.slice ao' (n + s.size) c') w' ∧ Ent (l.set k (row e 1 (.slice ao' (n + s.size) c') (n + s.size) (xs ++ byteCells s))) w' := by
  obtain ⟨ao', c', w', hr, h1, h2, h3⟩ := append_src ty ht hi hz hsize hby rfl (by decide) (hE.owns k hk) (Src.ofString w htx s) (by unfold maxLen; omega) (by omega)
  exact ⟨ao', c', w', hr, hE.grown k hk h2 h1 h3⟩

/-- a slice of one's own that is only read -/
def view (v : Value) (n : Nat) (xs : List Value) : HProp where
  on w F := reads v n xs w ∧ (∀ b, v.ownBlock = some b → b < w.heap.size) ∧ ∀ b, F b ↔ v.ownBlock = some b
  stable := fun {w w' F} _ hz h ⟨⟨ao, c, hv, h1, h2⟩, h3, h4⟩ => by
    refine ⟨⟨ao, c, hv, h1, fun ad had j u hu => ?_⟩, fun b hb => Nat.lt_of_lt_of_le (h3 b hb) hz, h4⟩
    have hb : F ad.block := (h4 _).2 (by rw [hv, had]; rfl)
    rw [World.cell?_of_block (w := w)]
    · exact h2 ad had j u hu
    · unfold Addr.add
      split <;> exact h _ hb
  bound := fun ⟨_, h3, h4⟩ hb => h3 _ ((h4 _).1 hb)

theorem Ent.views {v : Value} {n : Nat} {xs : List Value} (hE : Ent l w) (i : Nat) (hi : l[i]? = some (view v n xs)) : reads v n xs w := by
  have h := hE.front i hi
  unfold Ent at h
  obtain ⟨F, F1, F2, ⟨h1, _⟩, _⟩ := h
  exact h1

theorem Ent.toView {e : TypeId} {size : Nat} {v : Value} {n : Nat} {xs : List Value} (hE : Ent l w) (i : Nat) (hi : l[i]? = some (row e size v n xs)) : Ent (l.set i (view v n xs)) w := by
  have hr := reads_row hE i hi
  have ho := hE.owns i hi
  refine Ent.put ((hE.front i hi).step (Bs := [view v n xs]) (Same.refl w) (Nat.le_refl _) fun F hF => ⟨fun _ _ _ => rfl, F, on_single ⟨hr, fun b hb => (ho.lt b hb).2, ?_⟩, fun _ h => .inl h⟩) (List.getElem?_eq_some_iff.1 hi).1
  unfold row at hF
  exact hF.2

/-- where a slice of some elements lies -/
theorem reads_form {ao : Option Addr} {n c : Nat} {xs : List Value} (hr : reads (.slice ao n c) n xs w) (h0 : 0 < n) (hx : 0 < xs.length) :
    ∃ b off, ao = some ⟨b, off, none⟩ ∧ ∀ j u, xs[j]? = some u → w.cell? ⟨b, off + j, none⟩ = some u := by
  obtain ⟨ao', c', e, h1, h2⟩ := hr
  cases e
  cases ao with
  | none => have := (h1 rfl).1; omega
  | some ad =>
    have h3 := h2 ad rfl 0 _ (List.getElem?_eq_getElem hx)
    have hs : ad.spot = none := by
      simp only [Addr.add_zero'] at h3
      cases hs : ad.spot with
      | none => rfl
      | some x =>
        unfold World.cell? at h3
        split at h3
        · simp [hs] at h3
        · cases h3
    obtain ⟨b, off, sp⟩ := ad
    simp only at hs
    subst hs
    exact ⟨b, off, rfl, fun j u hu => by have := h2 _ rfl j u hu; rwa [Addr.add_lit] at this⟩

/-- a new block that reads as a slice -/
theorem Ent.newView {w' : World} {b c : Nat} {xs : List Value} {n : Nat} (hE : Ent l w) (hs : Same w w') (hz : w'.heap.size = w.heap.size + 1) (hb : b = w.heap.size) (hk : ∀ k, k < w.heap.size → w'.heap[k]? = w.heap[k]?)
    (hr : ∀ j u, xs[j]? = some u → w'.cell? ⟨b, j, none⟩ = some u) : Ent (view (.slice (some ⟨b, 0, none⟩) n c) n xs :: l) w' := by
  refine hE.step0 (Bs := [view (.slice (some ⟨b, 0, none⟩) n c) n xs]) hs (by omega) hk ⟨fun x => x = b, on_single ⟨⟨_, _, rfl, fun h => (by cases h), fun ad had j u hu => by cases had; rw [Addr.add_lit, Nat.zero_add]; exact hr j u hu⟩, fun x hx => ?_, fun x => ?_⟩, fun x hx => by omega⟩
  · simp [Value.ownBlock] at hx; omega
  · simp [Value.ownBlock, eq_comm]

theorem Ent.strBytes {src dst e : TypeId} {u : TypeDesc} (hE : Ent l w) (hs : P.underlying src = some u) (hd : P.underlying dst = some (.slice e)) (he : P.underlying e = some (.int .u8)) (s : ByteArray) :
    ∃ b c w', (convert src dst (.string s)).run P w = .ok (.slice (some ⟨b, 0, none⟩) s.size c) w' ∧ Ent (view (.slice (some ⟨b, 0, none⟩) s.size c) s.size (byteCells s) :: l) w' := by
  refine ⟨_, _, _, Lib.run_convert_string_bytes w src dst e s hs hd he, hE.newView ⟨rfl, rfl, rfl⟩ (Lib.bytesWorld_size w e s) rfl (fun k hk => Lib.bytesWorld_at_old w e s k hk) fun j u hu => ?_⟩
  obtain ⟨hj, rfl⟩ := List.getElem?_eq_some_iff.1 hu
  have hj' : j < s.size := by simpa [byteCells_length] using hj
  rw [Lib.bytesWorld_cell w e s j hj']
  have hj'' : j < s.data.toList.length := by simpa using hj'
  simp [byteCells, List.getD, List.getElem?_eq_getElem hj'']

theorem bytesToString_reads {src dst e : TypeId} (hs : P.underlying src = some (.slice e)) (he : P.underlying e = some (.int .u8)) (hd : P.underlying dst = some .string) {v : Value} {n : Nat} {bs : List UInt8}
    (hr : reads v n (bs.map fun b => Value.int .u8 b.toNat) w) (hn : n = bs.length) : (convert src dst v).run P w = .ok (.string ⟨bs.toArray⟩) w := by
  obtain ⟨ao, c, rfl, h1, h2⟩ := hr
  rw [run_convert_bytes_string w src dst e ao n c hs he hd]
  cases ao with
  | none =>
    obtain ⟨rfl, h⟩ := h1 rfl
    have : bs = [] := by simpa using h
    subst this
    simp [Conv.bytesToString, ByteArray.empty, ByteArray.emptyWithCapacity]
    rfl
  | some ad =>
    have hl := run_loadCells_list (P := P) w ad _ (h2 ad rfl)
    rw [List.length_map, ← hn] at hl
    have hm : (bs.map fun b => Value.int .u8 b.toNat) = ((bs.map fun b => (b.toNat : Int)).map (Value.int .u8)) := by simp
    rw [hm] at hl
    rw [run_bytesToString w ad n c _ hl, foldl_push_bytes]
    congr 3
    apply Array.ext'
    simp [ByteArray.empty, ByteArray.emptyWithCapacity, Function.comp_def]
    rfl
theorem wpl_bytesStr {ops : Array Oper} {rest : List Oper} {o : Oper} {a : Act} {Q : Exit → Act → World → Prop} {src dst e : TypeId} {x : Operand} (ho : o.op = .convert src dst x) (hw : Region.wanted o (yielded ops a.tmps) = true) {v : Value} (hx : a.eval x = v)
    (hs : P.underlying src = some (.slice e)) (he : P.underlying e = some (.int .u8)) (hd : P.underlying dst = some .string) {n : Nat} {bs : List UInt8}
    (hr : reads v n (bs.map fun b => Value.int .u8 b.toNat) w) (hn : n = bs.length) (h : wpList P ops Q rest (a.put o.dst (.string ⟨bs.toArray⟩)) w) : wpList P ops Q (o :: rest) a w := by
  refine wpl_run hw (w' := w) (v := .string ⟨bs.toArray⟩) ?_ h
  simp [execOp, ho, hx, bytesToString_reads hs he hd hr hn]

end
attribute [irreducible] view
end Go.SL
namespace Go.SL

/-- where the part of a slice from l on begins (at the capacity's end Go keeps the old address) -/
def cutAt (size : Nat) (ao : Option Addr) (c l : Nat) : Option Addr := if c = l then ao else ao.map (·.add (l * size))

theorem Addr.add_add (a : Addr) (m j : Nat) : (a.add m).add j = a.add (m + j) := by
  unfold Addr.add
  by_cases hm : m = 0
  · subst hm; simp
  · by_cases hj : j = 0
    · subst hj; simp [hm]
    · simp [hm, hj, Nat.add_assoc]

theorem cutAt_block (size : Nat) (ao : Option Addr) (c l n n' c' : Nat) : (Value.slice (cutAt size ao c l) n' c').ownBlock = (Value.slice ao n c).ownBlock := by
  unfold cutAt
  split
  · cases ao <;> rfl
  · cases ao with
    | none => rfl
    | some a =>
      simp only [Option.map_some, Value.ownBlock, Addr.add]
      split <;> rfl

theorem reads_cut {w : World} {size : Nat} {ao : Option Addr} {n c : Nat} {xs : List Value} (hr : reads (.slice ao n c) n xs w) (hxs : xs.length = n * size) {l h : Nat} (hlh : l ≤ h) (hn : h ≤ n) (hc : n ≤ c) :
    reads (.slice (cutAt size ao c l) (h - l) (c - l)) (h - l) ((xs.drop (l * size)).take ((h - l) * size)) w := by
  obtain ⟨ao', c', e, h1, h2⟩ := hr
  cases e
  refine ⟨_, _, rfl, ?_, ?_⟩
  · intro hnone
    have : ao = none := by
      unfold cutAt at hnone
      split at hnone
      · exact hnone
      · simpa using hnone
    obtain ⟨rfl, rfl⟩ := h1 this
    have : h = 0 := by omega
    subst this
    simp
  · intro ad had j u hu
    rw [List.getElem?_take] at hu
    split at hu
    · rename_i hj
      rw [List.getElem?_drop] at hu
      have hne : ¬ c = l := by
        intro e
        have : h - l = 0 := by omega
        rw [this] at hj
        simp at hj
      unfold cutAt at had
      rw [if_neg hne] at had
      cases ao with
      | none => simp at had
      | some a =>
        simp only [Option.map_some, Option.some.injEq] at had
        subst had
        have h3 := h2 a rfl (l * size + j) u hu
        rw [← h3, Addr.add_add]
    · cases hu

section
variable {P : Program} {ops : Array Oper} {rest : List Oper} {o : Oper} {a : Act} {Q : Exit → Act → World → Prop} {w : World} {l : List HProp}

theorem run_cut {t e : TypeId} {size : Nat} (ht : P.underlying t = some (.slice e)) (hs : ∀ w, (Go.sizeOf e).run P w = .ok size w) (ao : Option Addr) (n c : Nat) (kl kh : IntKind) (lo hi : Nat) (h1 : lo ≤ hi) (h2 : hi ≤ c) :
    (Instr.slice t (.slice ao n c) (some (.int kl lo)) (some (.int kh hi)) none).run P w = .ok (.slice (cutAt size ao c lo) (hi - lo) (c - lo)) w := by
  have a1 : ((hi : Int) ≤ (c : Int)) := by omega
  have a2 : ((lo : Int) ≤ (hi : Int)) := by omega
  simp [Instr.slice, run_underlying ht, Instr.sliceBounds, Instr.sliceBound, asIntOf, hs, a1, a2, h1, h2, cutAt]

theorem run_cut_lo {t e : TypeId} {size : Nat} (ht : P.underlying t = some (.slice e)) (hs : ∀ w, (Go.sizeOf e).run P w = .ok size w) (ao : Option Addr) (n c : Nat) (kl : IntKind) (lo : Nat) (h1 : lo ≤ n) :
    (Instr.slice t (.slice ao n c) (some (.int kl lo)) none none).run P w = .ok (.slice (cutAt size ao c lo) (n - lo) (c - lo)) w := by
  have a2 : ((lo : Int) ≤ (n : Int)) := by omega
  simp [Instr.slice, run_underlying ht, Instr.sliceBounds, Instr.sliceBound, asIntOf, hs, a2, Nat.not_lt.2 h1, h1, cutAt]

theorem run_cut_hi {t e : TypeId} {size : Nat} (ht : P.underlying t = some (.slice e)) (hs : ∀ w, (Go.sizeOf e).run P w = .ok size w) (ao : Option Addr) (n c : Nat) (kh : IntKind) (hi : Nat) (h2 : hi ≤ c) :
    (Instr.slice t (.slice ao n c) none (some (.int kh hi)) none).run P w = .ok (.slice (cutAt size ao c 0) (hi - 0) (c - 0)) w := by
  have a1 : ((hi : Int) ≤ (c : Int)) := by omega
  simp [Instr.slice, run_underlying ht, Instr.sliceBounds, Instr.sliceBound, asIntOf, hs, a1, h2, cutAt]

theorem sliceAt_slice {t e : TypeId} (ht : P.underlying t = some (.slice e)) (x : Value) (lo hi mx : Option Value) : (Instr.sliceAt t x lo hi mx).run P w = (Instr.slice t x lo hi mx).run P w := by
  simp [Instr.sliceAt, run_underlying ht]

/-- x[lo:] -/
theorem wpl_cut_lo {t e : TypeId} {size : Nat} {x lo' : Operand} (ho : o.op = .slice t x (some lo') none none) (hw : Region.wanted o (yielded ops a.tmps) = true) {ao : Option Addr} {n c : Nat} (hx : a.eval x = .slice ao n c) {kl : IntKind} {i : Int} (hl : a.eval lo' = .int kl i) (lo : Nat)
    (hi : i = (lo : Int)) (ht : P.underlying t = some (.slice e)) (hs : ∀ w, (Go.sizeOf e).run P w = .ok size w) (h1 : lo ≤ n)
    (h : wpList P ops Q rest (a.put o.dst (.slice (cutAt size ao c lo) (n - lo) (c - lo))) w) : wpList P ops Q (o :: rest) a w := by
  refine wpl_run hw (w' := w) ?_ h
  subst hi
  simp [execOp, ho, hx, hl, sliceAt_slice ht, run_cut_lo ht hs ao n c kl lo h1]

/-- x[:hi] -/
theorem wpl_cut_hi {t e : TypeId} {size : Nat} {x hi' : Operand} (ho : o.op = .slice t x none (some hi') none) (hw : Region.wanted o (yielded ops a.tmps) = true) {ao : Option Addr} {n c : Nat} (hx : a.eval x = .slice ao n c) {kh : IntKind} {i : Int} (hl : a.eval hi' = .int kh i) (hi : Nat)
    (hi2 : i = (hi : Int)) (ht : P.underlying t = some (.slice e)) (hs : ∀ w, (Go.sizeOf e).run P w = .ok size w) (h1 : hi ≤ c)
    (h : wpList P ops Q rest (a.put o.dst (.slice (cutAt size ao c 0) (hi - 0) (c - 0))) w) : wpList P ops Q (o :: rest) a w := by
  refine wpl_run hw (w' := w) ?_ h
  subst hi2
  simp [execOp, ho, hx, hl, sliceAt_slice ht, run_cut_hi ht hs ao n c kh hi h1]

/-- x[lo:hi] -/
theorem wpl_cut {t e : TypeId} {size : Nat} {x lo' hi' : Operand} (ho : o.op = .slice t x (some lo') (some hi') none) (hw : Region.wanted o (yielded ops a.tmps) = true) {ao : Option Addr} {n c : Nat} (hx : a.eval x = .slice ao n c) {kl kh : IntKind} {i j : Int} (hl : a.eval lo' = .int kl i) (hh : a.eval hi' = .int kh j) (lo hi : Nat)
    (hi1 : i = (lo : Int)) (hi2 : j = (hi : Int)) (ht : P.underlying t = some (.slice e)) (hs : ∀ w, (Go.sizeOf e).run P w = .ok size w) (h0 : lo ≤ hi) (h1 : hi ≤ c)
    (h : wpList P ops Q rest (a.put o.dst (.slice (cutAt size ao c lo) (hi - lo) (c - lo))) w) : wpList P ops Q (o :: rest) a w := by
  refine wpl_run hw (w' := w) ?_ h
  subst hi1 hi2
  simp [execOp, ho, hx, hl, hh, sliceAt_slice ht, run_cut ht hs ao n c kl kh lo hi h0 h1]

/-- a view, cut -/
theorem Ent.cutView {size : Nat} {ao : Option Addr} {n c : Nat} {xs : List Value} (hE : Ent l w) (i : Nat) (hi : l[i]? = some (view (.slice ao n c) n xs)) (hxs : xs.length = n * size) {lo h : Nat} (hlh : lo ≤ h) (hn : h ≤ n) (hc : n ≤ c) :
    Ent (l.set i (view (.slice (cutAt size ao c lo) (h - lo) (c - lo)) (h - lo) ((xs.drop (lo * size)).take ((h - lo) * size)))) w := by
  refine Ent.put ((hE.front i hi).step (Bs := [view _ _ _]) (Same.refl w) (Nat.le_refl _) fun F hF => ⟨fun _ _ _ => rfl, F, on_single ?_, fun _ h => .inl h⟩) (List.getElem?_eq_some_iff.1 hi).1
  unfold view at hF ⊢
  refine ⟨reads_cut hF.1 hxs hlh hn hc, fun b hb => hF.2.1 b ?_, fun b => ?_⟩
  · rw [cutAt_block size ao c lo n] at hb; exact hb
  · rw [hF.2.2 b, cutAt_block size ao c lo n]

/-- a slice as an array's pointer -/
theorem wpl_arrayPtr {t e : TypeId} {x : Operand} (ho : o.op = .sliceToArrayPointer t x) (hw : Region.wanted o (yielded ops a.tmps) = true) {ao : Option Addr} {n c m : Nat} (hx : a.eval x = .slice ao n c) (ht : P.underlying t = some (.array m e)) (hm : m ≤ n)
    (h : wpList P ops Q rest (a.put o.dst (.pointer ao)) w) : wpList P ops Q (o :: rest) a w := by
  refine wpl_run hw (w' := w) (v := .pointer ao) ?_ h
  simp [execOp, ho, hx, Instr.arrayAt, run_underlying ht, Nat.not_lt.2 hm]

/-- a whole array loaded from where a slice begins -/
theorem wpl_loadR {t : TypeId} {x : Operand} (ho : o.op = .load t x) (hw : Region.wanted o (yielded ops a.tmps) = true) {ad : Addr} (hx : a.eval x = .pointer (some ad))
    (hA : ∀ w, (isAgg t).run P w = .ok true w) {n : Nat} (hn : ∀ w, (Go.sizeOf t).run P w = .ok n w) {m c : Nat} {xs : List Value} (hr : reads (.slice (some ad) m c) m xs w) (hl : xs.length = n)
    (h : wpList P ops Q rest (a.put o.dst (.agg xs.toArray)) w) : wpList P ops Q (o :: rest) a w := by
  obtain ⟨ao, c', e, _, h2⟩ := hr
  cases e
  exact wpl_loadC ho hw hx hA hn xs hl (h2 ad rfl) h

/-- a whole block stored anew -/
theorem wpl_storeW (hE : Ent l w) (i : Nat) {b : Nat} {cs : Array Value} {T : TypeId} (hi : l[i]? = some (pt b (.cells cs T (0, 0))))
    {t : TypeId} {x y : Operand} (ho : o.op = .store t x y) (hw : Region.wanted o (yielded ops a.tmps) = true) (hx : a.eval x = .pointer (some ⟨b, 0, none⟩)) {xs : List Value} (hy : a.eval y = .agg xs.toArray)
    {n : Nat} (hn : ∀ w, (Go.sizeOf t).run P w = .ok n w) (hc : xs.length = n) (h1 : ∀ u ∈ xs, u.oneCell' = true) (hfit : cs.size = n)
    (h : ∀ w', Ent (l.set i (pt b (.cells xs.toArray T (0, 0)))) w' → wpList P ops Q rest (a.put o.dst undef) w') : wpList P ops Q (o :: rest) a w := by
  refine wpl_store hE i hi ho hw hx hy hn (by simpa [Value.cells] using hc) (by simpa [Value.cells] using h1) (by omega) fun w' hE' => h w' ?_
  have e : (cs.toList.take 0 ++ (Value.agg xs.toArray).cells.toList ++ cs.toList.drop (0 + (Value.agg xs.toArray).cells.toList.length)).toArray = xs.toArray := by
    simp [Value.cells, hc, ← hfit]
  rw [e] at hE'
  exact hE'

theorem wpl_loadW (hE : Ent l w) (i : Nat) {b : Nat} {xs : List Value} {T : TypeId} {fz : Nat × Nat} (hi : l[i]? = some (pt b (.cells xs.toArray T fz)))
    {t : TypeId} {x : Operand} (ho : o.op = .load t x) (hw : Region.wanted o (yielded ops a.tmps) = true)
    (hx : a.eval x = .pointer (some ⟨b, 0, none⟩)) (hA : ∀ w, (isAgg t).run P w = .ok true w) {n : Nat} (hn : ∀ w, (Go.sizeOf t).run P w = .ok n w) (hl : xs.length = n)
    (h : wpList P ops Q rest (a.put o.dst (.agg xs.toArray)) w) : wpList P ops Q (o :: rest) a w :=
  wpl_loadA hE i hi ho hw hx hA hn xs hl (fun j _ => by simp) h

/-- what a result that lies in a block reads as -/
theorem run_resultA (hE : Ent l w) (i : Nat) {b : Nat} {xs : List Value} {T : TypeId} {fz : Nat × Nat} (hi : l[i]? = some (pt b (.cells xs.toArray T fz)))
    {t : TypeId} (hA : ∀ w, (isAgg t).run P w = .ok true w) {n : Nat} (hn : ∀ w, (Go.sizeOf t).run P w = .ok n w) (hl : xs.length = n) : (loadVar t ⟨b, 0, none⟩).run P w = .ok (.agg xs.toArray) w := by
  have h := run_loadA (P := P) hE i hi hA hn (off := 0) hl (fun j _ => by simp)
  simpa [Instr.loadAt, Instr.sureAddr] using h

theorem results_cellA {fn : Func} {k : Tmp} {t : TypeId} (h : fn.results = #[.cell k t]) {tmps : Array Value} (hE : Ent l w) (i : Nat) {b : Nat} {xs : List Value} {T : TypeId} {fz : Nat × Nat} (hi : l[i]? = some (pt b (.cells xs.toArray T fz)))
    (hp : tmps.getD k undef = .pointer (some ⟨b, 0, none⟩)) (hA : ∀ w, (isAgg t).run P w = .ok true w) {n : Nat} (hn : ∀ w, (Go.sizeOf t).run P w = .ok n w) (hl : xs.length = n) : (results fn tmps).run P w = .ok (.agg xs.toArray) w := by
  have hp' : tmps[k]?.getD undef = .pointer (some ⟨b, 0, none⟩) := by simpa using hp
  simp only [results, h]
  simp [hp', asAddr, run_resultA hE i hi hA hn hl]

/-- nothing of what is known of memory is lost -/
def Keeps (w w' : World) : Prop := ∀ l, Ent l w → Ent l w'
theorem Keeps.refl (w : World) : Keeps w w := fun _ h => h
theorem Keeps.trans {a b c : World} (h : Keeps a b) (k : Keeps b c) : Keeps a c := fun l hl => k l (h l hl)
theorem Keeps.alloc (w : World) (o : Obj) : Keeps w (w.alloc o) := fun _ h => (h.alloc o).tail
theorem Keeps.drew (w : World) : Keeps w w.drew := fun _ h => h.drew

end
attribute [irreducible] cutAt
end Go.SL
namespace Go.SL
section
variable {P : Program} {w : World}

theorem run_part_byte {e : TypeId} (he : P.underlying e = some (.int .u8)) {xs : Array Value} {off : Nat} {v : Value} (hx : xs[off]? = some v) : (part e xs off).run P w = .ok v w := by
  simp [part, isAgg, run_underlying he, hx]

theorem run_eqItems_bytes (d : Nat) {e : TypeId} (he : P.underlying e = some (.int .u8)) (as1 bs : List UInt8) (hl : as1.length = bs.length) : ∀ is : List Nat, (∀ i ∈ is, i < as1.length) →
    (Op.eqItems (d + 1) e 1 (as1.map fun b => Value.int .u8 b.toNat).toArray (bs.map fun b => Value.int .u8 b.toNat).toArray is).run P w = .ok (is.all fun i => as1[i]? == bs[i]?) w
  | [], _ => by simp [Op.eqItems]
  | i :: is, h => by
    have ha : i < as1.length := h i (by simp)
    have hb : i < bs.length := by omega
    have e1 : (as1.map fun b => Value.int .u8 (b.toNat : Int)).toArray[i * 1]? = some (.int .u8 (as1[i].toNat : Int)) := by simp [ha]
    have e2 : (bs.map fun b => Value.int .u8 (b.toNat : Int)).toArray[i * 1]? = some (.int .u8 (bs[i].toNat : Int)) := by simp [hb]
    have ih := run_eqItems_bytes d he as1 bs hl is (fun j hj => h j (by simp [hj]))
    simp only [Op.eqItems, Sem.run_bind, run_part_byte he e1, run_part_byte he e2, Result.andThen_ok, run_equalIn_int w d e .u8 .u8 _ _ he]
    have e3 : ((as1[i].toNat : Int) == (bs[i].toNat : Int)) = (as1[i]? == bs[i]?) := by
      rw [List.getElem?_eq_getElem ha, List.getElem?_eq_getElem hb, Bool.eq_iff_iff]
      simp [← UInt8.toNat_inj]
      omega
    cases hc : ((as1[i].toNat : Int) == (bs[i].toNat : Int)) with
    | false => simp [List.all_cons, ← e3, hc]
    | true =>
      simp only [Bool.not_true, Bool.false_eq_true, if_false, ih, List.all_cons, ← e3, hc, Bool.true_and]

theorem all_range_eq (as1 bs : List UInt8) (hl : as1.length = bs.length) : ((List.range as1.length).all fun i => as1[i]? == bs[i]?) = (as1 == bs) := by
  rw [Bool.eq_iff_iff]
  simp only [List.all_eq_true, List.mem_range, beq_iff_eq]
  constructor
  · intro h
    apply List.ext_getElem?
    intro i
    by_cases hi : i < as1.length
    · exact h i hi
    · rw [List.getElem?_eq_none (by omega), List.getElem?_eq_none (by omega)]
  · rintro rfl i _
    rfl

theorem run_equalA (d : Nat) {t e : TypeId} {n : Nat} {i : TypeInfo} (hu : P.underlying t = some (.array n e)) (hi : P.info? e = some i) (h1 : P.cellsOf e = 1) (he : P.underlying e = some (.int .u8)) (as1 bs : List UInt8) (ha : as1.length = n) (hb : bs.length = n) :
    (Op.equalIn (d + 2) t (.agg (as1.map fun b => Value.int .u8 b.toNat).toArray) (.agg (bs.map fun b => Value.int .u8 b.toNat).toArray)).run P w = .ok (as1 == bs) w := by
  rw [run_equalIn_array w (d + 1) _ _ hu hi, h1, run_eqItems_bytes d he as1 bs (by omega) _ (by simp [ha]), ← ha, all_range_eq as1 bs (by omega)]

section
variable {ops : Array Oper} {rest : List Oper} {o : Oper} {a : Act} {Q : Exit → Act → World → Prop}
theorem wpl_eqA {t e t' : TypeId} {x y : Operand} (ho : o.op = .binOp .eql t x y t') (hw : Region.wanted o (yielded ops a.tmps) = true) {ys zs : List UInt8} {n : Nat}
    (hx : a.eval x = .agg (ys.map fun b => Value.int .u8 b.toNat).toArray) (hy : a.eval y = .agg (zs.map fun b => Value.int .u8 b.toNat).toArray)
    (hm : P.eqGuardType P.depth t = false) (hu : P.underlying t = some (.array n e)) (hi : (P.info? e).isSome = true) (h1 : P.cellsOf e = 1) (he : P.underlying e = some (.int .u8)) (ha : ys.length = n) (hb : zs.length = n)
    (h : wpList P ops Q rest (a.put o.dst (.bool (ys == zs))) w) : wpList P ops Q (o :: rest) a w := by
  obtain ⟨i, hi⟩ := Option.isSome_iff_exists.1 hi
  refine wpl_run hw (w' := w) (v := .bool (ys == zs)) ?_ h
  simp [execOp, ho, hx, hy, run_eqGuard_agg _ _ _ _ _ _ _ hm, run_eql_struct, run_equalA 9998 hu hi h1 he ys zs ha hb]

theorem wpl_neA {t e t' : TypeId} {x y : Operand} (ho : o.op = .binOp .neq t x y t') (hw : Region.wanted o (yielded ops a.tmps) = true) {ys zs : List UInt8} {n : Nat}
    (hx : a.eval x = .agg (ys.map fun b => Value.int .u8 b.toNat).toArray) (hy : a.eval y = .agg (zs.map fun b => Value.int .u8 b.toNat).toArray)
    (hm : P.eqGuardType P.depth t = false) (hu : P.underlying t = some (.array n e)) (hi : (P.info? e).isSome = true) (h1 : P.cellsOf e = 1) (he : P.underlying e = some (.int .u8)) (ha : ys.length = n) (hb : zs.length = n)
    (h : wpList P ops Q rest (a.put o.dst (.bool (!(ys == zs)))) w) : wpList P ops Q (o :: rest) a w := by
  obtain ⟨i, hi⟩ := Option.isSome_iff_exists.1 hi
  refine wpl_run hw (w' := w) (v := .bool (!(ys == zs))) ?_ h
  simp [execOp, ho, hx, hy, run_eqGuard_agg _ _ _ _ _ _ _ hm, run_neq_struct, run_equalA 9998 hu hi h1 he ys zs ha hb]
end
end
end Go.SL
namespace Go.SL
open Go.ChangeShapes Go.WideShapes Go.Deep Go.RowKit

theorem cell_lt {w : World} {p : Addr} {v : Value} (h : w.cell? p = some v) : p.block < w.heap.size := by
  by_cases hb : p.block < w.heap.size
  · exact hb
  · have : w.heap[p.block]? = none := by rw [Array.getElem?_eq_none_iff]; omega
    simp [World.cell?, this] at h

theorem reads_below {W w : World} {v : Value} {n : Nat} {xs : List Value} (bel : Below W.heap.size W w) (hr : reads v n xs W) : reads v n xs w := by
  obtain ⟨ao, c, rfl, h1, h2⟩ := hr
  refine ⟨ao, c, rfl, h1, fun ad had j u hu => ?_⟩
  have h := h2 ad had j u hu
  rw [bel.cell (cell_lt h)]
  exact h

theorem knows_start {W : World} {v : Value} {n : Nat} {xs : List Value} (hr : reads v n xs W) : Knows [rest W fun _ => False] (reads v n xs) :=
  fun _ hE => reads_below (hE.below 0 rfl) hr

theorem choose_list {α : Type} (q : Nat → α → Prop) : ∀ n : Nat, (∀ i, i < n → ∃ x, q i x) → ∃ xs : List α, xs.length = n ∧ ∀ i x, xs[i]? = some x → q i x
  | 0, _ => ⟨[], rfl, fun i x h => by simp at h⟩
  | n + 1, h => by
    obtain ⟨xs, h1, h2⟩ := choose_list q n (fun i hi => h i (by omega))
    obtain ⟨y, hy⟩ := h n (by omega)
    refine ⟨xs ++ [y], by simp [h1], fun i x hx => ?_⟩
    by_cases hi : i < xs.length
    · rw [List.getElem?_append_left hi] at hx
      exact h2 i x hx
    · rw [List.getElem?_append_right (by omega)] at hx
      have : i - xs.length = 0 := by
        have := (List.getElem?_eq_some_iff.1 hx).1
        simp at this
        omega
      rw [this] at hx
      simp at hx
      subst hx
      rwa [show i = n by omega]

theorem flatMap_get {α : Type} (f : α → List Value) (k : Nat) (hk : ∀ x, (f x).length = k) : ∀ (xs : List α) (j : Nat) (u : Value), (xs.flatMap f)[j]? = some u → 0 < k → ∃ x, xs[j / k]? = some x ∧ (f x)[j % k]? = some u
  | [], j, u, h, _ => by simp at h
  | x :: xs, j, u, h, h0 => by
    rw [List.flatMap_cons] at h
    by_cases hj : j < k
    · rw [List.getElem?_append_left (by rw [hk]; exact hj)] at h
      refine ⟨x, by rw [Nat.div_eq_of_lt hj]; rfl, by rw [Nat.mod_eq_of_lt hj]; exact h⟩
    · rw [List.getElem?_append_right (by rw [hk]; omega), hk] at h
      obtain ⟨y, h1, h2⟩ := flatMap_get f k hk xs (j - k) u h h0
      refine ⟨y, ?_, ?_⟩
      · rw [show j / k = (j - k) / k + 1 by rw [Nat.div_eq_sub_div h0 (by omega)]]
        simpa using h1
      · rw [show j % k = (j - k) % k by rw [Nat.mod_eq_sub_mod (by omega)]]
        exact h2

theorem flatMap_len {α : Type} (f : α → List Value) (k : Nat) (hk : ∀ x, (f x).length = k) : ∀ xs : List α, (xs.flatMap f).length = xs.length * k
  | [] => by simp
  | x :: xs => by rw [List.flatMap_cons, List.length_append, hk, flatMap_len f k hk xs, List.length_cons, Nat.succ_mul, Nat.add_comm]

theorem flatMap_at {α : Type} (f : α → List Value) (k : Nat) (hk : ∀ x, (f x).length = k) (xs : List α) (i j : Nat) (x : α) (u : Value) (hx : xs[i]? = some x) (hu : (f x)[j]? = some u) : (xs.flatMap f)[i * k + j]? = some u := by
  induction xs generalizing i with
  | nil => simp at hx
  | cons y ys ih =>
    have hj : j < k := by rw [← hk x]; exact (List.getElem?_eq_some_iff.1 hu).1
    rw [List.flatMap_cons]
    cases i with
    | zero =>
      simp at hx
      subst hx
      rw [List.getElem?_append_left (by rw [hk]; omega)]
      simpa using hu
    | succ i =>
      rw [List.getElem?_append_right (by rw [hk]; rw [Nat.succ_mul]; omega), hk, show (i + 1) * k + j - k = i * k + j by rw [Nat.succ_mul]; omega]
      exact ih i (by simpa using hx)

section
variable {H : Type} {enc : TypeId × Value → H} {P : Program} {w : World} {held : Bool}

/-- a slice that came in, read by its elements -/
theorem open_row {t e : TypeId} {r : Reach} {b0 : Nat} {v : Value} {d : DataW H} {ps : List MemPlace} (ht : P.underlying t = some (.slice e)) {α : Type} (cells : α → List Value) (good : α → Prop) {k : Nat} (hk : ∀ x, (cells x).length = k) (h0 : 0 < k) (hC : P.cellsOf e = k)
    (hval : Value.okWide P w r b0 t v) (h : DataW.Trod enc P w 0 (fun _ => true) held t v d ps)
    (hel : ∀ (m : Nat) (cs : List Value) (y : DataW H × List MemPlace), cs.length = k → DataW.trod enc P w 0 (fun _ => true) held m e cs = some y → ∃ x, good x ∧ cs = cells x) :
    ∃ (ao : Option Addr) (c : Nat) (xs : List α), v = .slice ao xs.length c ∧ xs.length ≤ c ∧ c ≤ maxLen ∧ (∀ x ∈ xs, good x) ∧ reads v xs.length (xs.flatMap cells) w := by
  obtain ⟨ao, len, cap, rfl⟩ := okWide_slice ht hval
  obtain ⟨fuel, hf⟩ := h
  rcases open_slice ht hf with ⟨hcs, _⟩ | ⟨a, l, c, m, n, D, Pl, hcs, _, hl, hm, hmm, _, hi⟩
  · simp [Value.cells] at hcs
    obtain ⟨rfl, rfl, rfl⟩ := hcs
    exact ⟨none, 0, [], rfl, Nat.le_refl _, Nat.zero_le _, by simp, reads_nil 0 0 rfl w⟩
  · simp [Value.cells] at hcs
    obtain ⟨rfl, rfl, rfl⟩ := hcs
    simp at hmm
    subst hmm
    obtain ⟨xs, h1, h2⟩ := choose_list (fun i x => good x ∧ ∀ j u, (cells x)[j]? = some u → w.cell? (a.add (i * k + j)) = some u) len (fun i hil => by
      obtain ⟨cs', hc, htr⟩ := hi i (by omega)
      rw [hC] at hc
      obtain ⟨_, hcl, hat⟩ := World.cells?_some hc
      obtain ⟨x, hg, rfl⟩ := hel n cs' _ hcl htr
      refine ⟨x, hg, fun j u hu => ?_⟩
      rw [← Go.Deep.add_add, hat j (by rw [← hcl]; exact (List.getElem?_eq_some_iff.1 hu).1)]
      exact hu)
    subst h1
    refine ⟨some a, _, xs, rfl, hl, hm, fun x hx => ?_, some a, _, rfl, fun h => (by cases h), fun ad had j u hu => ?_⟩
    · obtain ⟨i, hi'⟩ := List.getElem?_of_mem hx
      exact (h2 i x hi').1
    · cases had
      obtain ⟨x, hx, hu'⟩ := flatMap_get cells k hk xs j u hu h0
      have := (h2 _ _ hx).2 _ _ hu'
      rwa [show j / k * k + j % k = j by rw [Nat.mul_comm]; exact Nat.div_add_mod j k] at this

/-- a slice of bytes that came in -/
theorem open_bytes {t e : TypeId} {r : Reach} {b0 : Nat} {v : Value} {d : DataW H} {ps : List MemPlace} (ht : P.underlying t = some (.slice e)) (he : P.underlying e = some (.int .u8)) (hC : P.cellsOf e = 1)
    (hval : Value.okWide P w r b0 t v) (h : DataW.Trod enc P w 0 (fun _ => true) held t v d ps) :
    ∃ (ao : Option Addr) (c : Nat) (bs : List UInt8), v = .slice ao bs.length c ∧ bs.length ≤ c ∧ c ≤ maxLen ∧ reads v bs.length (bs.map fun b => Value.int .u8 b.toNat) w := by
  obtain ⟨ao, c, xs, h1, h2, h3, _, h4⟩ := open_row ht (fun b : UInt8 => [Value.int .u8 (b.toNat : Int)]) (fun _ => True) (k := 1) (fun _ => rfl) (by omega) hC hval h (fun m cs y hl hy => by
    obtain ⟨n, rfl, _, hw⟩ := DataW.trod_int he hy
    refine ⟨UInt8.ofNat n.toNat, trivial, ?_⟩
    obtain ⟨h1, h2⟩ : 0 ≤ n ∧ n ≤ 255 := by simpa [Lit.wf, IntKind.min, IntKind.max, IntKind.signed, IntKind.bits] using hw
    rw [UInt8.toNat_ofNat', show n.toNat % 2 ^ 8 = n.toNat by omega, Int.toNat_of_nonneg h1])
  refine ⟨ao, c, xs, h1, h2, h3, ?_⟩
  have e : ∀ l : List UInt8, l.flatMap (fun b => [Value.int .u8 (b.toNat : Int)]) = l.map fun b => Value.int .u8 b.toNat := by
    intro l
    induction l with
    | nil => rfl
    | cons x l ih => simp [List.flatMap_cons, ih]
  rwa [e] at h4
end
end Go.SL
namespace Go.SL
section
variable {w : World} {l : List HProp}

theorem Ent.fromRow (hE : Ent l w) (i : Nat) {e : TypeId} {size n : Nat} {v : Value} {xs : List Value} (hi : l[i]? = some (row e size v n xs)) (h0 : 0 < n) :
    ∃ (g cap : Nat) (cur : Array Value), v = .slice (some ⟨g, 0, none⟩) n cap ∧ n ≤ cap ∧ cap ≤ maxLen ∧ cur.size = cap * size ∧ cur.toList.take (n * size) = xs ∧ Ent (l.set i (pt g (.cells cur e (0, 0)))) w := by
  have ho := hE.owns i hi
  rcases ho.2 with ⟨rfl, rfl⟩ | ⟨g, cap, cur, rfl, hb, hg, hn, hm, hs, ht⟩
  · exact absurd h0 (by omega)
  · refine ⟨g, cap, cur, rfl, hn, hm, hs, ht, Ent.put ((hE.front i hi).step (Bs := [pt g (.cells cur e (0, 0))]) (Same.refl w) (Nat.le_refl _) fun F hF => ⟨fun _ _ _ => rfl, F, on_single ?_, fun _ h => .inl h⟩) (List.getElem?_eq_some_iff.1 hi).1⟩
    unfold row at hF
    unfold pt
    exact ⟨hg, fun x => by rw [hF.2]; simp [Value.ownBlock, eq_comm]⟩

/-- a cell of a row of one-cell elements is written -/
theorem Ent.backRow (hE : Ent l w) (i : Nat) {g cap n k : Nat} {cur : Array Value} {e : TypeId} {u : Value} {xs : List Value} (hi : l[i]? = some (pt g (.cells (cur.setIfInBounds k u) e (0, 0))))
    (hn : n ≤ cap) (hm : cap ≤ maxLen) (hs : cur.size = cap * 1) (ht : cur.toList.take (n * 1) = xs) : Ent (l.set i (row e 1 (.slice (some ⟨g, 0, none⟩) n cap) n (xs.set k u))) w := by
  refine hE.toRow i hi ?_ hn hm (by simpa using hs) ?_
  · rw [List.length_set, ← ht, List.length_take, Array.length_toList, hs]
    omega
  · rw [Array.toList_setIfInBounds, ← ht, List.take_set]
end
end Go.SL
namespace Go.SL
section
variable {P : Program} {ops : Array Oper} {rest : List Oper} {o : Oper} {a : Act} {Q : Exit → Act → World → Prop} {w : World} {l : List HProp}

/-- the number of cells of a type's zero value -/
def zeroSize (P : Program) (t : TypeId) : Option Nat := (P.info? t).bind fun i => i.zero.map (·.cells.size)

theorem run_zero {t : TypeId} {n : Nat} (h : zeroSize P t = some n) : ∃ v : Value, v.cells.size = n ∧ ∀ w : World, (zeroValue t).run P w = .ok v w := by
  unfold zeroSize at h
  cases hi : P.info? t with
  | none => simp [hi] at h
  | some i =>
    cases hz : i.zero with
    | none => simp [hi, hz] at h
    | some v => exact ⟨v, by simpa [hi, hz] using h, fun w => by simp [zeroValue, typeInfo, hi, hz]⟩

theorem wpl_allocN (hE : Ent l w) {t : TypeId} (ho : o.op = .alloc t) (hw : Region.wanted o (yielded ops a.tmps) = true) {n : Nat} (hz : zeroSize P t = some n)
    (h : ∀ b (cs : List Value) w', cs.length = n → Ent (pt b (.cells cs.toArray t) :: l) w' → wpList P ops Q rest (a.put o.dst (.pointer (some ⟨b, 0, none⟩))) w') : wpList P ops Q (o :: rest) a w := by
  obtain ⟨v, hv, hr⟩ := run_zero hz
  exact wpl_alloc hE ho hw hr fun b w' hE' => h b v.cells.toList w' (by simpa using hv) (by simpa using hE')

/-- a whole value written over the whole of a block -/
theorem wpl_storeN (hE : Ent l w) (i : Nat) {b : Nat} {cs : List Value} {T : TypeId} (hi : l[i]? = some (pt b (.cells cs.toArray T (0, 0))))
    {t : TypeId} {x y : Operand} (ho : o.op = .store t x y) (hw : Region.wanted o (yielded ops a.tmps) = true)
    (hx : a.eval x = .pointer (some ⟨b, 0, none⟩)) {xs : List Value} (hy : a.eval y = .agg xs.toArray) {n : Nat} (hn : ∀ w, (Go.sizeOf t).run P w = .ok n w) (hc : xs.length = n)
    (h1 : ∀ u ∈ xs, u.oneCell' = true) (hfit : cs.length = n)
    (h : ∀ w', Ent (l.set i (pt b (.cells xs.toArray T (0, 0)))) w' → wpList P ops Q rest (a.put o.dst undef) w') : wpList P ops Q (o :: rest) a w := by
  refine wpl_store hE i hi ho hw hx hy hn (by simpa [Value.cells] using hc) (by simpa [Value.cells] using h1) (by simp; omega) fun w' hE' => h w' ?_
  have e : (cs.toArray.toList.take 0 ++ (Value.agg xs.toArray).cells.toList ++ cs.toArray.toList.drop (0 + (Value.agg xs.toArray).cells.toList.length)).toArray = xs.toArray := by
    simp [Value.cells, hc, ← hfit]
  rw [e] at hE'
  exact hE'

theorem Ent.rowIs (hE : Ent l w) (i : Nat) {e : TypeId} {size n c : Nat} {ao : Option Addr} {xs : List Value} (hi : l[i]? = some (row e size (.slice ao n c) n xs)) (h0 : 0 < n) :
    ∃ g, ao = some ⟨g, 0, none⟩ ∧ n ≤ c ∧ c ≤ maxLen := by
  obtain ⟨g, cap, cur, hv, h1, h2, _⟩ := hE.fromRow i hi h0
  cases hv
  exact ⟨g, rfl, h1, h2⟩

theorem Ent.rowCell (hE : Ent l w) (i : Nat) {e : TypeId} {size n c g : Nat} {xs : List Value} (hi : l[i]? = some (row e size (.slice (some ⟨g, 0, none⟩) n c) n xs)) {j : Nat} {u : Value} (hu : xs[j]? = some u) : w.cell? ⟨g, j, none⟩ = some u := by
  obtain ⟨ao, c', e1, _, h⟩ := reads_row hE i hi
  cases e1
  have := h _ rfl j u hu
  rwa [Addr.add_lit, Nat.zero_add] at this

/-- the cells of a row, a part of them written anew -/
def splice (xs : List Value) (off : Nat) (ys : List Value) : List Value := xs.take off ++ ys ++ xs.drop (off + ys.length)

theorem splice_length (xs : List Value) (off : Nat) (ys : List Value) (h : off + ys.length ≤ xs.length) : (splice xs off ys).length = xs.length := by
  simp only [splice, List.length_append, List.length_take, List.length_drop]
  omega

theorem take_put (cs : List Value) (m off : Nat) (ys : List Value) (h : off + ys.length ≤ m) (hm : m ≤ cs.length) : (splice cs off ys).take m = splice (cs.take m) off ys := by
  unfold splice
  apply List.ext_getElem?
  intro j
  have l1 : (cs.take off).length = off := by rw [List.length_take]; omega
  have l3 : (cs.take off ++ ys).length = off + ys.length := by rw [List.length_append, l1]
  have e1 : (cs.take m).take off = cs.take off := by rw [List.take_take, Nat.min_eq_left (by omega)]
  have A : ∀ zs : List Value, (cs.take off ++ ys ++ zs)[j]? = if j < off + ys.length then (cs.take off ++ ys)[j]? else zs[j - (off + ys.length)]? := by
    intro zs
    split
    · rw [List.getElem?_append_left (by omega)]
    · rw [List.getElem?_append_right (by omega), l3]
  rw [List.getElem?_take, e1, A, A]
  by_cases hj : j < off + ys.length
  · rw [if_pos (by omega), if_pos hj, if_pos hj]
  · rw [if_neg hj, if_neg hj, List.getElem?_drop, List.getElem?_drop, List.getElem?_take]
    rw [show off + ys.length + (j - (off + ys.length)) = j by omega]

/-- the elements' cells of a row of things of so many cells, where each is so long -/
theorem flatMap_at' {α : Type} (f : α → List Value) (k : Nat) : ∀ (xs : List α), (∀ x ∈ xs, (f x).length = k) → ∀ (i j : Nat) (x : α) (u : Value), xs[i]? = some x → (f x)[j]? = some u → (xs.flatMap f)[i * k + j]? = some u
  | [], _, _, _, _, _, hx, _ => by simp at hx
  | y :: ys, hk, i, j, x, u, hx, hu => by
    have hxm : x ∈ y :: ys := List.mem_of_getElem? hx
    have hj : j < k := by rw [← hk x hxm]; exact (List.getElem?_eq_some_iff.1 hu).1
    rw [List.flatMap_cons]
    cases i with
    | zero =>
      simp at hx
      subst hx
      rw [List.getElem?_append_left (by rw [hk y (by simp)]; omega)]
      simpa using hu
    | succ i =>
      rw [List.getElem?_append_right (by rw [hk y (by simp), Nat.succ_mul]; omega), hk y (by simp), show (i + 1) * k + j - k = i * k + j by rw [Nat.succ_mul]; omega]
      exact flatMap_at' f k ys (fun z hz => hk z (by simp [hz])) i j x u (by simpa using hx) hu

theorem flatMap_len' {α : Type} (f : α → List Value) (k : Nat) : ∀ xs : List α, (∀ x ∈ xs, (f x).length = k) → (xs.flatMap f).length = xs.length * k
  | [], _ => by simp
  | x :: xs, h => by rw [List.flatMap_cons, List.length_append, h x (by simp), flatMap_len' f k xs (fun y hy => h y (by simp [hy])), List.length_cons, Nat.succ_mul, Nat.add_comm]

theorem flatMap_set' {α : Type} (f : α → List Value) (k : Nat) : ∀ (xs : List α) (i : Nat) (y : α), (∀ x ∈ xs, (f x).length = k) → (f y).length = k → i < xs.length →
    (xs.set i y).flatMap f = (xs.flatMap f).take (i * k) ++ f y ++ (xs.flatMap f).drop (i * k + k)
  | [], i, y, _, _, h => by simp at h
  | x :: xs, 0, y, hk, hy, _ => by
    have hx := hk x (by simp)
    simp only [List.set_cons_zero, List.flatMap_cons, Nat.zero_mul, List.take_zero, List.nil_append, Nat.zero_add]
    rw [List.drop_append, hx, List.drop_eq_nil_of_le (by omega)]
    simp
  | x :: xs, i + 1, y, hk, hy, h => by
    have hx := hk x (by simp)
    simp only [List.set_cons_succ, List.flatMap_cons]
    rw [flatMap_set' f k xs i y (fun z hz => hk z (by simp [hz])) hy (by simpa using h)]
    rw [show (i + 1) * k = (f x).length + i * k by rw [hx, Nat.succ_mul, Nat.add_comm], List.take_length_add_append, Nat.add_assoc, List.drop_length_add_append]
    simp

theorem splice_flatMap {α : Type} (f : α → List Value) (k : Nat) (xs : List α) (i : Nat) (y : α) (h : ∀ x ∈ xs, (f x).length = k) (hy : (f y).length = k) (hi : i < xs.length) : splice (xs.flatMap f) (i * k) (f y) = (xs.set i y).flatMap f := by
  rw [flatMap_set' f k xs i y h hy hi, splice, hy]

theorem and_one (x m : Nat) (hx : x < 256) : (bits .and .u8 ((x : Int) / 2 ^ m) 1 == 1) = (x / 2 ^ m % 2 == 1) := by
  have h1 : ((x : Int) / 2 ^ m) = ((x / 2 ^ m : Nat) : Int) := by push_cast; rfl
  have h2 : x / 2 ^ m < 256 := Nat.lt_of_le_of_lt (Nat.div_le_self _ _) hx
  rw [h1, show (1 : Int) = ((1 : Nat) : Int) from rfl, u8_and_nat _ _ h2 (by omega), Nat.and_one_is_mod]
  rw [Bool.eq_iff_iff]
  simp only [beq_iff_eq]
  omega

theorem Ent.storeRow (hE : Ent l w) (i : Nat) {e : TypeId} {size n c g off : Nat} {xs ys : List Value} (hi : l[i]? = some (row e size (.slice (some ⟨g, 0, none⟩) n c) n xs)) {t : TypeId} {v : Value} {k : Nat}
    (hn : ∀ w, (Go.sizeOf t).run P w = .ok k w) (hv : v.cells.toList = ys) (hk : ys.length = k) (h1 : ∀ u ∈ ys, u.oneCell' = true) (hfit : off + k ≤ n * size) :
    ∃ w', (Instr.storeAt t (.pointer (some ⟨g, off, none⟩)) v).run P w = .ok () w' ∧ Ent (l.set i (row e size (.slice (some ⟨g, 0, none⟩) n c) n (splice xs off ys))) w' := by
  have hl : i < l.length := (List.getElem?_eq_some_iff.1 hi).1
  have h0 : 0 < n ∨ n = 0 := by omega
  have hxs : xs.length = n * size := (hE.owns i hi).1
  obtain ⟨g', cap, cur, hv', hn1, hm1, hs1, ht1, hE1⟩ : ∃ (g' cap : Nat) (cur : Array Value), Value.slice (some ⟨g, 0, none⟩) n c = .slice (some ⟨g', 0, none⟩) n cap ∧ n ≤ cap ∧ cap ≤ maxLen ∧ cur.size = cap * size ∧ cur.toList.take (n * size) = xs ∧ Ent (l.set i (pt g' (.cells cur e (0, 0)))) w := by
    have ho := hE.owns i hi
    rcases ho.2 with ⟨h, _⟩ | ⟨g', cap, cur, hv, hb, hg, hn, hm, hs, ht⟩
    · cases h
    · refine ⟨g', cap, cur, hv, hn, hm, hs, ht, Ent.put ((hE.front i hi).step (Bs := [pt g' (.cells cur e (0, 0))]) (Same.refl w) (Nat.le_refl _) fun F hF => ⟨fun _ _ _ => rfl, F, on_single ?_, fun _ h => .inl h⟩) hl⟩
      unfold row at hF
      unfold pt
      refine ⟨hg, fun x => ?_⟩
      rw [hF.2]
      cases hv
      simp [Value.ownBlock, eq_comm]
  cases hv'
  have hcs : off + k ≤ cur.size := by rw [hs1]; exact Nat.le_trans hfit (Nat.mul_le_mul_right _ hn1)
  have hr := run_storeV (P := P) hE1 i (b := g) (cs := cur) (T := e) (by simp [hl]) hn (v := v) (off := off) (by rw [← hk, ← hv]; simp) (by rw [hv]; exact h1) hcs
  refine ⟨_, hr, ?_⟩
  have hE2 := hE1.setRow i (b := g) (cs := cur) (T := e) (fz := (0, 0)) (by simp [hl]) (splice cur.toList off ys).toArray
  rw [List.set_set] at hE2
  have hE3 := hE2.toRow i (b := g) (cs := (splice cur.toList off ys).toArray) (e := e) (by simp [hl]) (size := size) (n := n) (cap := c) (xs := splice xs off ys) (by rw [splice_length _ _ _ (by rw [hxs, hk]; exact hfit), hxs]) hn1 hm1
    (by simp only [List.size_toArray]; rw [splice_length _ _ _ (by rw [hk]; simpa using hcs)]; simpa using hs1)
    (by rw [← ht1]; exact take_put _ _ _ _ (by rw [hk]; exact hfit) (by simp only [Array.length_toList]; rw [hs1]; exact Nat.mul_le_mul_right _ hn1))
  rw [List.set_set] at hE3
  rw [hv]
  exact hE3

theorem wpl_storeRow (hE : Ent l w) (i : Nat) {e : TypeId} {size n c g off : Nat} {xs ys : List Value} (hi : l[i]? = some (row e size (.slice (some ⟨g, 0, none⟩) n c) n xs)) {t : TypeId} {x y : Operand} {v : Value} {k : Nat}
    (ho : o.op = .store t x y) (hw : Region.wanted o (yielded ops a.tmps) = true) (hx : a.eval x = .pointer (some ⟨g, off, none⟩)) (hy : a.eval y = v)
    (hn : ∀ w, (Go.sizeOf t).run P w = .ok k w) (hv : v.cells.toList = ys) (hk : ys.length = k) (h1 : ∀ u ∈ ys, u.oneCell' = true) (hfit : off + k ≤ n * size)
    (h : ∀ w', Ent (l.set i (row e size (.slice (some ⟨g, 0, none⟩) n c) n (splice xs off ys))) w' → wpList P ops Q rest (a.put o.dst undef) w') : wpList P ops Q (o :: rest) a w := by
  obtain ⟨w', hr, hE'⟩ := hE.storeRow (P := P) i hi hn hv hk h1 hfit
  refine wpl_run_skip hw (w' := w') ?_ (h w' hE')
  simp [execOp, ho, hx, hy, hr]

theorem wpl_storeRowA (hE : Ent l w) (i : Nat) {e : TypeId} {size n c g off : Nat} {xs : List Value} (ys : List Value) (hi : l[i]? = some (row e size (.slice (some ⟨g, 0, none⟩) n c) n xs)) {t : TypeId} {x y : Operand} {k : Nat}
    (ho : o.op = .store t x y) (hw : Region.wanted o (yielded ops a.tmps) = true) (hx : a.eval x = .pointer (some ⟨g, off, none⟩)) (hy : a.eval y = .agg ys.toArray)
    (hn : ∀ w, (Go.sizeOf t).run P w = .ok k w) (hk : ys.length = k) (h1 : ∀ u ∈ ys, u.oneCell' = true) (hfit : off + k ≤ n * size)
    (h : ∀ w', Ent (l.set i (row e size (.slice (some ⟨g, 0, none⟩) n c) n (splice xs off ys))) w' → wpList P ops Q rest (a.put o.dst undef) w') : wpList P ops Q (o :: rest) a w :=
  wpl_storeRow hE i hi ho hw hx hy hn (by simp [Value.cells]) hk h1 hfit h

theorem still_run {a : Act} {K : Act → Prop} {v : Value} {E : Prop} (hw : Region.wanted o (yielded ops a.tmps) = true) (hr : (execOp a.eval o).run P w = .ok (.value v) w) (h : K (a.put o.dst v)) : if Region.wanted o (yielded ops a.tmps) = true then o.still P a w K else E := by
  rw [if_pos hw]
  unfold Oper.still
  rw [hr, Oper.stillUpon_value]
  exact h

theorem still_loadW (hE : Ent l w) (i : Nat) {b : Nat} {xs : List Value} {T : TypeId} {fz : Nat × Nat} (hi : l[i]? = some (pt b (.cells xs.toArray T fz))) {a : Act} {K : Act → Prop} {E : Prop}
    {t : TypeId} {x : Operand} (ho : o.op = .load t x) (hw : Region.wanted o (yielded ops a.tmps) = true)
    (hx : a.eval x = .pointer (some ⟨b, 0, none⟩)) (hA : ∀ w, (isAgg t).run P w = .ok true w) {n : Nat} (hn : ∀ w, (Go.sizeOf t).run P w = .ok n w) (ys : List Value) (hys : ys.length = n) (hl : ∀ j, j < n → xs[j]? = ys[j]?)
    (h : K (a.put o.dst (.agg ys.toArray))) : if Region.wanted o (yielded ops a.tmps) = true then o.still P a w K else E := by
  refine still_run hw ?_ h
  simp [execOp, ho, hx, run_loadA hE i hi hA hn hys (off := 0) (fun j hj => by simpa using hl j hj)]

theorem run_loadR {t : TypeId} (hA : ∀ w, (isAgg t).run P w = .ok true w) {n : Nat} (hn : ∀ w, (Go.sizeOf t).run P w = .ok n w) {ad : Addr} {vs : List Value} (hl : vs.length = n) (hc : ∀ j v, vs[j]? = some v → w.cell? (ad.add j) = some v) :
    (Instr.loadAt t (.pointer (some ad))).run P w = .ok (.agg vs.toArray) w := by
  have hr := run_loadCells_list (P := P) w ad vs hc
  subst hl
  simp [Instr.loadAt, Instr.sureAddr, loadVar, hA, hn, hr]

theorem splice_get (xs : List Value) (off : Nat) (ys : List Value) (j : Nat) (h : off ≤ xs.length) : (splice xs off ys)[j]? = if j < off then xs[j]? else if j < off + ys.length then ys[j - off]? else xs[j]? := by
  have l1 : (xs.take off).length = off := by rw [List.length_take]; omega
  unfold splice
  rw [List.append_assoc]
  by_cases h1 : j < off
  · rw [if_pos h1, List.getElem?_append_left (by omega), List.getElem?_take, if_pos h1]
  · rw [if_neg h1, List.getElem?_append_right (by omega), l1]
    by_cases h2 : j < off + ys.length
    · rw [if_pos h2, List.getElem?_append_left (by omega)]
    · rw [if_neg h2, List.getElem?_append_right (by omega), List.getElem?_drop]
      congr 1
      omega

theorem foldl_set (off : Nat) : ∀ (vs : List Value) (k : Nat) (cs : Array Value), off + k + vs.length ≤ cs.size →
    ((vs.zipIdx k).foldl (fun cs x => cs.setIfInBounds (off + x.2) x.1) cs).toList = splice cs.toList (off + k) vs
  | [], k, cs, _ => by simp [splice]
  | v :: vs, k, cs, h => by
    rw [List.zipIdx_cons, List.foldl_cons, foldl_set off vs (k + 1) _ (by simp only [List.length_cons] at h; simp; omega)]
    simp only [List.length_cons] at h
    apply List.ext_getElem?
    intro j
    simp only [Array.toList_setIfInBounds]
    rw [splice_get _ _ _ _ (by simp; omega), splice_get _ _ _ _ (by simp; omega), List.length_cons]
    by_cases h1 : j < off + k
    · rw [if_pos (by omega), if_pos h1, List.getElem?_set_ne (by omega)]
    · rw [if_neg h1]
      by_cases h2 : j = off + k
      · subst h2
        rw [if_pos (by omega), if_pos (by omega), List.getElem?_set_self (by simp; omega)]
        simp
      · rw [if_neg (by omega)]
        by_cases h3 : j < off + (k + 1) + vs.length
        · rw [if_pos h3, if_pos (by omega), show j - (off + k) = (j - (off + (k + 1))) + 1 by omega, List.getElem?_cons_succ]
        · rw [if_neg h3, if_neg (by omega), List.getElem?_set_ne (by omega)]

theorem foldl_all (vs : List Value) (cs : Array Value) (h : vs.length = cs.size) : (vs.toArray.zipIdx.foldl (fun cs (x : Value × Nat) => cs.setIfInBounds (0 + x.2) x.1) cs) = vs.toArray := by
  have h1 := foldl_set 0 vs 0 cs (by omega)
  apply Array.ext'
  rw [← Array.foldl_toList]
  simp only [Array.toList_zipIdx]
  rw [h1]
  simp [splice, h]

theorem run_buildSlice1 {t e : TypeId} {size : Nat} (ht : P.underlying t = some (.slice e)) (hI : zeroSize P e = some size) (hn : ∀ w, (Go.sizeOf e).run P w = .ok size w) (h0 : 0 < size) (h24 : size ≤ 16777216) (xs : List Value) (hx : xs.length = size) :
    (Instr.buildSlice t 1 #[(0, .agg xs.toArray)]).run P w = .ok (.slice (some ⟨w.heap.size, 0, none⟩) 1 1) (w.alloc (.cells xs.toArray e)) := by
  obtain ⟨z, hz, hzr⟩ := run_zero hI
  have hf := foldl_all xs ((Array.range size).map (fun i => z.cells[i % z.cells.size]!)) (by simp [hx])
  have hc : (Value.agg xs.toArray).cells = xs.toArray := rfl
  simp [Instr.buildSlice, run_underlying ht, hn, hzr, Instr.fill, hc, hx, Nat.not_lt.2 h24, Nat.pos_iff_ne_zero.1 h0, newRow]
  simp at hf
  rw [hf]

theorem fill_step {place : Nat → Option (Nat × Nat)} (cells : Array Value) (i : Nat) (u : Value) (vs : List Value) (off : Nat) (rest : List (Nat × Value)) (hu : u.cells = vs.toArray) (hp : place i = some (off, vs.length)) (h : off + vs.length ≤ cells.size) :
    ∃ c1 : Array Value, c1.toList = splice cells.toList off vs ∧ Instr.fill place cells ((i, u) :: rest) = Instr.fill place c1 rest := by
  refine ⟨vs.toArray.zipIdx.foldl (fun cs (x : Value × Nat) => cs.setIfInBounds (off + x.2) x.1) cells, ?_, ?_⟩
  · rw [← Array.foldl_toList]
    simp only [Array.toList_zipIdx]
    exact foldl_set off vs 0 cells (by omega)
  · simp only [Instr.fill, hp, hu]
    rw [if_neg (by simp; omega)]

/-- two parts that fill a struct -/
theorem fill_two {place : Nat → Option (Nat × Nat)} (z : Array Value) (xs ys : List Value) (u v : Value) (hu : u.cells = xs.toArray) (hv : v.cells = ys.toArray) (h0 : place 0 = some (0, xs.length)) (h1 : place 1 = some (xs.length, ys.length)) (hz : z.size = xs.length + ys.length) :
    Instr.fill place z [(0, u), (1, v)] = some (xs ++ ys).toArray := by
  obtain ⟨c1, e1, f1⟩ := fill_step z 0 u xs 0 [(1, v)] hu h0 (by omega)
  have s1 : c1.size = z.size := by rw [← Array.length_toList, e1, splice_length _ _ _ (by simp; omega), Array.length_toList]
  obtain ⟨c2, e2, f2⟩ := fill_step c1 1 v ys xs.length [] hv h1 (by omega)
  rw [f1, f2, Instr.fill]
  congr 1
  apply Array.ext'
  rw [e2, e1]
  simp only [splice, List.take_zero, List.nil_append, Nat.zero_add]
  rw [List.take_left, List.drop_append, List.drop_eq_nil_of_le (by omega), List.drop_drop, List.drop_eq_nil_of_le (by simp; omega)]
  simp

/-- what an append asks of the type of the elements: zero value's cells, cells, bytes -/
def elemInfo (P : Program) (e : TypeId) : Option (Option Nat × Nat × Nat) := (P.info? e).map fun i => (i.zero.map (·.cells.size), i.size, i.bytes)

theorem elemInfo_parts {e : TypeId} {size bytes : Nat} (h : elemInfo P e = some (some size, size, bytes)) : ∃ i z, P.info? e = some i ∧ i.zero = some z ∧ i.size = size ∧ i.bytes = bytes ∧ z.cells.size = size := by
  unfold elemInfo at h
  cases hi : P.info? e with
  | none => simp [hi] at h
  | some i =>
    simp only [hi, Option.map_some, Option.some.injEq, Prod.mk.injEq] at h
    obtain ⟨h1, h2, h3⟩ := h
    cases hz : i.zero with
    | none => simp [hz] at h1
    | some z => exact ⟨i, z, rfl, hz, h2, h3, by simpa [hz] using h1⟩

theorem Ent.appendG {e : TypeId} {size bytes : Nat} {t : TypeId} (ty : TypeId) (hE : Ent l w) (k : Nat) {v : Value} {n : Nat} {xs : List Value} (hk : l[k]? = some (row e size v n xs))
    (ht : P.underlying t = some (.slice e)) (hI : elemInfo P e = some (some size, size, bytes)) (hsz : 0 < size)
    {x : Value} {m : Nat} {news : List Value} (hx : reads x m news w) (hl : news.length = m * size) (h1 : ∀ u ∈ news, u.oneCell' = true) (hbytes : (n + m) * bytes ≤ 140737488355328) (h63 : n + m ≤ 140737488355328) :
    ∃ ao' c' w', (Builtin.append_ #[t, t] ty #[v, x]).run P w = .ok (.slice ao' (n + m) c') w' ∧ Ent (l.set k (row e size (.slice ao' (n + m) c') (n + m) (xs ++ news))) w' := by
  obtain ⟨i, z, hi, hz, hs, hb, hzs⟩ := elemInfo_parts hI
  exact hE.append ty k hk ht hi hz hs hb hzs hsz hx hl h1 (by unfold maxLen; omega) hbytes

theorem wpl_appendG {e : TypeId} {size bytes : Nat} {t : TypeId} (hE : Ent l w) (k : Nat) {v : Value} {n : Nat} {xs : List Value} (hk : l[k]? = some (row e size v n xs))
    {s y : Operand} (ho : o.op = .call { callee := .builtin .append, args := #[s, y], argTypes := #[t, t] }) (hw : Region.wanted o (yielded ops a.tmps) = true)
    (hs : a.eval s = v) {x : Value} (hy : a.eval y = x)
    (ht : P.underlying t = some (.slice e)) (hI : elemInfo P e = some (some size, size, bytes)) (hsz : 0 < size)
    {m : Nat} {news : List Value} (hx : reads x m news w) (hl : news.length = m * size) (h1 : ∀ u ∈ news, u.oneCell' = true) (hbytes : (n + m) * bytes ≤ 140737488355328) (h63 : n + m ≤ 140737488355328)
    (h : ∀ ao' c' w', Ent (l.set k (row e size (.slice ao' (n + m) c') (n + m) (xs ++ news))) w' → wpList P ops Q rest (a.put o.dst (.slice ao' (n + m) c')) w') : wpList P ops Q (o :: rest) a w := by
  obtain ⟨ao', c', w', hr, hE'⟩ := hE.appendG (P := P) o.type k hk ht hI hsz hx hl h1 hbytes h63
  refine wpl_run hw (w' := w') (v := .slice ao' (n + m) c') ?_ (h ao' c' w' hE')
  simp [execOp, ho, resolve, invoke, builtin, hs, hy, hr]

theorem step_appendG {e : TypeId} {size bytes : Nat} {t : TypeId} {K : Act → World → Prop} {E : Prop} (hE : Ent l w) (k : Nat) {v : Value} {n : Nat} {xs : List Value} (hk : l[k]? = some (row e size v n xs))
    {s y : Operand} (ho : o.op = .call { callee := .builtin .append, args := #[s, y], argTypes := #[t, t] }) (hw : Region.wanted o (yielded ops a.tmps) = true)
    (hs : a.eval s = v) {x : Value} (hy : a.eval y = x)
    (ht : P.underlying t = some (.slice e)) (hI : elemInfo P e = some (some size, size, bytes)) (hsz : 0 < size)
    {m : Nat} {news : List Value} (hx : reads x m news w) (hl : news.length = m * size) (h1 : ∀ u ∈ news, u.oneCell' = true) (hbytes : (n + m) * bytes ≤ 140737488355328) (h63 : n + m ≤ 140737488355328)
    (h : ∀ ao' c' w', Ent (l.set k (row e size (.slice ao' (n + m) c') (n + m) (xs ++ news))) w' → K (a.put o.dst (.slice ao' (n + m) c')) w') : if Region.wanted o (yielded ops a.tmps) = true then Oper.wp P o a w K Q else E := by
  rw [if_pos hw]
  obtain ⟨ao', c', w', hr, hE'⟩ := hE.appendG (P := P) o.type k hk ht hI hsz hx hl h1 hbytes h63
  unfold Oper.wp execOp
  simp only [ho, resolve, invoke, builtin, Sem.run_bind, Sem.run_pure, Result.andThen_ok, List.map_toArray, List.map_cons, List.map_nil, hs, hy, hr]
  exact h ao' c' w' hE'
end
attribute [irreducible] splice
end Go.SL
namespace Go.SL
section
variable {P : Program} {ops : Array Oper} {rest : List Oper} {o : Oper} {a : Act} {Q : Exit → Act → World → Prop} {w : World} {l : List HProp}

/-- a type's zero value's cells, its size, its bytes -/
def zeroList (P : Program) (e : TypeId) : Option (List Value × Nat × Nat) := (P.info? e).bind fun i => i.zero.map fun z => (z.cells.toList, i.size, i.bytes)

theorem zeroList_parts {e : TypeId} {zs : List Value} {size bytes : Nat} (h : zeroList P e = some (zs, size, bytes)) : ∃ i z, P.info? e = some i ∧ i.zero = some z ∧ i.size = size ∧ i.bytes = bytes ∧ z.cells.toList = zs := by
  unfold zeroList at h
  cases hi : P.info? e with
  | none => simp [hi] at h
  | some i =>
    cases hz : i.zero with
    | none => simp [hi, hz] at h
    | some z =>
      simp only [hi, hz, Option.bind_some, Option.map_some, Option.some.injEq, Prod.mk.injEq] at h
      exact ⟨i, z, rfl, hz, h.2.1, h.2.2, h.1⟩

theorem made_flat (z : Array Value) (n : Nat) (h0 : 0 < z.size) : (madeCells z (n * z.size)).toList = (List.replicate n z.toList).flatten := by
  have hl : ((List.replicate n z.toList).flatMap id).length = n * z.size := by
    rw [flatMap_len' id z.size _ (fun x hx => by rw [(List.mem_replicate.1 hx).2]; simp)]
    simp
  rw [show (List.replicate n z.toList).flatten = (List.replicate n z.toList).flatMap id by simp [List.flatMap]]
  apply List.ext_getElem?
  intro j
  by_cases hj : j < n * z.size
  · have hjd : j / z.size < n := (Nat.div_lt_iff_lt_mul h0).2 hj
    have hjm : j % z.size < z.size := Nat.mod_lt _ h0
    have h1 := flatMap_at' id z.size (List.replicate n z.toList) (fun x hx => by rw [(List.mem_replicate.1 hx).2]; simp) (j / z.size) (j % z.size) z.toList z.toList[j % z.size] (by simp [hjd]) (by simp)
    rw [Nat.mul_comm, Nat.div_add_mod] at h1
    rw [h1]
    simp [madeCells, hj, hjm]
  · rw [List.getElem?_eq_none (l := (List.replicate n z.toList).flatMap id) (by omega)]
    simp [madeCells, hj]

theorem Ent.makeN (hE : Ent l w) {t e : TypeId} (ht : P.underlying t = some (.slice e)) {zs : List Value} {size bytes : Nat} (hz : zeroList P e = some (zs, size, bytes)) (hs : zs.length = size) (h0 : 0 < size) (kl kc : IntKind) (n : Nat) (hb : n * bytes ≤ 281474976710656) (h63 : n ≤ 281474976710656) :
    ∃ g w', (Instr.makeSlice t (.int kl (n : Int)) (.int kc (n : Int))).run P w = .ok (.slice (some ⟨g, 0, none⟩) n n) w' ∧ Ent (row e size (.slice (some ⟨g, 0, none⟩) n n) n (List.replicate n zs).flatten :: l) w' := by
  obtain ⟨i, z, hi, hzz, h2, h3, h4⟩ := zeroList_parts hz
  subst h3
  have hsz : z.cells.size = size := by rw [← hs, ← h4]; simp
  obtain ⟨w', hr, ho, hg⟩ := run_make_full (P := P) w 0 t e i z size ht hi hzz h2 kl kc n (by rw [Nat.mul_comm]; exact hb) (by unfold maxLen; omega) (Nat.zero_le _)
  rw [← hsz, made_flat z.cells n (by omega), h4, hsz] at ho
  refine ⟨_, w', hr, hE.step0 (Bs := [row e size (.slice (some ⟨w.heap.size, 0, none⟩) n n) n (List.replicate n zs).flatten]) ⟨hg.os, hg.tape, hg.output⟩ hg.size (fun b hb => hg.block b hb (by simp)) ⟨fun b => b = w.heap.size, on_single ?_, fun b hb => by omega⟩⟩
  unfold row
  exact ⟨ho, fun b => by simp [Value.ownBlock, eq_comm]⟩

theorem wpl_make (hE : Ent l w) {t e : TypeId} {x y : Operand} (ho : o.op = .makeSlice t x y) (hw : Region.wanted o (yielded ops a.tmps) = true) (ht : P.underlying t = some (.slice e)) {zs : List Value} {size bytes : Nat} (hz : zeroList P e = some (zs, size, bytes)) (hs : zs.length = size) (h0 : 0 < size) {kl kc : IntKind} (n : Nat)
    (hx : a.eval x = .int kl (n : Int)) (hy : a.eval y = .int kc (n : Int)) (hb : n * bytes ≤ 281474976710656) (h63 : n ≤ 281474976710656)
    (h : ∀ g w', Ent (row e size (.slice (some ⟨g, 0, none⟩) n n) n (List.replicate n zs).flatten :: l) w' → wpList P ops Q rest (a.put o.dst (.slice (some ⟨g, 0, none⟩) n n)) w') : wpList P ops Q (o :: rest) a w := by
  obtain ⟨g, w', hr, hE'⟩ := hE.makeN (P := P) ht hz hs h0 kl kc n hb h63
  refine wpl_run hw (w' := w') (v := .slice (some ⟨g, 0, none⟩) n n) ?_ (h g w' hE')
  simp [execOp, ho, hx, hy, hr]

/-- a block as a slice that is only read -/
theorem Ent.ptView (hE : Ent l w) (i : Nat) {b n c : Nat} {cs : Array Value} {T : TypeId} {fz : Nat × Nat} {xs : List Value} (hi : l[i]? = some (pt b (.cells cs T fz))) (h : ∀ (j : Nat) (u : Value), xs[j]? = some u → cs[j]? = some u) : Ent (l.set i (view (.slice (some ⟨b, 0, none⟩) n c) n xs)) w := by
  have hr : reads (.slice (some ⟨b, 0, none⟩) n c) n xs w := reads_pt hE i hi (off := 0) (fun j u hu => by rw [Nat.zero_add]; exact h j u hu)
  have hs := hE.size i hi
  refine Ent.put ((hE.front i hi).step (Bs := [view (.slice (some ⟨b, 0, none⟩) n c) n xs]) (Same.refl w) (Nat.le_refl _) fun F hF => ⟨fun _ _ _ => rfl, F, on_single ?_, fun _ h => .inl h⟩) (List.getElem?_eq_some_iff.1 hi).1
  unfold pt at hF
  unfold view
  refine ⟨hr, fun x hx => ?_, fun x => ?_⟩
  · simp [Value.ownBlock] at hx; omega
  · rw [hF.2]; simp [Value.ownBlock, eq_comm]

/-- two results, the first one in a block of its own -/
theorem results_cell2 {fn : Func} {k j : Tmp} {t : TypeId} (h : fn.results = #[.cell k t, .tmp j]) {tmps : Array Value} (hE : Ent l w) (i : Nat) {b : Nat} {xs : List Value} {T : TypeId} {fz : Nat × Nat} (hi : l[i]? = some (pt b (.cells xs.toArray T fz)))
    (hp : tmps.getD k undef = .pointer (some ⟨b, 0, none⟩)) (hA : ∀ w, (isAgg t).run P w = .ok true w) {n : Nat} (hn : ∀ w, (Go.sizeOf t).run P w = .ok n w) (hl : xs.length = n) {v : Value} (hv : tmps.getD j undef = v) : (results fn tmps).run P w = .ok (.tuple #[.agg xs.toArray, v]) w := by
  have hp' : tmps[k]?.getD undef = .pointer (some ⟨b, 0, none⟩) := by simpa using hp
  have hv' : tmps[j]?.getD undef = v := by simpa using hv
  simp only [results, h]
  simp [hp', hv', asAddr, run_resultA hE i hi hA hn hl]

theorem still_loadR {K : Act → Prop} {E : Prop} {t : TypeId} {x : Operand} (ho : o.op = .load t x) (hw : Region.wanted o (yielded ops a.tmps) = true) {ad : Addr}
    (hx : a.eval x = .pointer (some ad)) (hA : ∀ w, (isAgg t).run P w = .ok true w) {n : Nat} (hn : ∀ w, (Go.sizeOf t).run P w = .ok n w) (vs : List Value) (hl : vs.length = n) (hc : ∀ j v, vs[j]? = some v → w.cell? (ad.add j) = some v)
    (h : K (a.put o.dst (.agg vs.toArray))) : if Region.wanted o (yielded ops a.tmps) = true then o.still P a w K else E := by
  refine still_run hw ?_ h
  simp [execOp, ho, hx, run_loadR hA hn hl hc]

/-- what is new stands among what is only read -/
theorem Ent.keepNew {A : HProp} {F R : List HProp} (hE : Ent (A :: (F ++ R)) w) : Ent (F ++ A :: R) w := hE.perm List.perm_middle.symm
theorem Ent.tails {F R : List HProp} (hE : Ent (F ++ R) w) : Ent R w := hE.drop

/-- a fact on the state that a piece of code leaves at its regular end alone -/
def Meet (Φ : Act → World → Prop) : Exit → Act → World → Prop
  | .normal, a, w => Φ a w
  | _, _, _ => False

/-- a piece of code whose ways meet again in one fact on the state that it leaves -/
theorem wp_meet {code : Code} {Q : Exit → Act → World → Prop} {a : Act} {w : World} (Φ : Act → Act → World → Prop) (h1 : code.wp P (Meet (Φ a)) a w) (h2 : ∀ a' w', Φ a a' w' → Q .normal a' w') : code.wp P Q a w :=
  Code.wp_mono (fun e a' w' h => by cases e <;> first | exact h2 a' w' h | exact (h : False).elim) h1
end
end Go.SL
namespace Go.SL
section
variable {P : Program} {ops : Array Oper} {rest : List Oper} {o : Oper} {a : Act} {Q : Exit → Act → World → Prop} {w : World} {l : List HProp}

abbrev mEnt (k v : Value) (b : Nat) : MapEntry := { key := k, val := v, born := b }
/-- an empty map is made -/
theorem wpl_makeMap (hE : Ent l w) {t : TypeId} (ho : o.op = .makeMap t none) (hw : Region.wanted o (yielded ops a.tmps) = true)
    (h : ∀ r w', Ent (pt r (.map #[] 0) :: l) w' → wpList P ops Q rest (a.put o.dst (.map (some r))) w') : wpList P ops Q (o :: rest) a w := by
  refine wpl_run hw (w' := w.alloc (.map #[] 0)) (v := .map (some w.heap.size)) ?_ (h _ _ (hE.alloc _))
  simp [execOp, ho, Instr.makeMap, newObj, Sem.run]

theorem Ent.setMap (hE : Ent l w) (i : Nat) {r : Nat} {ob ob' : Obj} (hi : l[i]? = some (pt r ob)) : Ent (l.set i (pt r ob')) { w with heap := w.heap.setIfInBounds r ob' } := by
  refine hE.turn i hi ⟨rfl, rfl, rfl⟩ (by simp) ?_ (fun k _ hk => ?_)
  · have := hE.size i hi
    simp [this]
  · simp [Array.getElem?_setIfInBounds, Ne.symm hk]

/-- an entry with a new key is put -/
theorem wpl_insert (hE : Ent l w) (i : Nat) {r : Nat} {es : List MapEntry} {clock : Nat} (hi : l[i]? = some (pt r (.map es.toArray clock)))
    {t kt et : TypeId} {x y z : Operand} (ho : o.op = .insert t x y z) (hw : Region.wanted o (yielded ops a.tmps) = true) (hx : a.eval x = .map (some r)) {ik : IntKind} {n : Int} (hy : a.eval y = .int ik n) {v : Value} (hz : a.eval z = v)
    (ht : P.underlying t = some (.map kt et)) (hk : P.underlying kt = some (.int ik)) (hnew : Instr.findNow (.int ik) (.int ik n) es 0 = some none)
    (h : ∀ w', Ent (l.set i (pt r (.map (es ++ [mEnt (.int ik n) v clock]).toArray (clock + 1)))) w' → wpList P ops Q rest (a.put o.dst undef) w') : wpList P ops Q (o :: rest) a w := by
  have hb := hE.at i hi
  have hc : ∀ m, (Instr.checkKey false (m + 1) kt (.int ik n)).run P w = .ok () w := fun m => by
    unfold Instr.checkKey
    simp [run_underlying hk]
  have hf : (Instr.findKey kt (.int ik n) es).run P w = .ok none w := by
    unfold Instr.findKey
    simp [run_underlying hk, hnew]
  refine wpl_run_skip hw (w' := { w with heap := w.heap.setIfInBounds r (.map (es ++ [mEnt (.int ik n) v clock]).toArray (clock + 1)) }) ?_ (h _ (hE.setMap i hi))
  have hg := MapKept.run_getObj_map (P := P) hb
  have hs := MapKept.run_setObj_map (P := P) (.map (es.toArray.push (mEnt (.int ik n) v clock)) (clock + 1)) hb
  have e : es.toArray.push (mEnt (.int ik n) v clock) = (es ++ [mEnt (.int ik n) v clock]).toArray := by simp
  rw [e] at hs
  simp [execOp, ho, hx, hy, hz, Instr.mapUpdate, run_underlying ht, hg, hc 9999, hf, e, hs]

/-- a key is looked up -/
theorem wpl_lookup (hE : Ent l w) (i : Nat) {r : Nat} {es : List MapEntry} {clock : Nat} (hi : l[i]? = some (pt r (.map es.toArray clock)))
    {t kt et : TypeId} {x y : Operand} (ho : o.op = .lookup t x y false) (hw : Region.wanted o (yielded ops a.tmps) = true) (hx : a.eval x = .map (some r)) {ik : IntKind} {n : Int} (hy : a.eval y = .int ik n)
    (ht : P.underlying t = some (.map kt et)) (hk : P.underlying kt = some (.int ik)) {v : Value} {j : Nat} (hfind : Instr.findNow (.int ik) (.int ik n) es 0 = some (some (j, v)))
    (h : wpList P ops Q rest (a.put o.dst v) w) : wpList P ops Q (o :: rest) a w := by
  have hb := hE.at i hi
  have hc : ∀ e m, (Instr.checkKey e (m + 1) kt (.int ik n)).run P w = .ok () w := fun e m => by
    unfold Instr.checkKey
    simp [run_underlying hk]
  have hf : (Instr.findKey kt (.int ik n) es).run P w = .ok (some (j, v)) w := by
    unfold Instr.findKey
    simp [run_underlying hk, hfind]
  have hg := MapKept.run_getObj_map (P := P) hb
  refine wpl_run hw (w' := w) (v := v) ?_ h
  simp [execOp, ho, hx, hy, Instr.lookup, run_underlying ht, hg, hc _ 9999, hf]
/-- a key that is not there -/
theorem wpl_lookupNot (hE : Ent l w) (i : Nat) {r : Nat} {es : List MapEntry} {clock : Nat} (hi : l[i]? = some (pt r (.map es.toArray clock)))
    {t kt et : TypeId} {x y : Operand} (ho : o.op = .lookup t x y false) (hw : Region.wanted o (yielded ops a.tmps) = true) (hx : a.eval x = .map (some r)) {ik : IntKind} {n : Int} (hy : a.eval y = .int ik n)
    (ht : P.underlying t = some (.map kt et)) (hk : P.underlying kt = some (.int ik)) {v : Value} (hz : ∀ w, (zeroValue et).run P w = .ok v w) (hfind : Instr.findNow (.int ik) (.int ik n) es 0 = some none)
    (h : wpList P ops Q rest (a.put o.dst v) w) : wpList P ops Q (o :: rest) a w := by
  have hb := hE.at i hi
  have hc : ∀ e m, (Instr.checkKey e (m + 1) kt (.int ik n)).run P w = .ok () w := fun e m => by
    unfold Instr.checkKey
    simp [run_underlying hk]
  have hf : (Instr.findKey kt (.int ik n) es).run P w = .ok none w := by
    unfold Instr.findKey
    simp [run_underlying hk, hfind]
  have hg := MapKept.run_getObj_map (P := P) hb
  refine wpl_run hw (w' := w) (v := v) ?_ h
  simp [execOp, ho, hx, hy, Instr.lookup, run_underlying ht, hg, hc _ 9999, hf, hz]

theorem run_buildSlice2 {t e : TypeId} {size : Nat} (ht : P.underlying t = some (.slice e)) (hI : zeroSize P e = some size) (hn : ∀ w, (Go.sizeOf e).run P w = .ok size w) (h0 : 0 < size) (h24 : 2 * size ≤ 16777216) (xs ys : List Value) (hx : xs.length = size) (hy : ys.length = size) :
    (Instr.buildSlice t 2 #[(0, .agg xs.toArray), (1, .agg ys.toArray)]).run P w = .ok (.slice (some ⟨w.heap.size, 0, none⟩) 2 2) (w.alloc (.cells (xs ++ ys).toArray e)) := by
  obtain ⟨z, hz, hzr⟩ := run_zero hI
  have hf := fill_two (place := fun i => some (i * size, size)) ((Array.range (2 * size)).map (fun i => z.cells[i % z.cells.size]!)) xs ys (.agg xs.toArray) (.agg ys.toArray) rfl rfl (by simp [hx]) (by simp [hx, hy]) (by simp [hx, hy]; omega)
  have h2 : ¬ 2 * size = 0 := by omega
  have h3 : ¬ 2 ^ 24 < 2 * size := by omega
  simp only [Instr.buildSlice, Sem.run_bind, run_underlying ht, Result.andThen_ok, hn, hzr, if_neg h2, gt_iff_lt, if_neg h3, Sem.run_pure, hf, newRow]
  simp

/-- a slice of two structs -/
theorem wpl_build2 (hE : Ent l w) {t e : TypeId} {x y : Operand} (ho : o.op = .buildSlice t 2 #[(0, x), (1, y)]) (hw : Region.wanted o (yielded ops a.tmps) = true) {xs ys : List Value} (hx : a.eval x = .agg xs.toArray) (hy : a.eval y = .agg ys.toArray)
    (ht : P.underlying t = some (.slice e)) {size : Nat} (hI : zeroSize P e = some size) (hn : ∀ w, (Go.sizeOf e).run P w = .ok size w) (h0 : 0 < size) (h24 : 2 * size ≤ 16777216) (hxl : xs.length = size) (hyl : ys.length = size)
    (h : ∀ b w', Ent (pt b (.cells (xs ++ ys).toArray e) :: l) w' → wpList P ops Q rest (a.put o.dst (.slice (some ⟨b, 0, none⟩) 2 2)) w') : wpList P ops Q (o :: rest) a w := by
  refine wpl_run hw (w' := w.alloc (.cells (xs ++ ys).toArray e)) (v := .slice (some ⟨w.heap.size, 0, none⟩) 2 2) ?_ (h _ _ (hE.alloc _))
  have hr := run_buildSlice2 (P := P) (w := w) ht hI hn h0 h24 xs ys hxl hyl
  simp [execOp, ho, hx, hy, hr]
/-- a slice of one struct -/
theorem wpl_build1 (hE : Ent l w) {t e : TypeId} {x : Operand} (ho : o.op = .buildSlice t 1 #[(0, x)]) (hw : Region.wanted o (yielded ops a.tmps) = true) {xs : List Value} (hx : a.eval x = .agg xs.toArray)
    (ht : P.underlying t = some (.slice e)) {size : Nat} (hI : zeroSize P e = some size) (hn : ∀ w, (Go.sizeOf e).run P w = .ok size w) (h0 : 0 < size) (h24 : size ≤ 16777216) (hxl : xs.length = size)
    (h : ∀ b w', Ent (pt b (.cells xs.toArray e) :: l) w' → wpList P ops Q rest (a.put o.dst (.slice (some ⟨b, 0, none⟩) 1 1)) w') : wpList P ops Q (o :: rest) a w := by
  refine wpl_run hw (w' := w.alloc (.cells xs.toArray e)) (v := .slice (some ⟨w.heap.size, 0, none⟩) 1 1) ?_ (h _ _ (hE.alloc _))
  have hr := run_buildSlice1 (P := P) (w := w) ht hI hn h0 h24 xs hxl
  simp [execOp, ho, hx, hr]
end
end Go.SL
namespace Go.SL
open Go.RowKit
section
variable {P : Program}

/-- AN ITERATOR THAT GIVES xs, ITS OWN HEAP BEING st: whatever else lies there (J), and whatever a round makes of that. -/
def SeqSL {α : Type} (P : Program) (gf : Nat) (lb : Array Value) (encs : α → Array Value) (xs : List α) (st : List α → List HProp) : Prop :=
  ∀ (lp : Nat) (J Jx : List α → List HProp) (W : World), Ent (st [] ++ J []) W →
    (∀ pre x W1, pre ++ [x] <+: xs → Ent (st pre ++ J pre) W1 → YieldAt Fence.wide 0 P lp (encs x) W1 fun e W' =>
      (e = .returned (.bool true) ∧ Ent (st pre ++ J (pre ++ [x])) W') ∨ (e = .returned (.bool false) ∧ Ent (Jx (pre ++ [x])) W')) →
    CallsIn Fence.wide 0 P gf (#[.func (.yield lp) #[] #[]] ++ lb) W fun e W' => (∃ v, e = .returned v) ∧ (Ent (J xs) W' ∨ ∃ pre, pre <+: xs ∧ Ent (Jx pre) W')

/-- how a round's body may be left -/
def roundSL {α : Type} (I : List α → List HProp) (Ix : Code → List α → List HProp) (L : List HProp) (ys : List α) : Exit → Act → World → Prop
  | .normal, _, W => Ent (I ys ++ L) W
  | .ret, _, W => Ent (Ix .ret ys ++ L) W
  | .exit id, _, W => Ent (Ix (.exit id) ys ++ L) W
  | _, _, _ => False

theorem perm_2 {l m : List HProp} {A B : HProp} : (l ++ (m ++ [A, B])).Perm (A :: B :: (l ++ m)) := by
  rw [← List.append_assoc]
  exact (List.perm_append_comm (l₁ := l ++ m) (l₂ := [A, B]))
theorem perm_2' {l m : List HProp} {A B : HProp} : (A :: B :: (l ++ m)).Perm (l ++ (m ++ [A, B])) := perm_2.symm
theorem perm_3 {l m : List HProp} {A B : HProp} : (m ++ (A :: B :: l)).Perm (A :: B :: (l ++ m)) := by
  refine (List.perm_append_comm (l₁ := m) (l₂ := A :: B :: l)).trans ?_
  exact List.Perm.refl _

theorem wpIn_rangeSL {α : Type} {g : Operand} {ps : Array Tmp} {assign body : Code} {Q : Exit → Act → World → Prop} {a : Act} {w : World} {gf : Nat} {lb : Array Value}
    (hg : a.eval g = .func (.func gf) #[] lb) (eg : ∀ args w, (callFunc gf args).run P w = .ok (.enter gf args) w)
    {encs : α → Array Value} {xs : List α} {st : List α → List HProp} (hseq : SeqSL P gf lb encs xs st) (hps : ∀ x, (encs x).size = ps.size)
    (I : List α → List HProp) (Ix : Code → List α → List HProp) (hE : Ent (st [] ++ I []) w) (a₁ : α → Act)
    (hassign : ∀ (lp : Nat) (x : α) (W : World) (K : Act → World → Prop), K (a₁ x) W →
      assign.wpIn (Fence.wide.inRound lp) 0 P (Exit.then K (fun _ _ _ => False)) { tmps := (ps.zip (encs x)).foldl (fun t (p, v) => t.setIfInBounds p v) a.tmps, defers := [] } W)
    (hbody : ∀ (lp : Nat) (pre : List α) (x : α) (W : World) (L : List HProp), pre ++ [x] <+: xs → Ent (I pre ++ L) W → body.wpIn (Fence.wide.inRound lp) 0 P (roundSL I Ix L (pre ++ [x])) (a₁ x) W)
    (hdone : ∀ (D : Nat) (W : World), Ent (pt D (.deferred (some [])) :: I xs) W → Q .normal { a with defers := { target := .collected D, args := #[] } :: a.defers } W)
    (hstop : ∀ (D : Nat) (c : Code) (pre : List α) (W : World), pre <+: xs → Ent (pt D (.deferred (some [])) :: Ix c pre) W → c.wpIn Fence.wide 0 P Q { a with defers := { target := .collected D, args := #[] } :: a.defers } W) :
    (Code.rangeFunc g ps assign body).wpIn Fence.wide 0 P Q a w := by
  refine wpIn_rangeFunc ?_
  intro fn hfn
  obtain ⟨d, hd⟩ : ∃ d, d = w.heap.size := ⟨_, rfl⟩
  obtain ⟨rc, hrc⟩ : ∃ rc : LoopState → Option Code → Loop, rc = fun s p => { state := s, pending := p, fn, tmps := a.tmps, params := ps, assign, body, defers := d } := ⟨_, rfl⟩
  have h1 : Ent (pt (d + 1) (.loop (rc .ready none)) :: pt d (.deferred (some [])) :: (st [] ++ I [])) ((w.alloc (.deferred (some []))).alloc (.loop (rc .ready none))) := by
    have := (hE.alloc (.deferred (some []))).alloc (.loop (rc .ready none))
    rwa [World.size_alloc, ← hd] at this
  generalize hW1 : (w.alloc (.deferred (some []))).alloc (.loop (rc .ready none)) = W1 at h1
  refine ⟨d + 1, [{ target := .collected d, args := #[] }], W1, { target := .fn (.func gf) lb, args := #[.func (.yield (d + 1)) #[] #[]] }, W1, gf, #[.func (.yield (d + 1)) #[] #[]] ++ lb, W1, ?_, ?_, fun _ _ => trivial, ?_, fun h => (by cases h), ?_⟩
  · rw [← hW1, hrc, hd]; exact run_enterLoop_outer _ _ _ _ _
  · simp only [resolve, hg]
    simp [go_sem]
  · simp [invoke, go_sem, eg]
  · refine (hseq (d + 1) (fun pre => I pre ++ [pt (d + 1) (.loop (rc .ready none)), pt d (.deferred (some []))]) (fun pre => [ex fun c => Ix c pre ++ [pt (d + 1) (.loop (rc .done (some c))), pt d (.deferred (some []))]]) W1 (h1.perm perm_2') ?_).mono ?_
    · rintro pre x W hpre hW
      replace hW := hW.perm perm_2
      have hy := run_yield (P := P) (args := encs x) hW.head (by rw [hrc]; exact hps x)
      rw [hrc] at hy
      refine ⟨fn, _, assign, body, hy, roundIn_of_wpIn trivial (hassign _ x W _ ?_)⟩
      clear hy
      refine ⟨_, run_beginRound hW.head (by rw [hrc]), ?_⟩
      have hb : Ent (pt (d + 1) (.loop { rc .ready none with state := .busy }) :: pt d (.deferred (some [])) :: (st pre ++ I pre)) (W.putObj (d + 1) (.loop { rc .ready none with state := .busy })) := hW.setMap 0 rfl
      refine wpIn_mono (hbody _ pre x _ (pt (d + 1) (.loop { rc .ready none with state := .busy }) :: pt d (.deferred (some [])) :: st pre) hpre (hb.perm perm_3.symm)) ?_
      rintro e a3 W3 hp
      cases e with
      | normal =>
        have h3 : Ent _ W3 := Ent.perm hp perm_3
        refine ⟨_, _, run_endRound none h3.head, .inl ⟨rfl, ?_⟩⟩
        have h4 := h3.setMap 0 (ob' := .loop { { rc .ready none with state := .busy } with state := if (none : Option Code).isNone then .ready else .done, pending := none }) rfl
        rw [hrc] at h4 ⊢
        exact Ent.perm h4 perm_2'
      | ret =>
        have h3 : Ent _ W3 := (Ent.perm hp perm_3)
        refine ⟨_, _, run_endRound (some .ret) h3.head, .inr ⟨rfl, ?_⟩⟩
        have h4 := h3.setMap 0 (ob' := .loop { { rc .ready none with state := .busy } with state := if (some Code.ret).isNone then .ready else .done, pending := some .ret }) rfl
        rw [hrc] at h4 ⊢
        exact Ent.pack (l := []) Code.ret (by rw [List.append_nil]; exact (Ent.perm h4 perm_2').drop)
      | exit id =>
        have h3 : Ent _ W3 := (Ent.perm hp perm_3)
        refine ⟨_, _, run_endRound (some (.exit id)) h3.head, .inr ⟨rfl, ?_⟩⟩
        have h4 := h3.setMap 0 (ob' := .loop { { rc .ready none with state := .busy } with state := if (some (Code.exit id)).isNone then .ready else .done, pending := some (.exit id) }) rfl
        rw [hrc] at h4 ⊢
        exact Ent.pack (l := []) (Code.exit id) (by rw [List.append_nil]; exact (Ent.perm h4 perm_2').drop)
      | goto t => exact hp.elim
      | panic ch => exact hp.elim
      | outgrown => exact hp.elim
    · rintro e W2 ⟨⟨v, rfl⟩, hJ | ⟨pre, hpre, hJ⟩⟩
      · have h3 := Ent.perm hJ (perm_2 (l := []))
        refine ⟨none, _, by have := run_endLoop (P := P) h3.head (by rw [hrc]; simp); rw [hrc] at this; exact this, ?_⟩
        have h4 := h3.setMap 0 (ob' := .loop { rc .ready none with state := .exhausted }) rfl
        rw [hrc] at h4
        exact hdone d _ h4.tail
      · obtain ⟨c, hJ⟩ := hJ.unpack
        rw [List.append_nil] at hJ
        have h3 := Ent.perm hJ (perm_2 (l := []))
        refine ⟨some c, _, by have := run_endLoop (P := P) h3.head (by rw [hrc]; simp); rw [hrc] at this; exact this, ?_⟩
        have h4 := h3.setMap 0 (ob' := .loop { rc .done (some c) with state := .exhausted }) rfl
        rw [hrc] at h4
        exact hstop d c pre _ hpre h4.tail

/-- a function whose body holds a range over a function -/
theorem calls_of_marks {f : FuncId} {fn : Func} {c : Code} {args : Array Value} {w : World} {R : Ending → World → Prop} (hf : P.funcs[f]? = some fn) (hb : fn.body = some c)
    (h : c.wp P (bodyPostM Fence.wide 0 P fn R) { tmps := args ++ Array.replicate (fn.ntmps - args.size) undef, defers := [] } w) : Calls P f args w R :=
  callsIn_wide.1 (callsIn_of_wp_marks hf hb trivial (wpIn_wide.2 h) rfl)
theorem post_none {fn : Func} {R : Ending → World → Prop} {a : Act} {w : World} {v : Value} (hd : a.defers = []) (hr : (results fn a.tmps).run P w = .ok v w) (h : R (.returned v) w) : bodyPostM Fence.wide 0 P fn R .ret a w := by
  show LeavesInM Fence.wide 0 P fn a.tmps R a.defers .returning w
  rw [hd]
  exact ⟨v, hr, h⟩
theorem post_mark {fn : Func} {R : Ending → World → Prop} {a : Act} {w : World} {D : Nat} {l : List HProp} (hd : a.defers = [{ target := .collected D, args := #[] }]) (hE : Ent (pt D (.deferred (some [])) :: l) w)
    (h : ∀ w', Ent l w' → ∃ v, (results fn a.tmps).run P w' = .ok v w' ∧ R (.returned v) w') : bodyPostM Fence.wide 0 P fn R .ret a w := by
  show LeavesInM Fence.wide 0 P fn a.tmps R a.defers .returning w
  rw [hd]
  refine ⟨by simp, .inl ⟨_, _, rfl, run_takeDeferred hE.head, ?_⟩⟩
  exact h _ (hE.setMap 0 (ob' := .deferred none) rfl).tail

/-- one operation in a round, walked as anywhere -/
theorem wplIn_one {F : Fence} {n : Nat} {ops : Array Oper} {Q : Exit → Act → World → Prop} {o : Oper} {rest : List Oper} {a : Act} {w : World} (hF : F.fn = fun _ => True) (hdp : F.depth = none) (hal : F.alive = false) (hnd : ∀ c, o.op ≠ .defer c) (hlo : ¬ ∃ a w, Q .outgrown a w)
    (h : wpList P ops (fun e a w => match e with | .normal => wpListIn F n P ops Q rest a w | e => Q e a w) [o] a w) : wpListIn F n P ops Q (o :: rest) a w := by
  have e1 : Machine.fenced P F = Machine.fenced P Fence.wide := by
    funext m
    simp only [Machine.fenced, hF, hdp, hal, Fence.room, Fence.wide]
  have hCI : ∀ {f args w R}, Calls P f args w R → CallsIn F (n - 1) P f args w R := fun {f args w R} h => by
    refine ⟨by rw [hF]; trivial, fun cs _ => ?_⟩
    obtain ⟨e, w', fr, r, s, x⟩ := (callsIn_wide (n := n - 1)).2 h |>.2 cs (room_wide _)
    exact ⟨e, w', fr, r, by rw [e1]; exact s, x⟩
  unfold wpList at h
  unfold wpListIn
  split
  · rename_i hw
    rw [if_pos hw] at h
    replace h := h.resolve_right (fun hh => hlo hh.2)
    refine ⟨fun _ _ => by rw [hF]; trivial, ?_⟩
    have hs : o.semAt F.round a.eval = execOp a.eval o := by
      cases hr : F.round with
      | none => simp [Oper.semAt_none]
      | some l => exact Oper.semAt_some l _ o hnd
    rw [hs]
    unfold Oper.wp at h
    generalize (execOp a.eval o).run P w = r at h
    unfold Oper.upon at h
    unfold Oper.uponIn
    split at h
    · exact h
    · exact h
    · exact h
    · refine ⟨fun hh => (by rw [hdp] at hh; cases hh), (hCI h).mono ?_⟩
      intro e w2 h2
      cases e with
      | returned v => exact h2
      | panicked ch => exact h2
      | outgrown => exact h2
    · refine ⟨fun hh => (by rw [hdp] at hh; cases hh), fun c cs _ => ?_⟩
      obtain ⟨v, w', r, s⟩ := h c cs
      exact ⟨v, w', r, by rw [e1]; exact stepsIn_wide.2 s⟩
    · exact h
    · exact h.elim
  · rename_i hw
    rw [if_neg hw] at h
    exact ⟨fun _ _ => by rw [hF]; trivial, h⟩
theorem wplIn_nil {F : Fence} {n : Nat} {ops : Array Oper} {Q : Exit → Act → World → Prop} {rest : List Oper} {a : Act} {w : World} (h : wpListIn F n P ops Q rest a w) :
    wpList P ops (fun e a w => match e with | .normal => wpListIn F n P ops Q rest a w | e => Q e a w) [] a w := h
end
end Go.SL
namespace Go.Proofs.YtcpgelpajppgdaaDoor
open Go.RowKit Go.SL

def bval (u : UInt8) : Value := .int .u8 u.toNat
def bvals (l : List UInt8) : List Value := l.map bval

abbrev rowB (ao : Option Addr) (c : Nat) (bs : List UInt8) : HProp := row 5 1 (.slice ao bs.length c) bs.length (bvals bs)
theorem infoB : (Tryd.prog.info? 5).map (fun i => (i.zero, i.size, i.bytes)) = some (some (.int .u8 0), 1, 1) := by kernel_rfl
theorem bvals_append (a b : List UInt8) : bvals (a ++ b) = bvals a ++ bvals b := by simp [bvals]
theorem bvals_length (a : List UInt8) : (bvals a).length = a.length := by simp [bvals]
theorem bvals_one (a : List UInt8) : ∀ u ∈ bvals a, u.oneCell' = true := by
  intro u hu
  obtain ⟨_, _, rfl⟩ := List.mem_map.1 hu
  rfl

/-- append of bytes onto an owned row -/
theorem wpl_appendB {ops : Array Oper} {rest : List Oper} {o : Oper} {a : Act} {Q : Exit → Act → World → Prop} {w : World} {l : List HProp} (hE : Ent l w) (k : Nat) {ao : Option Addr} {c : Nat} {bs : List UInt8}
    (hk : l[k]? = some (rowB ao c bs)) {s y : Operand} (ho : o.op = .call { callee := .builtin .append, args := #[s, y], argTypes := #[124, 124] }) (hw : Region.wanted o (yielded ops a.tmps) = true)
    (hs : a.eval s = .slice ao bs.length c) {x : Value} (hy : a.eval y = x) {ys : List UInt8} (hx : reads x ys.length (bvals ys) w) (hb : bs.length + ys.length ≤ 1099511627776)
    (h : ∀ ao' c' w', Ent (l.set k (rowB ao' c' (bs ++ ys))) w' → wpList Tryd.prog ops Q rest (a.put o.dst (.slice ao' (bs ++ ys).length c')) w') : wpList Tryd.prog ops Q (o :: rest) a w := by
  obtain ⟨i, hi, hz0, hz1, hz2⟩ := info_parts infoB
  refine wpl_append hE k hk ho hw hs hy Tryd.underlying124 hi hz0 hz1 hz2 rfl (by decide) hx (by simp [bvals_length]) (bvals_one ys) (by unfold maxLen; omega) (by omega) ?_
  intro ao' c' w' hE'
  have h' := h ao' c' w'
  rw [rowB, bvals_append, List.length_append] at h'
  exact h' hE'

theorem step_appendB {ops : Array Oper} {o : Oper} {a : Act} {K : Act → World → Prop} {Q : Exit → Act → World → Prop} {E : Prop} {w : World} {l : List HProp} (hE : Ent l w) (k : Nat) {ao : Option Addr} {c : Nat} {bs : List UInt8}
    (hk : l[k]? = some (rowB ao c bs)) {s y : Operand} (ho : o.op = .call { callee := .builtin .append, args := #[s, y], argTypes := #[124, 124] }) (hw : Region.wanted o (yielded ops a.tmps) = true)
    (hs : a.eval s = .slice ao bs.length c) {x : Value} (hy : a.eval y = x) {ys : List UInt8} (hx : reads x ys.length (bvals ys) w) (hb : bs.length + ys.length ≤ 1099511627776)
    (h : ∀ ao' c' w', Ent (l.set k (rowB ao' c' (bs ++ ys))) w' → K (a.put o.dst (.slice ao' (bs ++ ys).length c')) w') : if Region.wanted o (yielded ops a.tmps) = true then Oper.wp Tryd.prog o a w K Q else E := by
  obtain ⟨i, hi, hz0, hz1, hz2⟩ := info_parts infoB
  rw [if_pos hw]
  obtain ⟨ao', c', w', hr, hE'⟩ := hE.append (P := Tryd.prog) o.type k hk Tryd.underlying124 hi hz0 hz1 hz2 rfl (by decide) hx (by simp [bvals_length]) (bvals_one ys) (by unfold maxLen; omega) (by omega)
  unfold Oper.wp execOp
  simp only [ho, resolve, invoke, builtin, Sem.run_bind, Sem.run_pure, Result.andThen_ok, List.map_toArray, List.map_cons, List.map_nil, hs, hy, hr]
  have h' := h ao' c' w'
  rw [rowB, bvals_append, List.length_append] at h'
  exact h' hE'

/-- one byte in a new block, as an owned row -/
theorem Ent.rowB1 {w : World} {l : List HProp} (hE : Ent l w) (x : UInt8) (v : Value) (hv : v = bval x) : Ent (rowB (some ⟨w.heap.size, 0, none⟩) 1 [x] :: l) (w.alloc (.cells #[v] 5)) :=
  (hE.alloc _).toRow 0 rfl (by simp [bvals]) (by simp) (by unfold maxLen; omega) (by simp) (by simp [bvals, hv])

def Ret (Φ : Value → World → Prop) (e : Ending) (w : World) : Prop := ∃ v, e = .returned v ∧ Φ v w
end Go.Proofs.YtcpgelpajppgdaaDoor
namespace Go.SL
theorem Ent.ofBelow {l : List HProp} {w w' : World} (h : Ent l w) (hb : RowKit.Below w.heap.size w w') : Ent l w' := by
  have := h.step0 (Bs := []) ⟨hb.os, hb.tape, hb.output⟩ hb.size hb.block ⟨fun _ => False, fun _ h => h, fun _ h => h.elim⟩
  exact this
end Go.SL
namespace Go.Proofs
open Go.Shelf
shelf_lay Lays.n156 Nm 156 at Tryd as Tryd.lays156
theorem Tryd.Builder_Extra_156 : Builder.Extra Tryd.prog Tryd.lays156_ren where
  sizeBuilder := by kernel_rfl
  liesBuilder := by kernel_rfl
  t5 := Tryd.underlying5
  a5 := Tryd.isAgg5
  z5 := Tryd.sizeOf5
  v5 := Tryd.zeroValue5
  infoByte := by kernel_rfl
  cellsByte := by kernel_rfl
  sizeByte := by kernel_rfl
  neB5 := by decide
shelf_lay Lays.n143 Nm 143 at Tryd as Tryd.lays143
end Go.Proofs
namespace Go.Proofs.YtcpgelpajppgdaaDoor
open Go.RowKit Go.SL
theorem join_none (a : Option Addr) (c : Nat) (sep : ByteArray) (w : World) :
    Calls Tryd.prog 68 #[.slice a 0 c, .string sep] w fun e w' => e = .returned (.string ⟨#[]⟩) ∧ w' = w := Any.strings_Join_none Tryd.lays156 Tryd.Builder_Extra_156 a c sep w
theorem join_many (bk o c : Nat) (xs : List ByteArray) (sep : ByteArray) (w : World) (hcells : ∀ (j : Nat) x, xs[j]? = some x → w.cell? ⟨bk, o + j, none⟩ = some (.string x)) (hbk : bk < w.heap.size) (hN : xs.length ≤ 140737488355328) (hcap : xs.length ≤ c) (hlen : (Lib.join (xs.map (·.data.toList)) sep.data.toList).length ≤ 140737488355328) :
    Calls Tryd.prog 68 #[.slice (some ⟨bk, o, none⟩) xs.length c, .string sep] w fun e w' => e = .returned (.string ⟨(Lib.join (xs.map (·.data.toList)) sep.data.toList).toArray⟩) ∧ Below w.heap.size w w' := Any.strings_Join Tryd.lays156 Tryd.Builder_Extra_156 bk o c xs sep w hcells hbk hN hcap hlen
theorem index_one (s : ByteArray) (c : UInt8) (w : World) :
    Calls Tryd.prog 77 #[.string s, .string ⟨#[c]⟩] w fun e w' => e = .returned (.int .i64 (Lib.indexByte s.data.toList c)) ∧ w' = w := Any.strings_Index_one Tryd.lays143 s c w
end Go.Proofs.YtcpgelpajppgdaaDoor
namespace Go.Proofs.YtcpgelpajppgdaaDoor
open Go.RowKit Go.SL

def goodB (c : UInt8) : Bool := decide (33 ≤ c.toNat) && (decide (c.toNat ≤ 126) && c != 47)
def isName (s : List UInt8) : Bool := s.all goodB && (decide (1 ≤ s.length) && decide (s.length ≤ 16))
def cuts : List UInt8 → List (List UInt8)
  | [] => [[]]
  | c :: s => if c == 47 then [] :: cuts s else match cuts s with
    | [] => [[c]]
    | h :: t => (c :: h) :: t
def splitL (p : List UInt8) : List (List UInt8) := if p = [] then [] else if (cuts p).all isName then (if (cuts p).length ≤ 6 then cuts p else []) else []
def splitE (p : List UInt8) : Int := if p = [] then 0 else if (cuts p).all isName then (if (cuts p).length ≤ 6 then 0 else 6) else 7
def joinP (l : List (List UInt8)) : List UInt8 := Lib.join l [47]

theorem cuts_cons (c : UInt8) (s : List UInt8) : cuts (c :: s) = if c == 47 then [] :: cuts s else match cuts s with
    | [] => [[c]]
    | h :: t => (c :: h) :: t := rfl
theorem cuts_ne (s : List UInt8) : cuts s ≠ [] := by
  cases s with
  | nil => simp [cuts]
  | cons c s =>
    unfold cuts
    split
    · simp
    · split <;> simp
theorem idx_cuts : ∀ s : List UInt8, (Lib.indexByte s 47 = -1 ∧ cuts s = [s]) ∨ ∃ k : Nat, k < s.length ∧ Lib.indexByte s 47 = k ∧ cuts s = s.take k :: cuts (s.drop (k + 1))
  | [] => .inl ⟨rfl, rfl⟩
  | c :: s => by
    rw [Lib.indexByte, cuts_cons]
    cases hc : c == 47 with
    | true => exact .inr ⟨0, by simp, by simp, by simp⟩
    | false =>
      rcases idx_cuts s with ⟨h1, h2⟩ | ⟨k, hk, h1, h2⟩
      · exact .inl ⟨by rw [h1]; simp, by rw [h2]; simp⟩
      · refine .inr ⟨k + 1, by simpa using hk, ?_, ?_⟩
        · rw [h1]
          have : ((k : Int) == -1) = false := by rw [beq_eq_false_iff_ne]; omega
          simp [this]
        · rw [h2, if_neg (by simp)]; rfl
theorem cuts_free {s : List UInt8} (h : ∀ c ∈ s, c ≠ 47) : cuts s = [s] := by
  induction s with
  | nil => rfl
  | cons c s ih =>
    have hc : (c == 47) = false := by simpa using h c (by simp)
    rw [cuts, hc, ih (fun d hd => h d (by simp [hd]))]
    simp
theorem cuts_app {a : List UInt8} (b : List UInt8) (h : ∀ c ∈ a, c ≠ 47) : cuts (a ++ 47 :: b) = a :: cuts b := by
  induction a with
  | nil => simp [cuts]
  | cons c a ih =>
    have hc : (c == 47) = false := by simpa using h c (by simp)
    rw [List.cons_append, cuts, hc, ih (fun d hd => h d (by simp [hd]))]
    simp
theorem joinP_cons (a : List UInt8) {l : List (List UInt8)} (h : l ≠ []) : joinP (a :: l) = a ++ 47 :: joinP l := by
  obtain ⟨b, t, rfl⟩ := List.exists_cons_of_ne_nil h
  rw [joinP, joinP, Lib.join_cons, Lib.join_cons, Lib.joinTail]
  simp [Lib.joinTail]
theorem joinP_one (a : List UInt8) : joinP [a] = a := Lib.join_one a [47]
theorem join_cuts : ∀ s : List UInt8, joinP (cuts s) = s
  | [] => by rw [cuts, joinP_one]
  | c :: s => by
    have ih := join_cuts s
    unfold cuts
    cases hc : c == 47 with
    | true =>
      have : c = 47 := by simpa using hc
      simp only [if_true]
      rw [joinP_cons [] (cuts_ne s), ih, this]
      rfl
    | false =>
      simp only [Bool.false_eq_true, if_false]
      obtain ⟨h, t, e⟩ := List.exists_cons_of_ne_nil (cuts_ne s)
      rw [e] at ih ⊢
      cases t with
      | nil =>
        rw [joinP_one] at ih
        show joinP [c :: h] = c :: s
        rw [joinP_one, ih]
      | cons x t =>
        rw [joinP_cons h (by simp)] at ih
        show joinP ((c :: h) :: x :: t) = c :: s
        rw [joinP_cons (c :: h) (by simp), ← ih]
        rfl
theorem name_free {s : List UInt8} (h : isName s = true) : ∀ c ∈ s, c ≠ 47 := by
  simp only [isName, Bool.and_eq_true] at h
  intro c hc e
  have := List.all_eq_true.1 h.1 c hc
  simp [goodB, e] at this
theorem cuts_join : ∀ l : List (List UInt8), l ≠ [] → l.all isName = true → cuts (joinP l) = l
  | [], h, _ => absurd rfl h
  | [a], _, h => by
    rw [joinP_one]
    simp only [List.all_cons, Bool.and_eq_true] at h
    exact cuts_free (name_free h.1)
  | a :: b :: t, _, h => by
    simp only [List.all_cons, Bool.and_eq_true] at h
    rw [joinP_cons a (by simp), cuts_app _ (name_free h.1), cuts_join (b :: t) (by simp) (by simp [h.2.1, h.2.2])]
theorem cuts_len : ∀ s : List UInt8, (cuts s).length ≤ s.length + 1 ∧ ∀ x ∈ cuts s, x.length ≤ s.length
  | [] => by simp [cuts]
  | c :: s => by
    obtain ⟨h1, h2⟩ := cuts_len s
    unfold cuts
    split
    · refine ⟨by simp only [List.length_cons]; omega, fun x hx => ?_⟩
      simp only [List.mem_cons] at hx
      rcases hx with rfl | hx
      · simp
      · have := h2 x hx; simp only [List.length_cons]; omega
    · obtain ⟨h, t, e⟩ := List.exists_cons_of_ne_nil (cuts_ne s)
      rw [e] at h1 h2 ⊢
      refine ⟨by simp only [List.length_cons] at h1 ⊢; omega, fun x hx => ?_⟩
      simp only [List.mem_cons] at hx
      rcases hx with rfl | hx
      · have := h2 h (by simp); simp only [List.length_cons]; omega
      · have := h2 x (by simp [hx]); simp only [List.length_cons]; omega

/-- what is left when some have come -/
def rst (p : List UInt8) (pre : List (List UInt8)) : List UInt8 := p.drop ((pre.map fun x => x.length + 1).sum)
theorem rst_nil (p : List UInt8) : rst p [] = p := by simp [rst]
theorem rst_step (p : List UInt8) (pre : List (List UInt8)) {k : Nat} (hk : k < (rst p pre).length) : rst p (pre ++ [(rst p pre).take k]) = (rst p pre).drop (k + 1) := by
  have hl : ((rst p pre).take k).length = k := by rw [List.length_take]; omega
  rw [rst, List.map_append, List.sum_append]
  simp only [List.map_cons, List.map_nil, List.sum_cons, List.sum_nil, hl, Nat.add_zero]
  rw [rst, List.drop_drop]

/-- the program's answer, as Split comes to it -/
theorem split_empty : splitL [] = [] ∧ splitE [] = 0 := ⟨rfl, rfl⟩
theorem split_bad {p : List UInt8} (h0 : p ≠ []) {x : List UInt8} (hx : x ∈ cuts p) (h : isName x = false) : splitL p = [] ∧ splitE p = 7 := by
  have : (cuts p).all isName = false := List.all_eq_false.2 ⟨x, hx, by simp [h]⟩
  simp [splitL, splitE, h0, this]
theorem split_many {p : List UInt8} (h0 : p ≠ []) (h : (cuts p).all isName = true) (h6 : ¬ (cuts p).length ≤ 6) : splitL p = [] ∧ splitE p = 6 := by simp [splitL, splitE, h0, h, h6]
theorem split_good {p : List UInt8} (h0 : p ≠ []) (h : (cuts p).all isName = true) (h6 : (cuts p).length ≤ 6) : splitL p = cuts p ∧ splitE p = 0 := by simp [splitL, splitE, h0, h, h6]
end Go.Proofs.YtcpgelpajppgdaaDoor
namespace Go.SL

theorem bl_irrefl : ∀ a : List UInt8, Op.bytesLess a a = false
  | [] => rfl
  | x :: a => by simp [Op.bytesLess, bl_irrefl a]
theorem bl_cons (x y : UInt8) (a b : List UInt8) : Op.bytesLess (x :: a) (y :: b) = true ↔ x.toNat < y.toNat ∨ (x = y ∧ Op.bytesLess a b = true) := by
  simp [Op.bytesLess, UInt8.lt_iff_toNat_lt]
theorem bl_nil_cons (y : UInt8) (b : List UInt8) : Op.bytesLess [] (y :: b) = true := by simp [Op.bytesLess]
theorem bl_nil (a : List UInt8) : Op.bytesLess a [] = false := by cases a <;> rfl
theorem bl_trans : ∀ {a b c : List UInt8}, Op.bytesLess a b = true → Op.bytesLess b c = true → Op.bytesLess a c = true
  | a, [], c, h, _ => by rw [bl_nil] at h; cases h
  | a, y :: b, [], _, h => by rw [bl_nil] at h; cases h
  | [], y :: b, z :: c, _, _ => bl_nil_cons z c
  | x :: a, y :: b, z :: c, h1, h2 => by
    rw [bl_cons] at h1 h2 ⊢
    rcases h1 with h1 | ⟨rfl, h1⟩
    · rcases h2 with h2 | ⟨rfl, h2⟩
      · exact .inl (by omega)
      · exact .inl h1
    · rcases h2 with h2 | ⟨rfl, h2⟩
      · exact .inl h2
      · exact .inr ⟨rfl, bl_trans h1 h2⟩
theorem bl_total : ∀ {a b : List UInt8}, a ≠ b → Op.bytesLess a b = false → Op.bytesLess b a = true
  | [], [], h, _ => absurd rfl h
  | [], y :: b, _, h => by rw [bl_nil_cons] at h; cases h
  | x :: a, [], _, _ => bl_nil_cons x a
  | x :: a, y :: b, hn, h => by
    rw [bl_cons]
    have h' : ¬ (x.toNat < y.toNat ∨ (x = y ∧ Op.bytesLess a b = true)) := by rw [← bl_cons, h]; simp
    by_cases hxy : x = y
    · subst hxy
      refine .inr ⟨rfl, bl_total (fun e => hn (by rw [e])) ?_⟩
      cases hb : Op.bytesLess a b with
      | false => rfl
      | true => exact absurd (.inr ⟨rfl, hb⟩) h'
    · have : x.toNat ≠ y.toNat := fun e => hxy (UInt8.toNat_inj.1 e)
      exact .inl (by omega)
theorem bl_asymm {a b : List UInt8} (h : Op.bytesLess a b = true) : Op.bytesLess b a = false := by
  cases hb : Op.bytesLess b a with
  | false => rfl
  | true => have := bl_trans h hb; rw [bl_irrefl] at this; cases this

theorem bsGo_at {less : Nat → Bool} {n : Nat} : ∀ (f lo hi : Nat), hi - lo ≤ f → lo ≤ hi → hi ≤ n → (∀ i j, i ≤ j → j < n → less j = true → less i = true) → (∀ i, i < lo → less i = true) → (∀ i, hi ≤ i → i < n → less i = false) →
    lo ≤ Lib.bsGo less f lo hi ∧ Lib.bsGo less f lo hi ≤ hi ∧ (∀ i, i < Lib.bsGo less f lo hi → less i = true) ∧ ∀ i, Lib.bsGo less f lo hi ≤ i → i < n → less i = false
  | 0, lo, hi, hf, hl, hn, _, h1, h2 => by
    obtain rfl : lo = hi := by omega
    rw [Lib.bsGo]
    exact ⟨Nat.le_refl _, Nat.le_refl _, h1, h2⟩
  | f + 1, lo, hi, hf, hl, hn, hm, h1, h2 => by
    rw [Lib.bsGo]
    by_cases hlt : lo < hi
    · rw [if_pos hlt]
      cases hc : less ((lo + hi) / 2) with
      | true =>
        simp only [if_true]
        obtain ⟨a, b, c, d⟩ := bsGo_at f ((lo + hi) / 2 + 1) hi (by omega) (by omega) hn hm (fun i hi' => hm i ((lo + hi) / 2) (by omega) (by omega) hc) h2
        exact ⟨by omega, b, c, d⟩
      | false =>
        simp only [Bool.false_eq_true, if_false]
        obtain ⟨a, b, c, d⟩ := bsGo_at f lo ((lo + hi) / 2) (by omega) (by omega) (by omega) hm h1 (fun i hi' hin => by
          cases hli : less i with
          | false => rfl
          | true => rw [hm _ i hi' hin hli] at hc; cases hc)
        exact ⟨a, by omega, c, d⟩
    · rw [if_neg hlt]
      obtain rfl : lo = hi := by omega
      exact ⟨Nat.le_refl _, Nat.le_refl _, h1, h2⟩
theorem countP_at {α : Type} {p : α → Bool} {xs : List α} {r : Nat} (hr : r ≤ xs.length) (h1 : ∀ (i : Nat) (h : i < xs.length), i < r → p xs[i] = true) (h2 : ∀ (i : Nat) (h : i < xs.length), r ≤ i → p xs[i] = false) : xs.countP p = r := by
  have e : xs.countP p = (xs.take r).countP p + (xs.drop r).countP p := by rw [← List.countP_append, List.take_append_drop]
  have e1 : (xs.take r).countP p = r := by
    have : (xs.take r).countP p = (xs.take r).length := List.countP_eq_length.2 fun a ha => by
      obtain ⟨i, hi, rfl⟩ := List.getElem_of_mem ha
      rw [List.length_take] at hi
      rw [List.getElem_take]
      exact h1 i (by omega) (by omega)
    rw [this, List.length_take]
    omega
  have e2 : (xs.drop r).countP p = 0 := List.countP_eq_zero.2 fun a ha => by
    obtain ⟨i, hi, rfl⟩ := List.getElem_of_mem ha
    rw [List.length_drop] at hi
    rw [List.getElem_drop, h2 (r + i) (by omega) (by omega)]
    simp
  omega
/-- do texts rise? -/
def Rising (ks : List (List UInt8)) : Prop := ∀ (i : Nat) (h : i + 1 < ks.length), Op.bytesLess ks[i] ks[i + 1] = true
theorem Rising.lt {ks : List (List UInt8)} (h : Rising ks) : ∀ (d i : Nat) (hj : i + 1 + d < ks.length), Op.bytesLess (ks[i]'(by omega)) (ks[i + 1 + d]) = true
  | 0, i, hj => h i hj
  | d + 1, i, hj => bl_trans (h.lt d i (by omega)) (h (i + 1 + d) (by omega))
theorem Rising.of {ks : List (List UInt8)} (h : Rising ks) {i j : Nat} (hij : i < j) (hj : j < ks.length) : Op.bytesLess (ks[i]'(by omega)) ks[j] = true := by
  have := h.lt (j - i - 1) i (by omega)
  simpa [show i + 1 + (j - i - 1) = j by omega] using this
/-- where a text stands among texts that rise -/
def placeOf (ks : List (List UInt8)) (key : List UInt8) : Nat := ks.countP fun k => Op.bytesLess k key
def isIn (ks : List (List UInt8)) (key : List UInt8) : Bool := ks.contains key
theorem find_at {ks : List (List UInt8)} (h : Rising ks) (key : List UInt8) :
    Lib.bsGo (fun t => Op.bytesLess (ks.getD t []) key) ks.length 0 ks.length = placeOf ks key ∧ placeOf ks key ≤ ks.length ∧
    ks.countP (fun k => Op.bytesLess k key || k == key) = placeOf ks key + (if isIn ks key then 1 else 0) ∧
    (isIn ks key = true ↔ ∃ h : placeOf ks key < ks.length, ks[placeOf ks key] = key) := by
  have get : ∀ (i : Nat) (hi : i < ks.length), ks.getD i [] = ks[i] := fun i hi => by rw [List.getD_eq_getElem?_getD, List.getElem?_eq_getElem hi]; rfl
  have mono : ∀ i j, i ≤ j → j < ks.length → Op.bytesLess (ks.getD j []) key = true → Op.bytesLess (ks.getD i []) key = true := fun i j hij hj hl => by
    rcases Nat.lt_or_eq_of_le hij with h1 | rfl
    · rw [get i (by omega)]
      rw [get j hj] at hl
      exact bl_trans (h.of h1 hj) hl
    · exact hl
  obtain ⟨_, hb, hc, hd⟩ := bsGo_at (less := fun t => Op.bytesLess (ks.getD t []) key) ks.length 0 ks.length (by omega) (Nat.zero_le _) (Nat.le_refl _) mono (fun i hi => absurd hi (Nat.not_lt_zero _)) (fun i hi hn => by omega)
  generalize Lib.bsGo (fun t => Op.bytesLess (ks.getD t []) key) ks.length 0 ks.length = r at *
  have hr : placeOf ks key = r := countP_at hb (fun i hi hir => by have := hc i hir; simp only [get i hi] at this; exact this) (fun i hi hir => by have := hd i hir hi; simp only [get i hi] at this; exact this)
  rw [hr]
  have hin : isIn ks key = true ↔ ∃ h : r < ks.length, ks[r] = key := by
    rw [isIn, List.contains_iff_mem]
    constructor
    · intro hm
      obtain ⟨i, hi, e⟩ := List.getElem_of_mem hm
      have h1 : ¬ i < r := fun hir => by
        have := hc i hir
        simp only [get i hi, e, bl_irrefl] at this
        cases this
      have h2 : ¬ r < i := fun hri => by
        have h3 := h.of hri hi
        rw [e] at h3
        have := hd r (Nat.le_refl _) (by omega)
        simp only [get r (by omega), h3] at this
        cases this
      obtain rfl : i = r := by omega
      exact ⟨hi, e⟩
    · rintro ⟨h1, e⟩
      rw [← e]
      exact List.getElem_mem h1
  refine ⟨rfl, hb, ?_, hin⟩
  cases hi : isIn ks key with
  | true =>
    obtain ⟨h1, e⟩ := hin.1 hi
    refine countP_at (by simp only [if_true]; omega) (fun i hi' hir => ?_) (fun i hi' hir => ?_)
    · simp only [if_true] at hir
      rcases Nat.lt_or_eq_of_le (show i ≤ r by omega) with h2 | rfl
      · have := hc i h2
        simp only [get i hi'] at this
        rw [this]; rfl
      · rw [e]; simp
    · simp only [if_true] at hir
      have := hd i (by omega) hi'
      simp only [get i hi'] at this
      rw [this, Bool.false_or, beq_eq_false_iff_ne]
      intro e2
      have h3 := h.of (show r < i by omega) hi'
      rw [e, e2, bl_irrefl] at h3
      cases h3
  | false =>
    have hni : ∀ (i : Nat) (hi' : i < ks.length), ks[i] ≠ key := fun i hi' e => by
      have : isIn ks key = true := by rw [isIn, List.contains_iff_mem, ← e]; exact List.getElem_mem hi'
      rw [hi] at this; cases this
    refine countP_at (by simp; omega) (fun i hi' hir => ?_) (fun i hi' hir => ?_)
    · have := hc i (by simpa using hir)
      simp only [get i hi'] at this
      rw [this]; rfl
    · have := hd i (by simpa using hir) hi'
      simp only [get i hi'] at this
      rw [this, Bool.false_or, beq_eq_false_iff_ne]
      exact hni i hi'
/-- of a text that is there -/
theorem place_of_mem {ks : List (List UInt8)} (h : Rising ks) {i : Nat} (hi : i < ks.length) : placeOf ks ks[i] = i ∧ isIn ks ks[i] = true := by
  refine ⟨countP_at (by omega) (fun j hj hji => h.of hji hi) (fun j hj hij => ?_), by rw [isIn, List.contains_iff_mem]; exact List.getElem_mem hi⟩
  rcases Nat.lt_or_eq_of_le hij with h1 | rfl
  · exact bl_asymm (h.of h1 hj)
  · exact bl_irrefl _
end Go.SL
namespace Go.Proofs.YtcpgelpajppgdaaDoor
open Go.RowKit Go.SL

/-- the order of two paths' texts -/
def lessL : List (List UInt8) → List (List UInt8) → Bool
  | _, [] => false
  | [], _ :: _ => true
  | a :: l, b :: m => Op.bytesLess a b || (a == b && lessL l m)
theorem lessL_cons (a b : List UInt8) (l m : List (List UInt8)) : lessL (a :: l) (b :: m) = true ↔ Op.bytesLess a b = true ∨ (a = b ∧ lessL l m = true) := by
  rw [lessL, Bool.or_eq_true, Bool.and_eq_true, beq_iff_eq]
theorem lessL_irrefl : ∀ l, lessL l l = false
  | [] => rfl
  | a :: l => by
    rw [lessL, bl_irrefl, lessL_irrefl l]
    simp
theorem lessL_nil (a : List (List UInt8)) : lessL a [] = false := by cases a <;> rfl
theorem lessL_trans : ∀ {a b c : List (List UInt8)}, lessL a b = true → lessL b c = true → lessL a c = true
  | a, b, [], _, h => by rw [lessL_nil] at h; cases h
  | a, [], _ :: _, h, _ => by rw [lessL_nil] at h; cases h
  | [], _ :: _, _ :: _, _, _ => rfl
  | x :: a, y :: b, z :: c, h1, h2 => by
    rcases (lessL_cons _ _ _ _).1 h1 with e1 | ⟨rfl, e1⟩
    · rcases (lessL_cons _ _ _ _).1 h2 with e2 | ⟨rfl, e2⟩
      · exact (lessL_cons _ _ _ _).2 (.inl (bl_trans e1 e2))
      · exact (lessL_cons _ _ _ _).2 (.inl e1)
    · rcases (lessL_cons _ _ _ _).1 h2 with e2 | ⟨rfl, e2⟩
      · exact (lessL_cons _ _ _ _).2 (.inl e2)
      · exact (lessL_cons _ _ _ _).2 (.inr ⟨rfl, lessL_trans e1 e2⟩)
theorem lessL_total : ∀ {a b : List (List UInt8)}, a ≠ b → lessL a b = false → lessL b a = true
  | [], [], h, _ => absurd rfl h
  | [], _ :: _, _, h => by cases h
  | _ :: _, [], _, _ => rfl
  | x :: a, y :: b, h, h1 => by
    have h2 : ¬ (Op.bytesLess x y = true ∨ (x = y ∧ lessL a b = true)) := fun e => by rw [(lessL_cons _ _ _ _).2 e] at h1; cases h1
    by_cases hxy : x = y
    · subst hxy
      refine (lessL_cons _ _ _ _).2 (.inr ⟨rfl, lessL_total (fun e => h (by rw [e])) ?_⟩)
      cases h3 : lessL a b with
      | false => rfl
      | true => exact absurd (.inr ⟨rfl, h3⟩) h2
    · refine (lessL_cons _ _ _ _).2 (.inl (bl_total hxy ?_))
      cases h3 : Op.bytesLess x y with
      | false => rfl
      | true => exact absurd (.inl h3) h2
theorem lessL_app : ∀ (q : List (List UInt8)) (a b : List (List UInt8)), lessL (q ++ a) (q ++ b) = lessL a b
  | [], _, _ => rfl
  | x :: q, a, b => by
    rw [Bool.eq_iff_iff, List.cons_append, List.cons_append, lessL_cons, lessL_app q a b, bl_irrefl]
    simp
/-- is a path ahead of another one? -/
def lessP (p q : List UInt8) : Bool := lessL (cuts p) (cuts q)
theorem cuts_inj {p q : List UInt8} (h : cuts p = cuts q) : p = q := by rw [← join_cuts p, ← join_cuts q, h]
theorem lessP_irrefl (p : List UInt8) : lessP p p = false := lessL_irrefl _
theorem lessP_trans {a b c : List UInt8} (h1 : lessP a b = true) (h2 : lessP b c = true) : lessP a c = true := lessL_trans h1 h2
theorem lessP_total {a b : List UInt8} (h : a ≠ b) (h1 : lessP a b = false) : lessP b a = true := lessL_total (fun e => h (cuts_inj e)) h1
theorem lessP_asymm {a b : List UInt8} (h : lessP a b = true) : lessP b a = false := by
  cases h2 : lessP b a with
  | false => rfl
  | true => have := lessP_trans h h2; rw [lessP_irrefl] at this; cases this
theorem lessP_ne {a b : List UInt8} (h : lessP a b = true) : a ≠ b := by
  rintro rfl
  rw [lessP_irrefl] at h
  cases h
/-- paths that rise -/
def RiseP (l : List (List UInt8)) : Prop := l.Pairwise fun a b => lessP a b = true
theorem RiseP.nodup {l : List (List UInt8)} (h : RiseP l) : l.Nodup := List.Pairwise.imp (fun h => lessP_ne h) h
/-- rising paths are told by what is among them -/
theorem riseP_ext : ∀ {a b : List (List UInt8)}, RiseP a → RiseP b → (∀ k, k ∈ a ↔ k ∈ b) → a = b
  | [], [], _, _, _ => rfl
  | [], y :: b, _, _, h => absurd ((h y).2 (by simp)) (by simp)
  | x :: a, [], _, _, h => absurd ((h x).1 (by simp)) (by simp)
  | x :: a, y :: b, ha, hb, h => by
    obtain ⟨ha1, ha2⟩ := List.pairwise_cons.1 ha
    obtain ⟨hb1, hb2⟩ := List.pairwise_cons.1 hb
    have hxy : x = y := by
      apply Classical.byContradiction
      intro hne
      have h1 : lessP y x = true := by
        rcases List.mem_cons.1 ((h x).1 (by simp)) with e | e
        · exact absurd e hne
        · exact hb1 x e
      have h2 : lessP x y = true := by
        rcases List.mem_cons.1 ((h y).2 (by simp)) with e | e
        · exact absurd e.symm hne
        · exact ha1 y e
      rw [lessP_asymm h1] at h2
      cases h2
    subst hxy
    congr 1
    refine riseP_ext ha2 hb2 fun k => ?_
    constructor
    · intro hk
      rcases List.mem_cons.1 ((h k).1 (List.mem_cons_of_mem _ hk)) with rfl | e
      · exact absurd rfl (lessP_ne (ha1 k hk))
      · exact e
    · intro hk
      rcases List.mem_cons.1 ((h k).2 (List.mem_cons_of_mem _ hk)) with rfl | e
      · exact absurd rfl (lessP_ne (hb1 k hk))
      · exact e
/-- a path put in its place -/
def insP (k : List UInt8) : List (List UInt8) → List (List UInt8)
  | [] => [k]
  | x :: r => if lessP k x = true then k :: x :: r else if x = k then x :: r else x :: insP k r
theorem insP_mem {k j : List UInt8} : ∀ {l : List (List UInt8)}, j ∈ insP k l ↔ j = k ∨ j ∈ l
  | [] => by simp [insP]
  | x :: r => by
    unfold insP
    split
    · simp
    · split
      · next h => subst h; simp
      · rw [List.mem_cons, insP_mem (l := r), List.mem_cons]
        constructor
        · rintro (h | h | h)
          · exact .inr (.inl h)
          · exact .inl h
          · exact .inr (.inr h)
        · rintro (h | h | h)
          · exact .inr (.inl h)
          · exact .inl h
          · exact .inr (.inr h)
theorem insP_rise {k : List UInt8} : ∀ {l : List (List UInt8)}, RiseP l → RiseP (insP k l)
  | [], _ => List.pairwise_singleton _ _
  | x :: r, h => by
    obtain ⟨h1, h2⟩ := List.pairwise_cons.1 h
    unfold insP
    split
    · next hk => exact List.pairwise_cons.2 ⟨fun y hy => by
        rcases List.mem_cons.1 hy with rfl | hy
        · exact hk
        · exact lessP_trans hk (h1 y hy), h⟩
    · split
      · exact h
      · next hk hne =>
        have hx : lessP x k = true := lessP_total (fun e => hne e.symm) (by simpa using hk)
        exact List.pairwise_cons.2 ⟨fun y hy => by
          rcases insP_mem.1 hy with rfl | hy
          · exact hx
          · exact h1 y hy, insP_rise h2⟩
/-- paths, each once, in order -/
def sortK (l : List (List UInt8)) : List (List UInt8) := l.foldl (fun out k => insP k out) []
theorem sortK_go : ∀ (l out : List (List UInt8)), RiseP out → RiseP (l.foldl (fun out k => insP k out) out) ∧ ∀ j, j ∈ l.foldl (fun out k => insP k out) out ↔ j ∈ out ∨ j ∈ l
  | [], out, h => ⟨h, fun j => by simp⟩
  | k :: l, out, h => by
    obtain ⟨h1, h2⟩ := sortK_go l (insP k out) (insP_rise h)
    refine ⟨h1, fun j => ?_⟩
    rw [List.foldl_cons, h2, insP_mem, List.mem_cons]
    constructor
    · rintro ((h | h) | h)
      · exact .inr (.inl h)
      · exact .inl h
      · exact .inr (.inr h)
    · rintro (h | h | h)
      · exact .inl (.inr h)
      · exact .inl (.inl h)
      · exact .inr h
theorem sortK_rise (l : List (List UInt8)) : RiseP (sortK l) := (sortK_go l [] List.Pairwise.nil).1
theorem sortK_mem {l : List (List UInt8)} {j : List UInt8} : j ∈ sortK l ↔ j ∈ l := by
  have := (sortK_go l [] List.Pairwise.nil).2 j
  simpa [sortK] using this
/-- two rows side by side -/
def bothB {α β : Type} (f : α → List UInt8) (g : β → List UInt8) : Nat → List α → List β → List (Option α × Option β)
  | 0, _, _ => []
  | _ + 1, [], [] => []
  | n + 1, [], y :: m => (none, some y) :: bothB f g n [] m
  | n + 1, x :: l, [] => (some x, none) :: bothB f g n l []
  | n + 1, x :: l, y :: m => if lessP (f x) (g y) = true then (some x, none) :: bothB f g n l (y :: m) else if lessP (g y) (f x) = true then (none, some y) :: bothB f g n (x :: l) m else (some x, some y) :: bothB f g n l m
/-- the key of a pair -/
def keyB {α β : Type} (f : α → List UInt8) (g : β → List UInt8) : Option α × Option β → List UInt8
  | (some x, _) => f x
  | (none, some y) => g y
  | (none, none) => []
end Go.Proofs.YtcpgelpajppgdaaDoor
namespace Go.Proofs.YtcpgelpajppgdaaDoor
open Go.RowKit Go.SL

/-- the order of two paths -/
def ordP (p q : List UInt8) : Int := if lessP p q = true then -1 else if lessP q p = true then 1 else 0
theorem ordP_lt {p q : List UInt8} : ordP p q = -1 ↔ lessP p q = true := by
  unfold ordP
  constructor
  · intro h
    split at h
    · assumption
    · split at h <;> cases h
  · intro h
    rw [if_pos h]
theorem ordP_eq {p q : List UInt8} : ordP p q = 0 ↔ p = q := by
  unfold ordP
  constructor
  · intro h
    split at h
    · cases h
    · next h1 =>
      split at h
      · cases h
      · next h2 =>
        apply Classical.byContradiction
        intro hne
        exact h2 (lessP_total hne (by simpa using h1))
  · rintro rfl
    rw [lessP_irrefl]
    rfl
theorem ordP_gt {p q : List UInt8} : ordP p q = 1 ↔ lessP q p = true := by
  unfold ordP
  constructor
  · intro h
    split at h
    · cases h
    · split at h
      · assumption
      · cases h
  · intro h
    rw [if_neg (by rw [lessP_asymm h]; simp), if_pos h]
/-- alike so far, then not -/
theorem lessL_at {a b : List (List UInt8)} {i : Nat} (h : a.take i = b.take i) (ha : i < a.length) (hb : i < b.length) : lessL a b = (Op.bytesLess a[i] b[i] || (a[i] == b[i] && lessL (a.drop (i + 1)) (b.drop (i + 1)))) := by
  have e1 : a = a.take i ++ a[i] :: a.drop (i + 1) := by rw [List.getElem_cons_drop, List.take_append_drop]
  have e2 : b = b.take i ++ b[i] :: b.drop (i + 1) := by rw [List.getElem_cons_drop, List.take_append_drop]
  have e3 : lessL a b = lessL (a.take i ++ a[i] :: a.drop (i + 1)) (a.take i ++ b[i] :: b.drop (i + 1)) := by
    conv => lhs; rw [e1, e2]
    rw [h]
  rw [e3, lessL_app, lessL]
theorem lessL_end {a b : List (List UInt8)} (h : a.take (min a.length b.length) = b.take (min a.length b.length)) : lessL a b = decide (a.length < b.length) := by
  rcases Nat.lt_or_ge a.length b.length with h1 | h1
  · rw [Nat.min_eq_left (by omega), List.take_length] at h
    have e : b = a ++ b.drop a.length := by
      conv => lhs; rw [← List.take_append_drop a.length b]
      rw [← h]
    have h2 := lessL_app a [] (b.drop a.length)
    rw [List.append_nil, ← e] at h2
    rw [h2, decide_eq_true h1]
    cases hd : b.drop a.length with
    | nil => have := List.drop_eq_nil_iff.1 hd; omega
    | cons x r => rfl
  · rw [Nat.min_eq_right h1, List.take_length] at h
    have e : a = b ++ a.drop b.length := by
      conv => lhs; rw [← List.take_append_drop b.length a]
      rw [h]
    have h2 := lessL_app b (a.drop b.length) []
    rw [List.append_nil, ← e] at h2
    rw [h2, decide_eq_false (by omega), lessL_nil]
/-- put in its place, as it is found by steps -/
theorem insP_at : ∀ {out : List (List UInt8)} {k : List UInt8} {i : Nat}, RiseP out → i ≤ out.length → (∀ x ∈ out.take i, lessP x k = true ∨ x = k) → (∀ h : i < out.length, lessP k out[i] = true) →
    insP k out = if k ∈ out.take i then out else out.take i ++ k :: out.drop i
  | [], k, i, _, hi, _, _ => by
    obtain rfl : i = 0 := by simpa using hi
    rfl
  | x :: r, k, 0, _, _, _, h2 => by
    have := h2 (by simp)
    simp only [List.getElem_cons_zero] at this
    rw [insP, if_pos this]
    simp
  | x :: r, k, i + 1, hr, hi, h1, h2 => by
    obtain ⟨hr1, hr2⟩ := List.pairwise_cons.1 hr
    have hx := h1 x (by simp)
    have hkx : lessP k x = false := by
      rcases hx with h | rfl
      · exact lessP_asymm h
      · exact lessP_irrefl _
    rw [insP, if_neg (by rw [hkx]; simp)]
    by_cases hxk : x = k
    · rw [if_pos hxk, if_pos (by simp [hxk])]
    · rw [if_neg hxk, insP_at (i := i) hr2 (by simpa using hi) (fun y hy => h1 y (by simp [hy])) (fun h => by have := h2 (by simpa using h); simpa using this)]
      simp only [List.take_succ_cons, List.drop_succ_cons, List.mem_cons]
      by_cases hk : k ∈ r.take i
      · rw [if_pos hk, if_pos (.inr hk)]
      · rw [if_neg hk, if_neg (by rintro (h | h); exact hxk h.symm; exact hk h)]
        rfl
end Go.Proofs.YtcpgelpajppgdaaDoor
namespace Go.SL
theorem bytes_join (a b : List UInt8) : (⟨a.toArray⟩ : ByteArray) ++ ⟨b.toArray⟩ = ⟨(a ++ b).toArray⟩ := by
  apply ByteArray.ext
  simp [ByteArray.data_append]
theorem bytes_size (a : List UInt8) : (⟨a.toArray⟩ : ByteArray).size = a.length := by simp [ByteArray.size]
theorem wrap_id {n : Int} (h : 0 ≤ n ∧ n < 9223372036854775808) : IntKind.i64.wrap n = n := by
  simp only [IntKind.wrap, IntKind.bits, IntKind.signed]
  simp
  omega
theorem wrapU_id {n : Int} (h : 0 ≤ n ∧ n < 18446744073709551616) : IntKind.u64.wrap n = n := by
  simp only [IntKind.wrap, IntKind.bits, IntKind.signed]
  simp
  omega
theorem run_index_s {P : Program} {t : TypeId} (h : P.underlying t = some .string) {bs : List UInt8} {k : Nat} (hk : k < bs.length) (w : World) :
    (Instr.index t (.string ⟨bs.toArray⟩) (.int .i64 (k : Int))).run P w = .ok (.int .u8 ((bs.getD k 0).toNat : Int)) w := by
  have h1 : (⟨bs.toArray⟩ : ByteArray)[k]? = some (bs.getD k 0) := by
    rw [List.getD_eq_getElem?_getD, List.getElem?_eq_getElem hk]
    have : k < (⟨bs.toArray⟩ : ByteArray).size := by simpa [ByteArray.size] using hk
    rw [getElem?_pos (⟨bs.toArray⟩ : ByteArray) k this]
    simp [ByteArray.getElem_eq_getElem_data]
  simp [Instr.index, asIntOf, run_underlying h, h1]
theorem extract_mk (bs : List UInt8) (a b : Nat) : (⟨bs.toArray⟩ : ByteArray).extract a b = ⟨((bs.drop a).take (b - a)).toArray⟩ := by
  apply ByteArray.ext
  simp [ByteArray.data_extract]
theorem run_slice_sHi {P : Program} {t : TypeId} (h : P.underlying t = some .string) {bs : List UInt8} {k : Nat} (hk : k ≤ bs.length) (w : World) :
    (Instr.sliceAt t (.string ⟨bs.toArray⟩) none (some (.int .i64 (k : Int))) none).run P w = .ok (.string ⟨(bs.take k).toArray⟩) w := by
  have e := extract_mk bs 0 k
  simp only [List.drop_zero, Nat.sub_zero] at e
  have a1 : ((k : Int) ≤ ((⟨bs.toArray⟩ : ByteArray).size : Int)) := by rw [bytes_size]; omega
  have a2 : ¬ (⟨bs.toArray⟩ : ByteArray).size < k := by rw [bytes_size]; omega
  simp [Instr.sliceAt, Instr.slice, run_underlying h, Instr.sliceBounds, Instr.sliceBound, asIntOf, a1, a2, e]
theorem run_slice_s {P : Program} {t : TypeId} (h : P.underlying t = some .string) {bs : List UInt8} {a k : Nat} (ha : a ≤ k) (hk : k ≤ bs.length) (w : World) :
    (Instr.sliceAt t (.string ⟨bs.toArray⟩) (some (.int .i64 (a : Int))) (some (.int .i64 (k : Int))) none).run P w = .ok (.string ⟨((bs.drop a).take (k - a)).toArray⟩) w := by
  have e := extract_mk bs a k
  have a1 : ((k : Int) ≤ ((⟨bs.toArray⟩ : ByteArray).size : Int)) := by rw [bytes_size]; omega
  have a2 : ¬ (⟨bs.toArray⟩ : ByteArray).size < k := by rw [bytes_size]; omega
  have a3 : ¬ (k < a) := by omega
  simp [Instr.sliceAt, Instr.slice, run_underlying h, Instr.sliceBounds, Instr.sliceBound, asIntOf, a1, a2, a3, ha, e]
theorem run_slice_sLo {P : Program} {t : TypeId} (h : P.underlying t = some .string) {bs : List UInt8} {k : Nat} (hk : k ≤ bs.length) (w : World) :
    (Instr.sliceAt t (.string ⟨bs.toArray⟩) (some (.int .i64 (k : Int))) none none).run P w = .ok (.string ⟨(bs.drop k).toArray⟩) w := by
  have e := extract_mk bs k (⟨bs.toArray⟩ : ByteArray).size
  have e2 : ((bs.drop k).take ((⟨bs.toArray⟩ : ByteArray).size - k)) = bs.drop k := List.take_of_length_le (by rw [bytes_size]; simp)
  rw [e2] at e
  have a1 : ((k : Int) ≤ ((⟨bs.toArray⟩ : ByteArray).size : Int)) := by rw [bytes_size]; omega
  have a2 : ¬ (⟨bs.toArray⟩ : ByteArray).size < k := by rw [bytes_size]; omega
  simp [Instr.sliceAt, Instr.slice, run_underlying h, Instr.sliceBounds, Instr.sliceBound, asIntOf, a1, a2, e]
end Go.SL
namespace Go.Proofs.YtcpgelpajppgdaaDoor
open Go.RowKit Go.SL

theorem str_at (s : List UInt8) (k : Nat) (hb : k < (⟨s.toArray⟩ : ByteArray).size) : (⟨s.toArray⟩ : ByteArray)[k]'hb = s.getD k 0 := by
  have hk : k < s.length := by rwa [bytes_size] at hb
  rw [List.getD_eq_getElem?_getD, List.getElem?_eq_getElem hk]
  rfl
set_option maxRecDepth 100000 in
set_option maxHeartbeats 1000000 in
theorem good_any (c : UInt8) (w : World) : Calls Tryd.prog 70 #[.int .u8 c.toNat] w (fun e w' => e = .returned (.bool (goodB c)) ∧ w = w') := by
  have h : goodB c = (decide ((33 : Int) ≤ (c.toNat : Int)) && (decide ((c.toNat : Int) ≤ 126) && ((c.toNat : Int) != 47))) := by
    have e : (c != 47) = ((c.toNat : Int) != 47) := by
      rw [Bool.eq_iff_iff]
      simp [← UInt8.toNat_inj]
      omega
    rw [goodB, e]
    congr 1
    · exact decide_eq_decide.2 (by omega)
    · congr 1
      exact decide_eq_decide.2 (by omega)
  have H := SL.hid h
  clear h
  have h47 : (⟨#[47]⟩ : ByteArray)[0]'(by decide) = 47 := rfl
  generalize goodB c = g at *
  generalize c.toNat = n at *
  cases h1 : decide ((33 : Int) ≤ (n : Int)) with
  | false =>
    have R := SL.hid (show g = false by rw [H.out, h1]; rfl)
    go_enter Tryd.func70, Tryd.ntmps70
    go_wp2_with (first | go_skip)
    go_ret
    exact ⟨by rw [R.out]; rfl, rfl⟩
  | true =>
    cases h2 : decide ((n : Int) ≤ 126) with
    | false =>
      have R := SL.hid (show g = false by rw [H.out, h1, h2]; rfl)
      go_enter Tryd.func70, Tryd.ntmps70
      go_wp2_with (first | go_skip)
      go_ret
      exact ⟨by rw [R.out]; rfl, rfl⟩
    | true =>
      cases h3 : ((n : Int) != 47)
      all_goals
        have R := SL.hid (H.out.trans (show _ = ((n : Int) != 47) by rw [h1, h2]; rfl))
        rw [h3] at R
        go_enter Tryd.func70, Tryd.ntmps70
        go_wp2_with (first | go_skip)
        go_ret
        exact ⟨by rw [R.out]; rfl, rfl⟩

def NmRel (s : List UInt8) (i : Value) : Prop := ∃ k : Nat, k ≤ s.length ∧ i = .int .i64 k ∧ (s.take k).all goodB = true
theorem all_step {s : List UInt8} {k : Nat} (h : k < s.length) (ha : (s.take k).all goodB = true) : (goodB (s.getD k 0) = true → (s.take (k + 1)).all goodB = true) ∧ (goodB (s.getD k 0) = false → isName s = false) := by
  have e : s.getD k 0 = s[k] := by rw [List.getD_eq_getElem?_getD, List.getElem?_eq_getElem h]; rfl
  rw [e]
  refine ⟨fun hg => ?_, fun hg => ?_⟩
  · rw [List.take_succ_eq_append_getElem h, List.all_append, ha]
    simp [hg]
  · have : s.all goodB = false := List.all_eq_false.2 ⟨_, List.getElem_mem h, by simp [hg]⟩
    rw [isName, this, Bool.false_and]
set_option maxRecDepth 100000 in
set_option maxHeartbeats 1000000 in
theorem Name_any (s : List UInt8) (hs : s.length ≤ 1099511627776) (w : World) : Calls Tryd.prog 58 #[.string ⟨s.toArray⟩] w (fun e w' => e = .returned (.bool (isName s)) ∧ w = w') := by
  go_enter Tryd.func58, Tryd.ntmps58
  go_wp2
  go_loop [7] (fun i => NmRel s i) (fun i => s.length - (intOf i).toNat)
  case atStart => exact ⟨0, Nat.zero_le _, rfl, rfl⟩
  case round =>
    obtain ⟨k, hkl, rfl, hall⟩ := hrel
    by_cases hlt : k < s.length
    · have hix := str_at s k (by rw [bytes_size]; exact hlt)
      have Hs := SL.hid (all_step hlt hall)
      have hg := fun w => good_any (s.getD k 0) w
      clear hall
      generalize s.getD k 0 = c at *
      cases hgc : goodB c with
      | false =>
        rw [hgc] at hg
        have R := SL.hid (Hs.out.2 hgc)
        clear hgc
        go_wp2_with (first
          | go_skip
          | (go_at_call 70; refine (hg _).mono ?_; rintro e w2 ⟨rfl, rfl⟩))
        go_ret
        exact ⟨by rw [R.out]; rfl, rfl⟩
      | true =>
        rw [hgc] at hg
        have R := SL.hid (Hs.out.1 hgc)
        clear hgc
        go_wp2_with (first
          | go_skip
          | (go_at_call 70; refine (hg _).mono ?_; rintro e w2 ⟨rfl, rfl⟩))
        go_round
        case rel => exact ⟨k + 1, hlt, by simp, R.out⟩
        case measure => simp [intOf]; omega
    · have ha : s.all goodB = true := by rwa [show k = s.length by omega, List.take_length] at hall
      have R := SL.hid (show isName s = (decide ((1 : Int) ≤ (s.length : Int)) && decide ((s.length : Int) ≤ 16)) by
        rw [isName, ha, Bool.true_and]
        congr 1
        · exact decide_eq_decide.2 (by omega)
        · exact decide_eq_decide.2 (by omega))
      clear hall ha
      have hlt' : decide (k < s.length) = false := decide_eq_false hlt
      clear hlt hkl
      cases h1 : decide ((1 : Int) ≤ (s.length : Int)) with
      | false =>
        have R1 := SL.hid (show isName s = false by rw [R.out, h1]; rfl)
        go_wp2_with (first | go_skip)
        go_ret
        exact ⟨by rw [R1.out]; rfl, rfl⟩
      | true =>
        have R1 := SL.hid (show isName s = decide ((s.length : Int) ≤ 16) by rw [R.out, h1]; rfl)
        cases h2 : decide ((s.length : Int) ≤ 16)
        all_goals
          rw [h2] at R1
          go_wp2_with (first | go_skip)
          go_ret
          exact ⟨by rw [R1.out]; rfl, rfl⟩

set_option maxRecDepth 100000 in
set_option maxHeartbeats 1000000 in
theorem rName_any (s : List UInt8) (hs : s.length ≤ 1099511627776) (w : World) : Calls Tryd.prog 78 #[.string ⟨s.toArray⟩] w (fun e w' => e = .returned (.bool (isName s)) ∧ w = w') := by
  go_enter Tryd.func78, Tryd.ntmps78
  go_wp2
  go_loop [3] (fun i => NmRel s i) (fun i => s.length - (intOf i).toNat)
  case atStart => exact ⟨0, Nat.zero_le _, rfl, rfl⟩
  case round =>
    obtain ⟨k, hkl, rfl, hall⟩ := hrel
    by_cases hlt : k < s.length
    · have hix := str_at s k (by rw [bytes_size]; exact hlt)
      have Hs := SL.hid (all_step hlt hall)
      have hgc : goodB (s.getD k 0) = !(decide (((s.getD k 0).toNat : Int) < 33) || (decide (126 < ((s.getD k 0).toNat : Int)) || (((s.getD k 0).toNat : Int) == 47))) := by
        generalize s.getD k 0 = c
        have e : (c != 47) = !((c.toNat : Int) == 47) := by
          rw [Bool.eq_iff_iff]
          simp [← UInt8.toNat_inj]
          omega
        rw [goodB, e]
        by_cases a1 : c.toNat < 33
        · have b1 : decide (33 ≤ c.toNat) = false := decide_eq_false (by omega)
          have b2 : decide ((c.toNat : Int) < 33) = true := decide_eq_true (by omega)
          rw [b1, b2]; rfl
        · have b1 : decide (33 ≤ c.toNat) = true := decide_eq_true (by omega)
          have b2 : decide ((c.toNat : Int) < 33) = false := decide_eq_false (by omega)
          rw [b1, b2]
          by_cases a3 : c.toNat ≤ 126
          · rw [decide_eq_true a3, decide_eq_false (show ¬ (126 : Int) < (c.toNat : Int) by omega)]; simp
          · rw [decide_eq_false a3, decide_eq_true (show (126 : Int) < (c.toNat : Int) by omega)]; simp
      have Hgc := SL.hid hgc
      clear hall hgc
      generalize goodB (s.getD k 0) = g at *
      generalize s.getD k 0 = cc at *
      generalize hn : cc.toNat = n at *
      cases h1 : decide ((n : Int) < 33) with
      | true =>
        have R := SL.hid (Hs.out.2 (by rw [Hgc.out, h1]; rfl))
        go_wp2_with (first | go_skip)
        go_ret
        exact ⟨by rw [R.out]; rfl, rfl⟩
      | false =>
        cases h2 : decide ((126 : Int) < (n : Int)) with
        | true =>
          have R := SL.hid (Hs.out.2 (by rw [Hgc.out, h1, h2]; rfl))
          go_wp2_with (first | go_skip)
          go_ret
          exact ⟨by rw [R.out]; rfl, rfl⟩
        | false =>
          cases h3 : ((n : Int) == 47) with
          | true =>
            have R := SL.hid (Hs.out.2 (by rw [Hgc.out, h1, h2, h3]; rfl))
            go_wp2_with (first | go_skip)
            go_ret
            exact ⟨by rw [R.out]; rfl, rfl⟩
          | false =>
            have R := SL.hid (Hs.out.1 (by rw [Hgc.out, h1, h2, h3]; rfl))
            go_wp2_with (first | go_skip)
            go_round
            case rel => exact ⟨k + 1, hlt, by simp, R.out⟩
            case measure => simp [intOf]; omega
    · have ha : s.all goodB = true := by rwa [show k = s.length by omega, List.take_length] at hall
      have R := SL.hid (show isName s = (decide (0 < s.length) && decide ((s.length : Int) < 17)) by
        rw [isName, ha, Bool.true_and]
        congr 1
        exact decide_eq_decide.2 (by omega))
      clear hall ha
      have hlt' : decide (k < s.length) = false := decide_eq_false hlt
      clear hlt hkl
      cases h1 : decide (0 < s.length) with
      | false =>
        have R1 := SL.hid (show isName s = false by rw [R.out, h1]; rfl)
        go_wp2_with (first | go_skip)
        go_ret
        exact ⟨by rw [R1.out]; rfl, rfl⟩
      | true =>
        have R1 := SL.hid (show isName s = decide ((s.length : Int) < 17) by rw [R.out, h1]; rfl)
        cases h2 : decide ((s.length : Int) < 17)
        all_goals
          rw [h2] at R1
          go_wp2_with (first | go_skip)
          go_ret
          exact ⟨by rw [R1.out]; rfl, rfl⟩
end Go.Proofs.YtcpgelpajppgdaaDoor
namespace Go.Proofs.YtcpgelpajppgdaaDoor
open Go.RowKit Go.SL

theorem wide_fn (f : FuncId) : Fence.wide.fn f = True := rfl
theorem wide_depth : Fence.wide.depth = none := rfl
attribute [local go_sem] Oper.semAt_some wide_fn wide_depth

/-- the iterator's own heap: what is left, the text between, how much of it is kept -/
def itSt (p : List UInt8) (bs bsep bsave : Nat) (pre : List (List UInt8)) : List HProp :=
  [pt bs (.cells #[.string ⟨(rst p pre).toArray⟩] 9), pt bsep (.cells #[.string ⟨#[47]⟩] 9), pt bsave (.cells #[.int .i64 0] 3)]
def strLeft (b : Nat) (w : World) : Nat := match w.cell? ⟨b, 0, none⟩ with
  | some (.string s) => s.size
  | _ => 0

theorem strLeft_eq {b : Nat} {w : World} {s : List UInt8} (h : w.cell? ⟨b, 0, none⟩ = some (.string ⟨s.toArray⟩)) : strLeft b w = s.length := by
  unfold strLeft
  rw [h]
  exact bytes_size s
theorem perm_rev3 {A B C : HProp} {l : List HProp} : (A :: B :: C :: l).Perm (C :: B :: A :: l) :=
  (List.Perm.swap B A (C :: l)).trans (((List.Perm.swap C A l).cons B).trans (List.Perm.swap C B (A :: l)))
set_option maxRecDepth 100000 in
theorem splitSeq_any (p : List UInt8) {l : List HProp} {w : World} (hE : Ent l w) :
    Calls Tryd.prog 69 #[.string ⟨p.toArray⟩, .string ⟨#[47]⟩, .int .i64 0] w (Ret fun v w' => ∃ bs bsep bsave, v = .func (.func 86) #[] #[.pointer (some ⟨bsep, 0, none⟩), .pointer (some ⟨bs, 0, none⟩), .pointer (some ⟨bsave, 0, none⟩)] ∧ Ent (itSt p bs bsep bsave [] ++ l) w') := by
  go_enter Tryd.func69, Tryd.ntmps69
  go_wp2_with (first
    | go_skip
    | ((with_reducible (show Go.wpList _ _ _ (Go.Oper.mk _ (.box _ (.tmp 0)) _ _ _ _ :: _) _ _)); refine wpl_box hE rfl rfl rfl ?_; clear hE; intro b0 w hE1)
    | ((with_reducible (show Go.wpList _ _ _ (Go.Oper.mk _ (.box _ (.tmp 1)) _ _ _ _ :: _) _ _)); refine wpl_box hE1 rfl rfl rfl ?_; clear hE1; intro b1 w hE2)
    | ((with_reducible (show Go.wpList _ _ _ (Go.Oper.mk _ (.box _ (.tmp 2)) _ _ _ _ :: _) _ _)); refine wpl_box hE2 rfl rfl rfl ?_; clear hE2; intro b2 w hE3))
  go_ret
  refine ⟨_, rfl, b0, b1, b2, rfl, ?_⟩
  rw [itSt, rst_nil]
  exact hE3.perm perm_rev3
set_option maxRecDepth 100000 in
theorem SplitSeq_any (p : List UInt8) {l : List HProp} {w : World} (hE : Ent l w) :
    Calls Tryd.prog 57 #[.string ⟨p.toArray⟩, .string ⟨#[47]⟩] w (Ret fun v w' => ∃ bs bsep bsave, v = .func (.func 86) #[] #[.pointer (some ⟨bsep, 0, none⟩), .pointer (some ⟨bs, 0, none⟩), .pointer (some ⟨bsave, 0, none⟩)] ∧ Ent (itSt p bs bsep bsave [] ++ l) w') := by
  go_enter Tryd.func57, Tryd.ntmps57
  go_wp2_with (first
    | go_skip
    | (go_at_call 69; refine (splitSeq_any p hE).mono ?_; clear hE; rintro e w2 ⟨v, rfl, b0, b1, b2, rfl, hE2⟩))
  go_ret
  exact ⟨_, rfl, b0, b1, b2, rfl, hE2⟩

set_option maxRecDepth 100000 in
set_option maxHeartbeats 4000000 in
theorem split_iter (p : List UInt8) (hp : p.length ≤ 1099511627776) (bs bsep bsave : Nat) :
    SeqSL Tryd.prog 86 #[.pointer (some ⟨bsep, 0, none⟩), .pointer (some ⟨bs, 0, none⟩), .pointer (some ⟨bsave, 0, none⟩)] (fun x : List UInt8 => #[.string ⟨x.toArray⟩]) (cuts p) (itSt p bs bsep bsave) := by
  intro lp J Jx W hW hY
  refine callsIn_of_wp Tryd.func86 rfl trivial ?_ rfl
  simp only [Tryd.ntmps86, List.size_toArray, List.length_cons, List.length_nil, Nat.reduceAdd, Nat.reduceSub, Array.replicate_succ, Array.replicate_zero, List.push_toArray, List.append_toArray, List.nil_append, List.cons_append]
  have k1 := hW.cell 1 rfl 0
  have k0 := hW.cell 0 rfl 0
  have k2 := hW.cell 2 rfl 0
  simp only [List.getElem?_toArray, List.getElem?_cons_zero] at k0 k1 k2
  gi_wp2
  clear k0 k1 k2
  gi_loopw [7] (fun _ wr => ∃ pre, cuts p = pre ++ cuts (rst p pre) ∧ Ent (itSt p bs bsep bsave pre ++ J pre) wr) (fun _ wr => strLeft bs wr)
  case atStart => exact ⟨[], by rw [rst_nil]; rfl, hW⟩
  case round =>
    obtain ⟨pre, hc, hE⟩ := hrel
    have k0 : wr.cell? ⟨bs, 0, none⟩ = some (.string ⟨(rst p pre).toArray⟩) := hE.cell 0 rfl 0
    have k1 : wr.cell? ⟨bsep, 0, none⟩ = some (.string ⟨#[47]⟩) := hE.cell 1 rfl 0
    have k2 : wr.cell? ⟨bsave, 0, none⟩ = some (.int .i64 0) := hE.cell 2 rfl 0
    have hix := index_one ⟨(rst p pre).toArray⟩ 47 wr
    have hst := fun x (hk : x < (rst p pre).length) => rst_step p pre hk
    rcases idx_cuts (rst p pre) with ⟨hi, he⟩ | ⟨k, hk, hi, he⟩
    · have hpre : pre ++ [rst p pre] <+: cuts p := by rw [hc, he]; exact List.prefix_rfl
      have hJ := SL.hid (show cuts p = pre ++ [rst p pre] by rw [hc, he])
      obtain ⟨fn, tmps, assign, body, hy, hR⟩ := hY pre (rst p pre) wr hpre hE
      simp only [List.toList_toArray] at hix
      rw [hi] at hix
      clear hst hY hc hpre hi he
      gi_wp2_with (gi_at_call 77; refine (callsIn_wide.2 hix).mono ?_; rintro e w' ⟨rfl, rfl⟩)
      refine hR.mono ?_
      rintro e W3 (⟨rfl, hE3⟩ | ⟨rfl, hE3⟩)
      · gi_wp2
        go_end0
        exact ⟨⟨_, rfl⟩, .inl (by rw [hJ.out]; exact hE3.drop)⟩
      · gi_wp2
        go_end0
        exact ⟨⟨_, rfl⟩, .inr ⟨_, by rw [hJ.out]; exact List.prefix_rfl, hE3⟩⟩
    · have hpre : pre ++ [(rst p pre).take k] <+: cuts p := by rw [hc, he]; exact ⟨cuts ((rst p pre).drop (k + 1)), by simp⟩
      have hJ := SL.hid (show cuts p = (pre ++ [(rst p pre).take k]) ++ cuts (rst p (pre ++ [(rst p pre).take k])) by rw [hst k hk, hc, he]; simp)
      obtain ⟨fn, tmps, assign, body, hy, hR⟩ := hY pre ((rst p pre).take k) wr hpre hE
      simp only [List.toList_toArray] at hix
      rw [hi] at hix
      have hlen : (rst p pre).length ≤ 1099511627776 := by rw [rst, List.length_drop]; omega
      have hs1 := fun w => run_slice_sHi (P := Tryd.prog) Tryd.underlying9 (bs := rst p pre) (k := k) (by omega) w
      have hs2 := fun w => run_slice_sLo (P := Tryd.prog) Tryd.underlying9 (bs := rst p pre) (k := k + 1) (by omega) w
      have hw0 : wrap64 ((k : Int) + 1) = ((k + 1 : Nat) : Int) := by unfold wrap64; omega
      have hwk : wrap64 (k : Int) = (k : Int) := by unfold wrap64; omega
      have hex : (⟨(rst p pre).toArray⟩ : ByteArray).extract 0 k = ⟨((rst p pre).take k).toArray⟩ := by rw [extract_mk]; simp
      have hex2 : (⟨(rst p pre).toArray⟩ : ByteArray).extract (k + 1) (rst p pre).length = ⟨((rst p pre).drop (k + 1)).toArray⟩ := by rw [extract_mk, List.take_of_length_le (by simp)]
      have hkl : (k : Int) ≤ ((rst p pre).length : Int) := by omega
      have hkl1 : ((k + 1 : Nat) : Int) ≤ ((rst p pre).length : Int) := by omega
      have hkn : decide ((k : Int) < 0) = false := decide_eq_false (by omega)
      have hst2 := SL.hid (hst k hk)
      have hlt := SL.hid hk
      clear hst hY hc he hi hk
      gi_wp2_with (gi_at_call 77; refine (callsIn_wide.2 hix).mono ?_; rintro e w' ⟨rfl, rfl⟩)
      refine hR.mono ?_
      rintro e W3 (⟨rfl, hE3⟩ | ⟨rfl, hE3⟩)
      · have j0 : W3.cell? ⟨bs, 0, none⟩ = some (.string ⟨(rst p pre).toArray⟩) := hE3.cell 0 rfl 0
        have j1 : W3.cell? ⟨bsep, 0, none⟩ = some (.string ⟨#[47]⟩) := hE3.cell 1 rfl 0
        have jf : W3.frozen? ⟨bs, 0, none⟩ = false := hE3.frozen 0 rfl 0
        gi_wp2
        go_roundw
        case rel =>
          have h := hE3.setCell 0 rfl 0 (.string ⟨((rst p pre).drop (k + 1)).toArray⟩)
          refine ⟨_, hJ.out, ?_⟩
          rw [itSt, hst2.out]
          exact h
        case measure =>
          have h := hE3.setCell 0 rfl 0 (.string ⟨((rst p pre).drop (k + 1)).toArray⟩)
          rw [strLeft_eq k0, strLeft_eq (h.cell 0 rfl 0), List.length_drop]
          have := hlt.out
          omega
      · gi_wp2
        refine bodyPost_ret (results_none rfl _ _ _) rfl ?_
        exact ⟨⟨_, rfl⟩, .inr ⟨_, hJ.out ▸ List.prefix_append _ _, hE3⟩⟩
end Go.Proofs.YtcpgelpajppgdaaDoor
namespace Go.SL
section
variable {P : Program} {w : World} {l : List HProp}

theorem run_copyAt (dT sT ty elem : TypeId) (g off dLen dCap : Nat) (ys : List UInt8) (cur : Array Value) (t : TypeId)
    (hu : P.underlying dT = some (.slice elem)) (hs : (P.info? elem).map (·.size) = some 1) (hg : w.heap[g]? = some (.cells cur t (0, 0))) (hy : ys.length ≤ dLen) (hfit : off + dLen ≤ cur.size) :
    (Builtin.copy_ #[dT, sT] ty #[.slice (some ⟨g, off, none⟩) dLen dCap, .string ⟨ys.toArray⟩]).run P w =
      .ok (goInt (ys.length : Nat)) (w.setRow g (cur.toList.take off ++ (ys.map fun b => Value.int .u8 b.toNat) ++ cur.toList.drop (off + ys.length)).toArray) := by
  have h1 : ∀ u ∈ (ys.map fun b => Value.int .u8 (b.toNat : Int)), u.oneCell' = true := by
    intro v hv
    simp only [List.mem_map] at hv
    obtain ⟨b, _, rfl⟩ := hv
    rfl
  have hst := run_storeCells_at P g off t (ys.map fun b => Value.int .u8 (b.toNat : Int)) 0 cur w hg (by rw [List.length_map]; omega) h1
  rw [List.length_map] at hst
  simp only [Nat.add_zero] at hst
  have hsz : (ByteArray.mk ys.toArray).size = ys.length := by simp [ByteArray.size]
  have hmin : Nat.min ys.length dLen = ys.length := Nat.min_eq_left hy
  cases hq : P.info? elem with
  | none => simp [hq] at hs
  | some i =>
    have htk : List.take ys.length (List.map (fun b : UInt8 => Value.int IntKind.u8 (b.toNat : Int)) ys) = ys.map fun b => Value.int .u8 (b.toNat : Int) := List.take_of_length_le (by simp)
    simp [Builtin.copy_, run_underlying hu, Builtin.lenOf, Builtin.firstCells, sizeOf, typeInfo, hq, hsz, hmin]
    rw [htk, hst]
    simp [Result.andThen]

theorem wpl_copyAt {ops : Array Oper} {rest : List Oper} {o : Oper} {a : Act} {Q : Exit → Act → World → Prop} (hE : Ent l w) (i : Nat) {g off : Nat} {cur : List Value} {T : TypeId} (hi : l[i]? = some (pt g (.cells cur.toArray T (0, 0))))
    {d s : Operand} {dT sT elem : TypeId} (ho : o.op = .call { callee := .builtin .copy, args := #[d, s], argTypes := #[dT, sT] }) (hw : Region.wanted o (yielded ops a.tmps) = true)
    {dLen dCap : Nat} (hd : a.eval d = .slice (some ⟨g, off, none⟩) dLen dCap) {ys : List UInt8} (hy : a.eval s = .string ⟨ys.toArray⟩)
    (hu : P.underlying dT = some (.slice elem)) (hs : (P.info? elem).map (·.size) = some 1) (hle : ys.length ≤ dLen) (hfit : off + dLen ≤ cur.length)
    {xs : List Value} (hx : cur.take off ++ (ys.map fun b => Value.int .u8 b.toNat) ++ cur.drop (off + ys.length) = xs)
    (h : ∀ w', Ent (l.set i (pt g (.cells xs.toArray T (0, 0)))) w' → wpList P ops Q rest (a.put o.dst (goInt ys.length)) w') : wpList P ops Q (o :: rest) a w := by
  have hr := run_copyAt (P := P) (w := w) dT sT o.type elem g off dLen dCap ys cur.toArray T hu hs (hE.at i hi) hle (by simpa using hfit)
  simp only [List.toList_toArray, hx] at hr
  refine wpl_run hw (w' := w.setRow g xs.toArray) (v := goInt ys.length) ?_ (h _ (hE.setRow i hi _))
  simp [execOp, ho, resolve, invoke, builtin, hd, hy, hr]
end
end Go.SL
namespace Go.SL
theorem results_2v {P : Program} {w : World} {fn : Func} {k j : Tmp} {t u : TypeId} (h : fn.results = #[.cell k t, .cell j u]) {tmps : Array Value} {b b2 : Nat} {v v2 : Value} (hp : tmps.getD k undef = .pointer (some ⟨b, 0, none⟩)) (hp2 : tmps.getD j undef = .pointer (some ⟨b2, 0, none⟩))
    (hA : ∀ w, (isAgg t).run P w = .ok false w) (hA2 : ∀ w, (isAgg u).run P w = .ok false w) (hc : w.cell? ⟨b, 0, none⟩ = some v) (hc2 : w.cell? ⟨b2, 0, none⟩ = some v2) : (results fn tmps).run P w = .ok (.tuple #[v, v2]) w := by
  have hp' : tmps[k]?.getD undef = .pointer (some ⟨b, 0, none⟩) := by simpa using hp
  have hp2' : tmps[j]?.getD undef = .pointer (some ⟨b2, 0, none⟩) := by simpa using hp2
  simp only [results, h]
  simp [hp', hp2', asAddr, loadVar, hA, hA2, hc, hc2]
end Go.SL
namespace Go.Proofs.YtcpgelpajppgdaaDoor
open Go.RowKit Go.SL

attribute [local go_sem] Oper.semAt_some wide_fn wide_depth

def strv (s : List UInt8) : Value := .string ⟨s.toArray⟩
abbrev rowS (ao : Option Addr) (c : Nat) (xs : List (List UInt8)) : HProp := row 9 1 (.slice ao xs.length c) xs.length (xs.map strv)
theorem info_str : elemInfo Tryd.prog 9 = some (some 1, 1, 16) := by kernel_rfl

def spI (b2 b3 b4 : Nat) (l : List HProp) (pre : List (List UInt8)) : List HProp :=
  pt b2 (.cells #[.slice none 0 0] 75) :: pt b3 (.cells #[.int .i64 0] 44) :: (ex fun z : { _z : Option Addr × Nat // pre.all isName = true } => [pt b4 (.cells #[.slice z.1.1 pre.length z.1.2] 75), rowS z.1.1 z.1.2 pre]) :: l
def spX (b2 b3 : Nat) (l : List HProp) (c : Code) (pre : List (List UInt8)) : List HProp :=
  pt b2 (.cells #[.slice none 0 0] 75) :: pt b3 (.cells #[.int .i64 7] 44) :: (ex fun _ : c = .ret ∧ pre.all isName = false => []) :: l

set_option maxRecDepth 100000 in
set_option maxHeartbeats 4000000 in
theorem Split_some {p : List UInt8} (hp : p.length ≤ 1000000) (h0 : p ≠ []) {l : List HProp} {w : World} (hE : Ent l w) :
    Calls Tryd.prog 36 #[.string ⟨p.toArray⟩] w (Ret fun v w' => ∃ ao c, v = .tuple #[.slice ao (splitL p).length c, .int .i64 (splitE p)] ∧ Ent (rowS ao c (splitL p) :: l) w') := by
  have hne : (p == []) = false := by simpa using h0
  refine calls_of_marks Tryd.func36 rfl ?_
  simp only [Tryd.ntmps36, List.size_toArray, List.length_cons, List.length_nil, Nat.reduceAdd, Nat.reduceSub, Array.replicate_succ, Array.replicate_zero, List.push_toArray, List.append_toArray, List.nil_append, List.cons_append]
  go_wp2_with (first
    | go_skip
    | ((with_reducible (show Go.wpList _ _ _ (Go.Oper.mk _ (.alloc 75) _ _ _ _ :: _) _ _)); refine wpl_alloc hE rfl rfl (by simp [go_sem]; rfl) ?_; clear hE; intro b2 w hE1; simp only [Act.eval, Act.put, List.setIfInBounds_toArray, List.set_cons_zero, List.set_cons_succ, getD_lit, List.getD_cons_succ, List.getD_cons_zero, Value.cells] at hE1)
    | ((with_reducible (show Go.wpList _ _ _ (Go.Oper.mk _ (.alloc 44) _ _ _ _ :: _) _ _)); refine wpl_alloc hE1 rfl rfl (by simp [go_sem]; rfl) ?_; clear hE1; intro b3 w hE2; simp only [Act.eval, Act.put, List.setIfInBounds_toArray, List.set_cons_zero, List.set_cons_succ, getD_lit, List.getD_cons_succ, List.getD_cons_zero, Value.cells] at hE2)
    | ((with_reducible (show Go.wpList _ _ _ (Go.Oper.mk _ (.alloc 75) _ _ _ _ :: _) _ _)); refine wpl_alloc hE2 rfl rfl (by simp [go_sem]; rfl) ?_; clear hE2; intro b4 w hE3; simp only [Act.eval, Act.put, List.setIfInBounds_toArray, List.set_cons_zero, List.set_cons_succ, getD_lit, List.getD_cons_succ, List.getD_cons_zero, Value.cells] at hE3)
    | (go_at_call 57; refine (SplitSeq_any p hE3).mono ?_; clear hE3; rintro e w2 ⟨v, rfl, bs, bsep, bsave, rfl, hE4⟩))
  refine wpIn_wide.1 (wpIn_rangeSL (gf := 86) rfl (enters_of Tryd.func86 (by kernel_rfl) rfl) (split_iter p (by omega) bs bsep bsave) (fun _ => rfl) (spI b2 b3 b4 l) (spX b2 b3 l) ?e0
    (fun x => { tmps := #[.string ⟨p.toArray⟩, undef, .pointer (some ⟨b2, 0, none⟩), .pointer (some ⟨b3, 0, none⟩), .pointer (some ⟨b4, 0, none⟩), .string ⟨x.toArray⟩, .string ⟨p.toArray⟩, .bool false, .string ⟨p.toArray⟩, .func (.func 86) #[] #[.pointer (some ⟨bsep, 0, none⟩), .pointer (some ⟨bs, 0, none⟩), .pointer (some ⟨bsave, 0, none⟩)], .string ⟨x.toArray⟩, undef, undef, undef, undef, undef, undef, undef, undef, undef, undef, undef], defers := [] }) ?assign ?body ?done ?stop)
  case e0 =>
    have h := ((hE4.nil 9 1).front 4 rfl)
    have h2 := Ent.pack (f := fun z : { _z : Option Addr × Nat // ([] : List (List UInt8)).all isName = true } => [pt b4 (.cells #[.slice z.1.1 ([] : List (List UInt8)).length z.1.2] 75), rowS z.1.1 z.1.2 []]) ⟨(none, 0), rfl⟩ h
    exact ((((h2.front 4 rfl).front 5 rfl).front 5 rfl).front 5 rfl).front 5 rfl
  case assign =>
    intro lp x W K hK
    gi_wp2
    exact hK
  case body =>
    intro lp pre x W L hpre hW
    obtain ⟨⟨⟨ao, c⟩, hall⟩, hW'⟩ := (hW.front 2 rfl).unpack
    have Hall := SL.hid hall
    replace hW : Ent (pt b4 (.cells #[.slice ao pre.length c] 75) :: rowS ao c pre :: pt b2 (.cells #[.slice none 0 0] 75) :: pt b3 (.cells #[.int .i64 0] 44) :: (l ++ L)) W := hW'
    clear hW' hall
    have hxm : x ∈ cuts p := by
      obtain ⟨t, ht⟩ := hpre
      rw [← ht]; simp
    have hxl := (cuts_len p).2 x hxm
    have hpl : pre.length ≤ 1000001 := by
      have h1 := hpre.length_le
      have h2 := (cuts_len p).1
      simp at h1
      omega
    have j4 : W.cell? ⟨b4, 0, none⟩ = some (.slice ao pre.length c) := hW.cell 0 rfl 0
    have Hpre := SL.hid hpre
    clear hpre hxm
    cases hn : isName x with
    | false =>
      have Hn := SL.hid (show (pre ++ [x]).all isName = false from List.all_eq_false.2 ⟨x, by simp, by simp [hn]⟩)
      have hN := fun w => Name_any x (by omega) w
      rw [hn] at hN
      clear hn
      have j2 : W.cell? ⟨b2, 0, none⟩ = some (.slice none 0 0) := hW.cell 2 rfl 0
      have f2 : W.frozen? ⟨b2, 0, none⟩ = false := hW.frozen 2 rfl 0
      have hS := (hW.setCell 2 rfl 0 (.slice none 0 0))
      have s3 : (W.setCell ⟨b2, 0, none⟩ (.slice none 0 0)).cell? ⟨b3, 0, none⟩ = some (.int .i64 0) := hS.cell 3 rfl 0
      have g3 : (W.setCell ⟨b2, 0, none⟩ (.slice none 0 0)).frozen? ⟨b3, 0, none⟩ = false := hS.frozen 3 rfl 0
      gi_wp2_with (gi_at_call 58; refine (CallsIn.inRound lp (callsIn_wide.2 (hN _))).mono ?_; rintro e w' ⟨rfl, rfl⟩)
      have hF := (hS.setCell 3 rfl 0 (.int .i64 7)).tail.tail
      have hG := Ent.pack (f := fun _ : Code.ret = .ret ∧ (pre ++ [x]).all isName = false => []) ⟨rfl, Hn.out⟩ hF
      exact (hG.front 2 rfl).front 2 rfl
    | true =>
      have Hn := SL.hid (show (pre ++ [x]).all isName = true by rw [List.all_append, Hall.out]; simp [hn])
      have hN := fun w => Name_any x (by omega) w
      rw [hn] at hN
      clear hn
      gi_wp2_with (first
        | (gi_at_call 58; refine (CallsIn.inRound lp (callsIn_wide.2 (hN _))).mono ?_; rintro e w' ⟨rfl, rfl⟩)
        | (refine wplIn_one rfl rfl rfl (by intro c h; cases h) (by rintro ⟨_, _, h⟩; exact h) ?_; (with_reducible (show Go.wpList _ _ _ (Go.Oper.mk _ (.call { callee := .builtin .append, args := _, argTypes := _ }) _ _ _ _ :: _) _ _)); have hE9 := hW.alloc (.cells #[.string ⟨x.toArray⟩] 9); refine wpl_appendG hE9 2 rfl rfl rfl rfl rfl Tryd.underlying75 info_str (by decide) (m := 1) (news := [strv x]) (reads_pt hE9 0 rfl (off := 0) (fun j u hu => by rw [Nat.zero_add, List.getElem?_toArray]; exact hu)) rfl (by simp [strv, Value.oneCell']) (by omega) (by omega) ?_; clear hE9 hW; intro ao' c' w6 hE10; simp only [List.set_cons_zero, List.set_cons_succ] at hE10; refine wplIn_nil ?_)
        | (refine wplIn_one rfl rfl rfl (by intro c h; cases h) (by rintro ⟨_, _, h⟩; exact h) ?_; (with_reducible (show Go.wpList _ _ _ (Go.Oper.mk _ (.store 75 _ _) _ _ _ _ :: _) _ _)); refine wpl_store hE10 1 rfl rfl rfl rfl rfl (by simp [go_sem]; rfl) (by rfl) (by simp [Act.put, Value.cells, Value.oneCell', Act.eval]) (by simp) ?_; clear hE10; intro w hE11; simp only [Act.eval, getD_lit, List.getD_cons_succ, List.getD_cons_zero, Value.cells, List.set_cons_zero, List.set_cons_succ, List.take_succ_cons, List.take_zero, List.nil_append, List.cons_append, List.drop_succ_cons, List.drop_zero, List.length_cons, List.length_nil, Nat.reduceAdd, Nat.zero_add] at hE11; refine wplIn_nil ?_))
      have hF := hE11.tail
      have e1 : (pre ++ [x]).length = pre.length + 1 := by simp
      have e2 : (pre ++ [x]).map strv = pre.map strv ++ [strv x] := by simp
      have hG := Ent.pack (f := fun z : { _z : Option Addr × Nat // (pre ++ [x]).all isName = true } => [pt b4 (.cells #[.slice z.1.1 (pre ++ [x]).length z.1.2] 75), rowS z.1.1 z.1.2 (pre ++ [x])]) ⟨(ao', c'), Hn.out⟩ (by simp only [rowS, e1, e2]; exact hF)
      exact (hG.front 2 rfl).front 2 rfl
  case done =>
    intro D W hW
    obtain ⟨⟨⟨ao, c⟩, hall⟩, hW'⟩ := (hW.front 3 rfl).unpack
    replace hW : Ent (pt b4 (.cells #[.slice ao (cuts p).length c] 75) :: rowS ao c (cuts p) :: pt D (.deferred (some [])) :: pt b2 (.cells #[.slice none 0 0] 75) :: pt b3 (.cells #[.int .i64 0] 44) :: l) W := hW'
    clear hW'
    by_cases h6 : (cuts p).length ≤ 6
    · have R := SL.hid (split_good h0 hall h6)
      have hd : decide ((6 : Int) < ((cuts p).length : Int)) = false := decide_eq_false (by omega)
      clear h6 hall
      go_wp2_with (first
        | go_skip
        | ((with_reducible (show Go.wpList _ _ _ (Go.Oper.mk _ (.load 75 _) _ _ _ _ :: _) _ _)); refine wpl_load1 hW 0 rfl rfl rfl rfl (by simp [go_sem]) rfl ?_)
        | ((with_reducible (show Go.wpList _ _ _ (Go.Oper.mk _ (.store 75 _ _) _ _ _ _ :: _) _ _)); refine wpl_store hW 3 rfl rfl rfl rfl rfl (by simp [go_sem]; rfl) (by rfl) (by simp [Act.put, Value.cells, Value.oneCell', Act.eval]) (by simp) ?_; clear hW; intro w hE1; simp only [Act.eval, getD_lit, List.getD_cons_succ, List.getD_cons_zero, Value.cells, List.set_cons_zero, List.set_cons_succ, List.take_succ_cons, List.take_zero, List.nil_append, List.cons_append, List.drop_succ_cons, List.drop_zero, List.length_cons, List.length_nil, Nat.reduceAdd, Nat.zero_add] at hE1)
        | ((with_reducible (show Go.wpList _ _ _ (Go.Oper.mk _ (.store 44 _ _) _ _ _ _ :: _) _ _)); refine wpl_store hE1 4 rfl rfl rfl rfl rfl (by simp [go_sem]; rfl) (by rfl) (by simp [Act.put, Value.cells, Value.oneCell', Act.eval]) (by simp) ?_; clear hE1; intro w hE2; simp only [Act.eval, getD_lit, List.getD_cons_succ, List.getD_cons_zero, Value.cells, List.set_cons_zero, List.set_cons_succ, List.take_succ_cons, List.take_zero, List.nil_append, List.cons_append, List.drop_succ_cons, List.drop_zero, List.length_cons, List.length_nil, Nat.reduceAdd, Nat.zero_add] at hE2))
      refine post_mark rfl (hE2.front 2 rfl) (fun w' hw' => ⟨_, results_2v rfl rfl rfl (by simp [go_sem]) (by simp [go_sem]) (hw'.cell 2 rfl 0) (hw'.cell 3 rfl 0), _, rfl, ao, c, ?_, ?_⟩)
      · rw [R.out.1, R.out.2]; rfl
      · rw [R.out.1]
        exact ((hw'.tail.erase 1).erase 1)
    · have R := SL.hid (split_many h0 hall h6)
      have hd : (6 : Int) < ((cuts p).length : Int) := by omega
      clear h6 hall
      go_wp2_with (first
        | go_skip
        | ((with_reducible (show Go.wpList _ _ _ (Go.Oper.mk _ (.load 75 _) _ _ _ _ :: _) _ _)); refine wpl_load1 hW 0 rfl rfl rfl rfl (by simp [go_sem]) rfl ?_)
        | ((with_reducible (show Go.wpList _ _ _ (Go.Oper.mk _ (.store 75 _ _) _ _ _ _ :: _) _ _)); refine wpl_store hW 3 rfl rfl rfl rfl rfl (by simp [go_sem]; rfl) (by rfl) (by simp [Act.put, Value.cells, Value.oneCell', Act.eval]) (by simp) ?_; clear hW; intro w hE1; simp only [Act.eval, getD_lit, List.getD_cons_succ, List.getD_cons_zero, Value.cells, List.set_cons_zero, List.set_cons_succ, List.take_succ_cons, List.take_zero, List.nil_append, List.cons_append, List.drop_succ_cons, List.drop_zero, List.length_cons, List.length_nil, Nat.reduceAdd, Nat.zero_add] at hE1)
        | ((with_reducible (show Go.wpList _ _ _ (Go.Oper.mk _ (.store 44 _ _) _ _ _ _ :: _) _ _)); refine wpl_store hE1 4 rfl rfl rfl rfl rfl (by simp [go_sem]; rfl) (by rfl) (by simp [Act.put, Value.cells, Value.oneCell', Act.eval]) (by simp) ?_; clear hE1; intro w hE2; simp only [Act.eval, getD_lit, List.getD_cons_succ, List.getD_cons_zero, Value.cells, List.set_cons_zero, List.set_cons_succ, List.take_succ_cons, List.take_zero, List.nil_append, List.cons_append, List.drop_succ_cons, List.drop_zero, List.length_cons, List.length_nil, Nat.reduceAdd, Nat.zero_add] at hE2))
      refine post_mark rfl (hE2.front 2 rfl) (fun w' hw' => ⟨_, results_2v rfl rfl rfl (by simp [go_sem]) (by simp [go_sem]) (hw'.cell 2 rfl 0) (hw'.cell 3 rfl 0), _, rfl, none, 0, ?_, ?_⟩)
      · rw [R.out.1, R.out.2]; rfl
      · rw [R.out.1]
        exact (hw'.tail.tail.tail.tail.nil _ _)
  case stop =>
    intro D c pre W hpre hW
    obtain ⟨⟨rfl, hbad⟩, hW'⟩ := (hW.front 3 rfl).unpack
    have R := SL.hid (show splitL p = [] ∧ splitE p = 7 by
      obtain ⟨x, hx, hxn⟩ := List.all_eq_false.1 hbad
      obtain ⟨t, ht⟩ := hpre
      exact split_bad h0 (x := x) (by rw [← ht]; simp [hx]) (by simpa using hxn))
    replace hW : Ent (pt D (.deferred (some [])) :: pt b2 (.cells #[.slice none 0 0] 75) :: pt b3 (.cells #[.int .i64 7] 44) :: l) W := hW'
    clear hW' hbad hpre
    refine wpIn_wide.2 ?_
    go_wp2
    refine post_mark rfl hW (fun w' hw' => ⟨_, results_2v rfl rfl rfl (by simp [go_sem]) (by simp [go_sem]) (hw'.cell 0 rfl 0) (hw'.cell 1 rfl 0), _, rfl, none, 0, ?_, ?_⟩)
    · rw [R.out.1, R.out.2]; rfl
    · rw [R.out.1]
      exact hw'.tail.tail.nil _ _

set_option maxRecDepth 100000 in
theorem Split_any {p : List UInt8} (hp : p.length ≤ 1000000) {l : List HProp} {w : World} (hE : Ent l w) :
    Calls Tryd.prog 36 #[.string ⟨p.toArray⟩] w (Ret fun v w' => ∃ ao c, v = .tuple #[.slice ao (splitL p).length c, .int .i64 (splitE p)] ∧ Ent (rowS ao c (splitL p) :: l) w') := by
  by_cases h0 : p = []
  · subst h0
    refine calls_of_marks Tryd.func36 rfl ?_
    simp only [Tryd.ntmps36, List.size_toArray, List.length_cons, List.length_nil, Nat.reduceAdd, Nat.reduceSub, Array.replicate_succ, Array.replicate_zero, List.push_toArray, List.append_toArray, List.nil_append, List.cons_append]
    go_wp2_with (first
      | go_skip
      | ((with_reducible (show Go.wpList _ _ _ (Go.Oper.mk _ (.alloc 75) _ _ _ _ :: _) _ _)); refine wpl_alloc hE rfl rfl (by simp [go_sem]; rfl) ?_; clear hE; intro b2 w hE1; simp only [Act.eval, Act.put, List.setIfInBounds_toArray, List.set_cons_zero, List.set_cons_succ, getD_lit, List.getD_cons_succ, List.getD_cons_zero, Value.cells] at hE1)
      | ((with_reducible (show Go.wpList _ _ _ (Go.Oper.mk _ (.alloc 44) _ _ _ _ :: _) _ _)); refine wpl_alloc hE1 rfl rfl (by simp [go_sem]; rfl) ?_; clear hE1; intro b3 w hE2; simp only [Act.eval, Act.put, List.setIfInBounds_toArray, List.set_cons_zero, List.set_cons_succ, getD_lit, List.getD_cons_succ, List.getD_cons_zero, Value.cells] at hE2)
      | ((with_reducible (show Go.wpList _ _ _ (Go.Oper.mk _ (.store 75 _ _) _ _ _ _ :: _) _ _)); refine wpl_store hE2 1 rfl rfl rfl rfl rfl (by simp [go_sem]; rfl) (by rfl) (by simp [Act.put, Value.cells, Value.oneCell', Act.eval]) (by simp) ?_; clear hE2; intro w hE3; simp only [Act.eval, getD_lit, List.getD_cons_succ, List.getD_cons_zero, Value.cells, List.set_cons_zero, List.set_cons_succ, List.take_succ_cons, List.take_zero, List.nil_append, List.cons_append, List.drop_succ_cons, List.drop_zero, List.length_cons, List.length_nil, Nat.reduceAdd, Nat.zero_add] at hE3)
      | ((with_reducible (show Go.wpList _ _ _ (Go.Oper.mk _ (.store 44 _ _) _ _ _ _ :: _) _ _)); refine wpl_store hE3 0 rfl rfl rfl rfl rfl (by simp [go_sem]; rfl) (by rfl) (by simp [Act.put, Value.cells, Value.oneCell', Act.eval]) (by simp) ?_; clear hE3; intro w hE4; simp only [Act.eval, getD_lit, List.getD_cons_succ, List.getD_cons_zero, Value.cells, List.set_cons_zero, List.set_cons_succ, List.take_succ_cons, List.take_zero, List.nil_append, List.cons_append, List.drop_succ_cons, List.drop_zero, List.length_cons, List.length_nil, Nat.reduceAdd, Nat.zero_add] at hE4))
    refine post_none rfl (results_2v rfl rfl rfl (by simp [go_sem]) (by simp [go_sem]) (hE4.cell 1 rfl 0) (hE4.cell 0 rfl 0)) ⟨_, rfl, none, 0, rfl, ?_⟩
    exact hE4.tail.tail.nil _ _
  · exact Split_some hp h0 hE
end Go.Proofs.YtcpgelpajppgdaaDoor
namespace Go.Proofs.YtcpgelpajppgdaaDoor


variable {P : Program} {md : Region.Mode} {ops : Array Oper} {Q : Exit → Act → World → Prop} {S : World → Prop}
theorem takeW (i : Nat) (oi : Oper) (v : Value) {fuel : Nat} {listed : Array Bool} {a : Act} {w : World} (hy : YieldsIf P ops S oi v a) (hS : S w) (h : wpAnyH P md ops Q S fuel (listed.setIfInBounds i true) (a.put oi.dst v) w)
    (hi : ops[i]? = some oi := by rfl) (hs : Region.noSelect ops = true := by kernel_rfl) (hf : Region.free md ops listed i = true := by kernel_rfl) (hr : (Region.ready md ops listed).contains i = true := by kernel_rfl)
    (hQ : ∀ c a w, Q (.panic c) (a.put oi.dst v) w → Q (.panic c) a w := by exact fun _ _ _ h => h) : wpAnyH P md ops Q S (fuel + 1) listed a w :=
  wpAnyH_take hi hs hf hr hQ hy hS h
theorem sz {α : Type} (a : α) (xs : List α) (n : Nat) (x : α) : (a :: xs).set (n + 1) x = a :: xs.set n x := rfl
theorem s0 {α : Type} (a : α) (xs : List α) (x : α) : (a :: xs).set 0 x = x :: xs := rfl
theorem sb {α : Type} (xs : List α) (n : Nat) (x : α) : xs.toArray.setIfInBounds n x = (xs.set n x).toArray := by simp
end Go.Proofs.YtcpgelpajppgdaaDoor
