/-
  A variable of any size made anew, whatever its zero value; the load of a whole value by its cells. Conditions: none; plain lemmas over any program.
-/
import Derived.Test.YtohdljcpaogokaaSlf
import Derived.StillTailTactics
import Derived.Laws.BitsAllLaws
namespace Go.SL
section
variable {P : Program} {ops : Array Oper} {rest : List Oper} {o : Oper} {a : Act} {Q : Exit → Act → World → Prop} {w : World} {l : List HProp}

/-- the number of cells of a type's zero value -/
def zeroSize (P : Program) (t : TypeId) : Option Nat := (P.info? t).bind fun i => i.zero.map (·.cells.size)

theorem run_zero {t : TypeId} {n : Nat} (h : zeroSize P t = some n) : ∃ v : Value, v.cells.size = n ∧ ∀ w : World, (zeroValue t).run P w = .ok v w := by
  unfold zeroSize at h
  cases hi : P.info? t with
  | none => simp [hi] at h
  | some i =>
    cases hz : i.zero with
    | none => simp [hi, hz] at h
    | some v => exact ⟨v, by simpa [hi, hz] using h, fun w => by simp [zeroValue, typeInfo, hi, hz]⟩

theorem wpl_allocN (hE : Ent l w) {t : TypeId} (ho : o.op = .alloc t) (hw : Region.wanted o (yielded ops a.tmps) = true) {n : Nat} (hz : zeroSize P t = some n)
    (h : ∀ b (cs : List Value) w', cs.length = n → Ent (pt b (.cells cs.toArray t) :: l) w' → wpList P ops Q rest (a.put o.dst (.pointer (some ⟨b, 0, none⟩))) w') : wpList P ops Q (o :: rest) a w := by
  obtain ⟨v, hv, hr⟩ := run_zero hz
  exact wpl_alloc hE ho hw hr fun b w' hE' => h b v.cells.toList w' (by simpa using hv) (by simpa using hE')

/-- a whole value written over the whole of a block -/
theorem wpl_storeN (hE : Ent l w) (i : Nat) {b : Nat} {cs : List Value} {T : TypeId} (hi : l[i]? = some (pt b (.cells cs.toArray T (0, 0))))
    {t : TypeId} {x y : Operand} (ho : o.op = .store t x y) (hw : Region.wanted o (yielded ops a.tmps) = true)
    (hx : a.eval x = .pointer (some ⟨b, 0, none⟩)) {xs : List Value} (hy : a.eval y = .agg xs.toArray) {n : Nat} (hn : ∀ w, (Go.sizeOf t).run P w = .ok n w) (hc : xs.length = n)
    (h1 : ∀ u ∈ xs, u.oneCell' = true) (hfit : cs.length = n)
    (h : ∀ w', Ent (l.set i (pt b (.cells xs.toArray T (0, 0)))) w' → wpList P ops Q rest (a.put o.dst undef) w') : wpList P ops Q (o :: rest) a w := by
  refine wpl_store hE i hi ho hw hx hy hn (by simpa [Value.cells] using hc) (by simpa [Value.cells] using h1) (by simp; omega) fun w' hE' => h w' ?_
  have e : (cs.toArray.toList.take 0 ++ (Value.agg xs.toArray).cells.toList ++ cs.toArray.toList.drop (0 + (Value.agg xs.toArray).cells.toList.length)).toArray = xs.toArray := by
    simp [Value.cells, hc, ← hfit]
  rw [e] at hE'
  exact hE'

theorem Ent.rowIs (hE : Ent l w) (i : Nat) {e : TypeId} {size n c : Nat} {ao : Option Addr} {xs : List Value} (hi : l[i]? = some (row e size (.slice ao n c) n xs)) (h0 : 0 < n) :
    ∃ g, ao = some ⟨g, 0, none⟩ ∧ n ≤ c ∧ c ≤ maxLen := by
  obtain ⟨g, cap, cur, hv, h1, h2, _⟩ := hE.fromRow i hi h0
  cases hv
  exact ⟨g, rfl, h1, h2⟩

theorem Ent.rowCell (hE : Ent l w) (i : Nat) {e : TypeId} {size n c g : Nat} {xs : List Value} (hi : l[i]? = some (row e size (.slice (some ⟨g, 0, none⟩) n c) n xs)) {j : Nat} {u : Value} (hu : xs[j]? = some u) : w.cell? ⟨g, j, none⟩ = some u := by
  obtain ⟨ao, c', e1, _, h⟩ := reads_row hE i hi
  cases e1
  have := h _ rfl j u hu
  rwa [Addr.add_lit, Nat.zero_add] at this

/-- the cells of a row, a part of them written anew -/
def splice (xs : List Value) (off : Nat) (ys : List Value) : List Value := xs.take off ++ ys ++ xs.drop (off + ys.length)

theorem splice_length (xs : List Value) (off : Nat) (ys : List Value) (h : off + ys.length ≤ xs.length) : (splice xs off ys).length = xs.length := by
  simp only [splice, List.length_append, List.length_take, List.length_drop]
  omega

theorem take_put (cs : List Value) (m off : Nat) (ys : List Value) (h : off + ys.length ≤ m) (hm : m ≤ cs.length) : (splice cs off ys).take m = splice (cs.take m) off ys := by
  unfold splice
  apply List.ext_getElem?
  intro j
  have l1 : (cs.take off).length = off := by rw [List.length_take]; omega
  have l3 : (cs.take off ++ ys).length = off + ys.length := by rw [List.length_append, l1]
  have e1 : (cs.take m).take off = cs.take off := by rw [List.take_take, Nat.min_eq_left (by omega)]
  have A : ∀ zs : List Value, (cs.take off ++ ys ++ zs)[j]? = if j < off + ys.length then (cs.take off ++ ys)[j]? else zs[j - (off + ys.length)]? := by
    intro zs
    split
    · rw [List.getElem?_append_left (by omega)]
    · rw [List.getElem?_append_right (by omega), l3]
  rw [List.getElem?_take, e1, A, A]
  by_cases hj : j < off + ys.length
  · rw [if_pos (by omega), if_pos hj, if_pos hj]
  · rw [if_neg hj, if_neg hj, List.getElem?_drop, List.getElem?_drop, List.getElem?_take]
    rw [show off + ys.length + (j - (off + ys.length)) = j by omega]

/-- the elements' cells of a row of things of so many cells, where each is so long -/
theorem flatMap_at' {α : Type} (f : α → List Value) (k : Nat) : ∀ (xs : List α), (∀ x ∈ xs, (f x).length = k) → ∀ (i j : Nat) (x : α) (u : Value), xs[i]? = some x → (f x)[j]? = some u → (xs.flatMap f)[i * k + j]? = some u
  | [], _, _, _, _, _, hx, _ => by simp at hx
  | y :: ys, hk, i, j, x, u, hx, hu => by
    have hxm : x ∈ y :: ys := List.mem_of_getElem? hx
    have hj : j < k := by rw [← hk x hxm]; exact (List.getElem?_eq_some_iff.1 hu).1
    rw [List.flatMap_cons]
    cases i with
    | zero =>
      simp at hx
      subst hx
      rw [List.getElem?_append_left (by rw [hk y (by simp)]; omega)]
      simpa using hu
    | succ i =>
      rw [List.getElem?_append_right (by rw [hk y (by simp), Nat.succ_mul]; omega), hk y (by simp), show (i + 1) * k + j - k = i * k + j by rw [Nat.succ_mul]; omega]
      exact flatMap_at' f k ys (fun z hz => hk z (by simp [hz])) i j x u (by simpa using hx) hu

theorem flatMap_len' {α : Type} (f : α → List Value) (k : Nat) : ∀ xs : List α, (∀ x ∈ xs, (f x).length = k) → (xs.flatMap f).length = xs.length * k
  | [], _ => by simp
  | x :: xs, h => by rw [List.flatMap_cons, List.length_append, h x (by simp), flatMap_len' f k xs (fun y hy => h y (by simp [hy])), List.length_cons, Nat.succ_mul, Nat.add_comm]

theorem flatMap_set' {α : Type} (f : α → List Value) (k : Nat) : ∀ (xs : List α) (i : Nat) (y : α), (∀ x ∈ xs, (f x).length = k) → (f y).length = k → i < xs.length →
    (xs.set i y).flatMap f = (xs.flatMap f).take (i * k) ++ f y ++ (xs.flatMap f).drop (i * k + k)
  | [], i, y, _, _, h => by simp at h
  | x :: xs, 0, y, hk, hy, _ => by
    have hx := hk x (by simp)
    simp only [List.set_cons_zero, List.flatMap_cons, Nat.zero_mul, List.take_zero, List.nil_append, Nat.zero_add]
    rw [List.drop_append, hx, List.drop_eq_nil_of_le (by omega)]
    simp
  | x :: xs, i + 1, y, hk, hy, h => by
    have hx := hk x (by simp)
    simp only [List.set_cons_succ, List.flatMap_cons]
    rw [flatMap_set' f k xs i y (fun z hz => hk z (by simp [hz])) hy (by simpa using h)]
    rw [show (i + 1) * k = (f x).length + i * k by rw [hx, Nat.succ_mul, Nat.add_comm], List.take_length_add_append, Nat.add_assoc, List.drop_length_add_append]
    simp

theorem splice_flatMap {α : Type} (f : α → List Value) (k : Nat) (xs : List α) (i : Nat) (y : α) (h : ∀ x ∈ xs, (f x).length = k) (hy : (f y).length = k) (hi : i < xs.length) : splice (xs.flatMap f) (i * k) (f y) = (xs.set i y).flatMap f := by
  rw [flatMap_set' f k xs i y h hy hi, splice, hy]

theorem and_one (x m : Nat) (hx : x < 256) : (bits .and .u8 ((x : Int) / 2 ^ m) 1 == 1) = (x / 2 ^ m % 2 == 1) := by
  have h1 : ((x : Int) / 2 ^ m) = ((x / 2 ^ m : Nat) : Int) := by push_cast; rfl
  have h2 : x / 2 ^ m < 256 := Nat.lt_of_le_of_lt (Nat.div_le_self _ _) hx
  rw [h1, show (1 : Int) = ((1 : Nat) : Int) from rfl, u8_and_nat _ _ h2 (by omega), Nat.and_one_is_mod]
  rw [Bool.eq_iff_iff]
  simp only [beq_iff_eq]
  omega

theorem Ent.storeRow (hE : Ent l w) (i : Nat) {e : TypeId} {size n c g off : Nat} {xs ys : List Value} (hi : l[i]? = some (row e size (.slice (some ⟨g, 0, none⟩) n c) n xs)) {t : TypeId} {v : Value} {k : Nat}
    (hn : ∀ w, (Go.sizeOf t).run P w = .ok k w) (hv : v.cells.toList = ys) (hk : ys.length = k) (h1 : ∀ u ∈ ys, u.oneCell' = true) (hfit : off + k ≤ n * size) :
    ∃ w', (Instr.storeAt t (.pointer (some ⟨g, off, none⟩)) v).run P w = .ok () w' ∧ Ent (l.set i (row e size (.slice (some ⟨g, 0, none⟩) n c) n (splice xs off ys))) w' := by
  have hl : i < l.length := (List.getElem?_eq_some_iff.1 hi).1
  have h0 : 0 < n ∨ n = 0 := by omega
  have hxs : xs.length = n * size := (hE.owns i hi).1
  obtain ⟨g', cap, cur, hv', hn1, hm1, hs1, ht1, hE1⟩ : ∃ (g' cap : Nat) (cur : Array Value), Value.slice (some ⟨g, 0, none⟩) n c = .slice (some ⟨g', 0, none⟩) n cap ∧ n ≤ cap ∧ cap ≤ maxLen ∧ cur.size = cap * size ∧ cur.toList.take (n * size) = xs ∧ Ent (l.set i (pt g' (.cells cur e (0, 0)))) w := by
    have ho := hE.owns i hi
    rcases ho.2 with ⟨h, _⟩ | ⟨g', cap, cur, hv, hb, hg, hn, hm, hs, ht⟩
    · cases h
    · refine ⟨g', cap, cur, hv, hn, hm, hs, ht, Ent.put ((hE.front i hi).step (Bs := [pt g' (.cells cur e (0, 0))]) (Same.refl w) (Nat.le_refl _) fun F hF => ⟨fun _ _ _ => rfl, F, on_single ?_, fun _ h => .inl h⟩) hl⟩
      unfold row at hF
      unfold pt
      refine ⟨hg, fun x => ?_⟩
      rw [hF.2]
      cases hv
      simp [Value.ownBlock, eq_comm]
  cases hv'
  have hcs : off + k ≤ cur.size := by rw [hs1]; exact Nat.le_trans hfit (Nat.mul_le_mul_right _ hn1)
  have hr := run_storeV (P := P) hE1 i (b := g) (cs := cur) (T := e) (by simp [hl]) hn (v := v) (off := off) (by rw [← hk, ← hv]; simp) (by rw [hv]; exact h1) hcs
  refine ⟨_, hr, ?_⟩
  have hE2 := hE1.setRow i (b := g) (cs := cur) (T := e) (fz := (0, 0)) (by simp [hl]) (splice cur.toList off ys).toArray
  rw [List.set_set] at hE2
  have hE3 := hE2.toRow i (b := g) (cs := (splice cur.toList off ys).toArray) (e := e) (by simp [hl]) (size := size) (n := n) (cap := c) (xs := splice xs off ys) (by rw [splice_length _ _ _ (by rw [hxs, hk]; exact hfit), hxs]) hn1 hm1
    (by simp only [List.size_toArray]; rw [splice_length _ _ _ (by rw [hk]; simpa using hcs)]; simpa using hs1)
    (by rw [← ht1]; exact take_put _ _ _ _ (by rw [hk]; exact hfit) (by simp only [Array.length_toList]; rw [hs1]; exact Nat.mul_le_mul_right _ hn1))
  rw [List.set_set] at hE3
  rw [hv]
  exact hE3

theorem wpl_storeRow (hE : Ent l w) (i : Nat) {e : TypeId} {size n c g off : Nat} {xs ys : List Value} (hi : l[i]? = some (row e size (.slice (some ⟨g, 0, none⟩) n c) n xs)) {t : TypeId} {x y : Operand} {v : Value} {k : Nat}
    (ho : o.op = .store t x y) (hw : Region.wanted o (yielded ops a.tmps) = true) (hx : a.eval x = .pointer (some ⟨g, off, none⟩)) (hy : a.eval y = v)
    (hn : ∀ w, (Go.sizeOf t).run P w = .ok k w) (hv : v.cells.toList = ys) (hk : ys.length = k) (h1 : ∀ u ∈ ys, u.oneCell' = true) (hfit : off + k ≤ n * size)
    (h : ∀ w', Ent (l.set i (row e size (.slice (some ⟨g, 0, none⟩) n c) n (splice xs off ys))) w' → wpList P ops Q rest (a.put o.dst undef) w') : wpList P ops Q (o :: rest) a w := by
  obtain ⟨w', hr, hE'⟩ := hE.storeRow (P := P) i hi hn hv hk h1 hfit
  refine wpl_run_skip hw (w' := w') ?_ (h w' hE')
  simp [execOp, ho, hx, hy, hr]

theorem wpl_storeRowA (hE : Ent l w) (i : Nat) {e : TypeId} {size n c g off : Nat} {xs : List Value} (ys : List Value) (hi : l[i]? = some (row e size (.slice (some ⟨g, 0, none⟩) n c) n xs)) {t : TypeId} {x y : Operand} {k : Nat}
    (ho : o.op = .store t x y) (hw : Region.wanted o (yielded ops a.tmps) = true) (hx : a.eval x = .pointer (some ⟨g, off, none⟩)) (hy : a.eval y = .agg ys.toArray)
    (hn : ∀ w, (Go.sizeOf t).run P w = .ok k w) (hk : ys.length = k) (h1 : ∀ u ∈ ys, u.oneCell' = true) (hfit : off + k ≤ n * size)
    (h : ∀ w', Ent (l.set i (row e size (.slice (some ⟨g, 0, none⟩) n c) n (splice xs off ys))) w' → wpList P ops Q rest (a.put o.dst undef) w') : wpList P ops Q (o :: rest) a w :=
  wpl_storeRow hE i hi ho hw hx hy hn (by simp [Value.cells]) hk h1 hfit h

theorem still_run {a : Act} {K : Act → Prop} {v : Value} {E : Prop} (hw : Region.wanted o (yielded ops a.tmps) = true) (hr : (execOp a.eval o).run P w = .ok (.value v) w) (h : K (a.put o.dst v)) : if Region.wanted o (yielded ops a.tmps) = true then o.still P a w K else E := by
  rw [if_pos hw]
  unfold Oper.still
  rw [hr, Oper.stillUpon_value]
  exact h

theorem still_loadW (hE : Ent l w) (i : Nat) {b : Nat} {xs : List Value} {T : TypeId} {fz : Nat × Nat} (hi : l[i]? = some (pt b (.cells xs.toArray T fz))) {a : Act} {K : Act → Prop} {E : Prop}
    {t : TypeId} {x : Operand} (ho : o.op = .load t x) (hw : Region.wanted o (yielded ops a.tmps) = true)
    (hx : a.eval x = .pointer (some ⟨b, 0, none⟩)) (hA : ∀ w, (isAgg t).run P w = .ok true w) {n : Nat} (hn : ∀ w, (Go.sizeOf t).run P w = .ok n w) (ys : List Value) (hys : ys.length = n) (hl : ∀ j, j < n → xs[j]? = ys[j]?)
    (h : K (a.put o.dst (.agg ys.toArray))) : if Region.wanted o (yielded ops a.tmps) = true then o.still P a w K else E := by
  refine still_run hw ?_ h
  simp [execOp, ho, hx, run_loadA hE i hi hA hn hys (off := 0) (fun j hj => by simpa using hl j hj)]

theorem run_loadR {t : TypeId} (hA : ∀ w, (isAgg t).run P w = .ok true w) {n : Nat} (hn : ∀ w, (Go.sizeOf t).run P w = .ok n w) {ad : Addr} {vs : List Value} (hl : vs.length = n) (hc : ∀ j v, vs[j]? = some v → w.cell? (ad.add j) = some v) :
    (Instr.loadAt t (.pointer (some ad))).run P w = .ok (.agg vs.toArray) w := by
  have hr := run_loadCells_list (P := P) w ad vs hc
  subst hl
  simp [Instr.loadAt, Instr.sureAddr, loadVar, hA, hn, hr]

theorem splice_get (xs : List Value) (off : Nat) (ys : List Value) (j : Nat) (h : off ≤ xs.length) : (splice xs off ys)[j]? = if j < off then xs[j]? else if j < off + ys.length then ys[j - off]? else xs[j]? := by
  have l1 : (xs.take off).length = off := by rw [List.length_take]; omega
  unfold splice
  rw [List.append_assoc]
  by_cases h1 : j < off
  · rw [if_pos h1, List.getElem?_append_left (by omega), List.getElem?_take, if_pos h1]
  · rw [if_neg h1, List.getElem?_append_right (by omega), l1]
    by_cases h2 : j < off + ys.length
    · rw [if_pos h2, List.getElem?_append_left (by omega)]
    · rw [if_neg h2, List.getElem?_append_right (by omega), List.getElem?_drop]
      congr 1
      omega

theorem foldl_set (off : Nat) : ∀ (vs : List Value) (k : Nat) (cs : Array Value), off + k + vs.length ≤ cs.size →
    ((vs.zipIdx k).foldl (fun cs x => cs.setIfInBounds (off + x.2) x.1) cs).toList = splice cs.toList (off + k) vs
  | [], k, cs, _ => by simp [splice]
  | v :: vs, k, cs, h => by
    rw [List.zipIdx_cons, List.foldl_cons, foldl_set off vs (k + 1) _ (by simp only [List.length_cons] at h; simp; omega)]
    simp only [List.length_cons] at h
    apply List.ext_getElem?
    intro j
    simp only [Array.toList_setIfInBounds]
    rw [splice_get _ _ _ _ (by simp; omega), splice_get _ _ _ _ (by simp; omega), List.length_cons]
    by_cases h1 : j < off + k
    · rw [if_pos (by omega), if_pos h1, List.getElem?_set_ne (by omega)]
    · rw [if_neg h1]
      by_cases h2 : j = off + k
      · subst h2
        rw [if_pos (by omega), if_pos (by omega), List.getElem?_set_self (by simp; omega)]
        simp
      · rw [if_neg (by omega)]
        by_cases h3 : j < off + (k + 1) + vs.length
        · rw [if_pos h3, if_pos (by omega), show j - (off + k) = (j - (off + (k + 1))) + 1 by omega, List.getElem?_cons_succ]
        · rw [if_neg h3, if_neg (by omega), List.getElem?_set_ne (by omega)]

theorem foldl_all (vs : List Value) (cs : Array Value) (h : vs.length = cs.size) : (vs.toArray.zipIdx.foldl (fun cs (x : Value × Nat) => cs.setIfInBounds (0 + x.2) x.1) cs) = vs.toArray := by
  have h1 := foldl_set 0 vs 0 cs (by omega)
  apply Array.ext'
  rw [← Array.foldl_toList]
  simp only [Array.toList_zipIdx]
  rw [h1]
  simp [splice, h]

theorem run_buildSlice1 {t e : TypeId} {size : Nat} (ht : P.underlying t = some (.slice e)) (hI : zeroSize P e = some size) (hn : ∀ w, (Go.sizeOf e).run P w = .ok size w) (h0 : 0 < size) (h24 : size ≤ 16777216) (xs : List Value) (hx : xs.length = size) :
    (Instr.buildSlice t 1 #[(0, .agg xs.toArray)]).run P w = .ok (.slice (some ⟨w.heap.size, 0, none⟩) 1 1) (w.alloc (.cells xs.toArray e)) := by
  obtain ⟨z, hz, hzr⟩ := run_zero hI
  have hf := foldl_all xs ((Array.range size).map (fun i => z.cells[i % z.cells.size]!)) (by simp [hx])
  have hc : (Value.agg xs.toArray).cells = xs.toArray := rfl
  simp [Instr.buildSlice, run_underlying ht, hn, hzr, Instr.fill, hc, hx, Nat.not_lt.2 h24, Nat.pos_iff_ne_zero.1 h0, newRow]
  simp at hf
  rw [hf]

theorem fill_step {place : Nat → Option (Nat × Nat)} (cells : Array Value) (i : Nat) (u : Value) (vs : List Value) (off : Nat) (rest : List (Nat × Value)) (hu : u.cells = vs.toArray) (hp : place i = some (off, vs.length)) (h : off + vs.length ≤ cells.size) :
    ∃ c1 : Array Value, c1.toList = splice cells.toList off vs ∧ Instr.fill place cells ((i, u) :: rest) = Instr.fill place c1 rest := by
  refine ⟨vs.toArray.zipIdx.foldl (fun cs (x : Value × Nat) => cs.setIfInBounds (off + x.2) x.1) cells, ?_, ?_⟩
  · rw [← Array.foldl_toList]
    simp only [Array.toList_zipIdx]
    exact foldl_set off vs 0 cells (by omega)
  · simp only [Instr.fill, hp, hu]
    rw [if_neg (by simp; omega)]

/-- two parts that fill a struct -/
theorem fill_two {place : Nat → Option (Nat × Nat)} (z : Array Value) (xs ys : List Value) (u v : Value) (hu : u.cells = xs.toArray) (hv : v.cells = ys.toArray) (h0 : place 0 = some (0, xs.length)) (h1 : place 1 = some (xs.length, ys.length)) (hz : z.size = xs.length + ys.length) :
    Instr.fill place z [(0, u), (1, v)] = some (xs ++ ys).toArray := by
  obtain ⟨c1, e1, f1⟩ := fill_step z 0 u xs 0 [(1, v)] hu h0 (by omega)
  have s1 : c1.size = z.size := by rw [← Array.length_toList, e1, splice_length _ _ _ (by simp; omega), Array.length_toList]
  obtain ⟨c2, e2, f2⟩ := fill_step c1 1 v ys xs.length [] hv h1 (by omega)
  rw [f1, f2, Instr.fill]
  congr 1
  apply Array.ext'
  rw [e2, e1]
  simp only [splice, List.take_zero, List.nil_append, Nat.zero_add]
  rw [List.take_left, List.drop_append, List.drop_eq_nil_of_le (by omega), List.drop_drop, List.drop_eq_nil_of_le (by simp; omega)]
  simp

/-- what an append asks of the type of the elements: zero value's cells, cells, bytes -/
def elemInfo (P : Program) (e : TypeId) : Option (Option Nat × Nat × Nat) := (P.info? e).map fun i => (i.zero.map (·.cells.size), i.size, i.bytes)

theorem elemInfo_parts {e : TypeId} {size bytes : Nat} (h : elemInfo P e = some (some size, size, bytes)) : ∃ i z, P.info? e = some i ∧ i.zero = some z ∧ i.size = size ∧ i.bytes = bytes ∧ z.cells.size = size := by
  unfold elemInfo at h
  cases hi : P.info? e with
  | none => simp [hi] at h
  | some i =>
    simp only [hi, Option.map_some, Option.some.injEq, Prod.mk.injEq] at h
    obtain ⟨h1, h2, h3⟩ := h
    cases hz : i.zero with
    | none => simp [hz] at h1
    | some z => exact ⟨i, z, rfl, hz, h2, h3, by simpa [hz] using h1⟩

theorem Ent.appendG {e : TypeId} {size bytes : Nat} {t : TypeId} (ty : TypeId) (hE : Ent l w) (k : Nat) {v : Value} {n : Nat} {xs : List Value} (hk : l[k]? = some (row e size v n xs))
    (ht : P.underlying t = some (.slice e)) (hI : elemInfo P e = some (some size, size, bytes)) (hsz : 0 < size)
    {x : Value} {m : Nat} {news : List Value} (hx : reads x m news w) (hl : news.length = m * size) (h1 : ∀ u ∈ news, u.oneCell' = true) (hbytes : (n + m) * bytes ≤ 140737488355328) (h63 : n + m ≤ 140737488355328) :
    ∃ ao' c' w', (Builtin.append_ #[t, t] ty #[v, x]).run P w = .ok (.slice ao' (n + m) c') w' ∧ Ent (l.set k (row e size (.slice ao' (n + m) c') (n + m) (xs ++ news))) w' := by
  obtain ⟨i, z, hi, hz, hs, hb, hzs⟩ := elemInfo_parts hI
  exact hE.append ty k hk ht hi hz hs hb hzs hsz hx hl h1 (by unfold maxLen; omega) hbytes

theorem wpl_appendG {e : TypeId} {size bytes : Nat} {t : TypeId} (hE : Ent l w) (k : Nat) {v : Value} {n : Nat} {xs : List Value} (hk : l[k]? = some (row e size v n xs))
    {s y : Operand} (ho : o.op = .call { callee := .builtin .append, args := #[s, y], argTypes := #[t, t] }) (hw : Region.wanted o (yielded ops a.tmps) = true)
    (hs : a.eval s = v) {x : Value} (hy : a.eval y = x)
    (ht : P.underlying t = some (.slice e)) (hI : elemInfo P e = some (some size, size, bytes)) (hsz : 0 < size)
    {m : Nat} {news : List Value} (hx : reads x m news w) (hl : news.length = m * size) (h1 : ∀ u ∈ news, u.oneCell' = true) (hbytes : (n + m) * bytes ≤ 140737488355328) (h63 : n + m ≤ 140737488355328)
    (h : ∀ ao' c' w', Ent (l.set k (row e size (.slice ao' (n + m) c') (n + m) (xs ++ news))) w' → wpList P ops Q rest (a.put o.dst (.slice ao' (n + m) c')) w') : wpList P ops Q (o :: rest) a w := by
  obtain ⟨ao', c', w', hr, hE'⟩ := hE.appendG (P := P) o.type k hk ht hI hsz hx hl h1 hbytes h63
  refine wpl_run hw (w' := w') (v := .slice ao' (n + m) c') ?_ (h ao' c' w' hE')
  simp [execOp, ho, resolve, invoke, builtin, hs, hy, hr]

theorem step_appendG {e : TypeId} {size bytes : Nat} {t : TypeId} {K : Act → World → Prop} {E : Prop} (hE : Ent l w) (k : Nat) {v : Value} {n : Nat} {xs : List Value} (hk : l[k]? = some (row e size v n xs))
    {s y : Operand} (ho : o.op = .call { callee := .builtin .append, args := #[s, y], argTypes := #[t, t] }) (hw : Region.wanted o (yielded ops a.tmps) = true)
    (hs : a.eval s = v) {x : Value} (hy : a.eval y = x)
    (ht : P.underlying t = some (.slice e)) (hI : elemInfo P e = some (some size, size, bytes)) (hsz : 0 < size)
    {m : Nat} {news : List Value} (hx : reads x m news w) (hl : news.length = m * size) (h1 : ∀ u ∈ news, u.oneCell' = true) (hbytes : (n + m) * bytes ≤ 140737488355328) (h63 : n + m ≤ 140737488355328)
    (h : ∀ ao' c' w', Ent (l.set k (row e size (.slice ao' (n + m) c') (n + m) (xs ++ news))) w' → K (a.put o.dst (.slice ao' (n + m) c')) w') : if Region.wanted o (yielded ops a.tmps) = true then Oper.wp P o a w K Q else E := by
  rw [if_pos hw]
  obtain ⟨ao', c', w', hr, hE'⟩ := hE.appendG (P := P) o.type k hk ht hI hsz hx hl h1 hbytes h63
  unfold Oper.wp execOp
  simp only [ho, resolve, invoke, builtin, Sem.run_bind, Sem.run_pure, Result.andThen_ok, List.map_toArray, List.map_cons, List.map_nil, hs, hy, hr]
  exact h ao' c' w' hE'
end
attribute [irreducible] splice
end Go.SL
