/-
  Append onto an owned row, of whatever is read as a list of cells (a slice, a string), over separation lists; conversions between strings and bytes. Conditions: none; plain lemmas over any program.
-/
import Derived.Test.YtohdljcpaogokaaSl
import Derived.Deep.AppendSrc
import Derived.Lib.ConvBytes
namespace Go.SL
section
variable {P : Program} {w : World} {l : List HProp}

theorem heap_setCell_self (w : World) (g o : Nat) (cur : Array Value) (e : TypeId) (fz : Nat × Nat) (v : Value) (h : w.heap[g]? = some (.cells cur e fz)) :
    (w.setCell ⟨g, o, none⟩ v).heap[g]? = some (.cells (cur.setIfInBounds o v) e fz) := by
  simp [World.setCell, Array.getElem?_modify, h]

theorem setCells_cells (g : Nat) (e : TypeId) (fz : Nat × Nat) : ∀ (vs : List Value) (o : Nat) (w : World) (cur : Array Value), w.heap[g]? = some (.cells cur e fz) →
    ∃ cur', (w.setCells g o vs).heap[g]? = some (.cells cur' e fz) ∧ cur'.size = cur.size ∧ (∀ j, j < o → cur'[j]? = cur[j]?) ∧ (o + vs.length ≤ cur.size → ∀ j, j < vs.length → cur'[o + j]? = vs[j]?)
  | [], o, w, cur, h => ⟨cur, h, rfl, fun _ _ => rfl, fun _ j hj => by simp at hj⟩
  | v :: vs, o, w, cur, h => by
    obtain ⟨cur', h1, h2, h3, h4⟩ := setCells_cells g e fz vs (o + 1) (w.setCell ⟨g, o, none⟩ v) _ (heap_setCell_self w g o cur e fz v h)
    refine ⟨cur', h1, by simpa using h2, fun j hj => ?_, fun hfit j hj => ?_⟩
    · rw [h3 j (by omega), Array.getElem?_setIfInBounds_ne (by omega)]
    · simp only [List.length_cons] at hfit hj
      cases j with
      | zero =>
        have ho : o < cur.size := by omega
        rw [Nat.add_zero, h3 o (by omega)]
        simp [ho]
      | succ j =>
        have hsz : (cur.setIfInBounds o v).size = cur.size := by simp
        have := h4 (by omega) j (by omega)
        rw [show o + (j + 1) = o + 1 + j by omega, this]
        simp

theorem setCells_same (g : Nat) : ∀ (vs : List Value) (o : Nat) (w : World), Same w (w.setCells g o vs) ∧ (w.setCells g o vs).heap.size = w.heap.size ∧ ∀ k, k ≠ g → (w.setCells g o vs).heap[k]? = w.heap[k]?
  | [], _, w => ⟨Same.refl w, rfl, fun _ _ => rfl⟩
  | v :: vs, o, w => by
    obtain ⟨h1, h2, h3⟩ := setCells_same g vs (o + 1) (w.setCell ⟨g, o, none⟩ v)
    exact ⟨Same.trans (b := w.setCell ⟨g, o, none⟩ v) ⟨rfl, rfl, rfl⟩ h1, by rw [World.setCells, h2]; simp, fun k hk => by rw [World.setCells, h3 k hk]; exact RowKit.Below.heap_setCell w _ v k hk⟩

theorem append_src {e : TypeId} {i : TypeInfo} {z : Value} {size bytes : Nat} {t tx : TypeId} (ty : TypeId)
    (ht : P.underlying t = some (.slice e)) (hi : P.info? e = some i) (hz : i.zero = some z) (hsize : i.size = size) (hby : i.bytes = bytes) (hzs : z.cells.size = size) (hsz : 0 < size)
    {v : Value} {n : Nat} {xs : List Value} (hown : w.ownsRow 0 e size v n xs) {x : Value} {m : Nat} {news : List Value} (hs : Src P size tx x m news w) (h63 : n + m ≤ maxLen) (hbytes : (n + m) * bytes ≤ 140737488355328) :
    ∃ ao' c' w', (Builtin.append_ #[t, tx] ty #[v, x]).run P w = .ok (.slice ao' (n + m) c') w' ∧ w'.ownsRow 0 e size (.slice ao' (n + m) c') (n + m) (xs ++ news) ∧ w.grownBy w' v.ownBlock ∧
      ((Value.slice ao' (n + m) c').ownBlock = v.ownBlock ∨ (Value.slice ao' (n + m) c').ownBlock = some w.heap.size) := by
  subst hsize
  subst hby
  have hm : n + m ≤ 9223372036854775807 := by simp only [maxLen] at h63; omega
  have hlen : (xs ++ news).length = (n + m) * i.size := by rw [List.length_append, hown.1, hs.newsLen, Nat.add_mul]
  have hzero : ∀ k, (Builtin.zeroCells z.cells k).size = k * i.size := fun k => by rw [size_zeroCells, hzs]
  -- a new row
  have key : ∀ (base : Option Addr) (cap : Nat), (Builtin.firstCells i.size n (.slice base n cap)).run P w.drew = .ok xs.toArray w.drew → cap < n + m → v = .slice base n cap →
      ∃ ao' c' w', (Builtin.append_ #[t, tx] ty #[v, x]).run P w = .ok (.slice ao' (n + m) c') w' ∧ w'.ownsRow 0 e i.size (.slice ao' (n + m) c') (n + m) (xs ++ news) ∧ w.grownBy w' v.ownBlock ∧
      ((Value.slice ao' (n + m) c').ownBlock = v.ownBlock ∨ (Value.slice ao' (n + m) c').ownBlock = some w.heap.size) := by
    intro base cap hold hc hv
    have hr := run_append_grow_src w t tx ty e i z ht hi hz base n cap xs hold x m news hs hc (by omega) (growslice_fits (by omega) hbytes)
    have hge := grownCap_ge w (n + m) cap e
    refine ⟨_, _, _, by rw [hv]; exact hr, ⟨hlen, .inr ⟨w.heap.size, _, _, rfl, Nat.zero_le _, heap_alloc_new w.drew _, hge, grownCap_le_maxLen w (n + m) cap e h63, ?_, ?_⟩⟩,
      ⟨rfl, rfl, rfl, by simp, fun k hk _ => RowKit.Below.heap_alloc w.drew _ k hk⟩, .inr rfl⟩
    · rw [Array.size_append, hzero, List.size_toArray, hlen, ← Nat.add_mul]
      congr 1
      omega
    · rw [Array.toList_append, ← hlen]
      exact List.take_left
  rcases hown.2 with ⟨hv, h0⟩ | ⟨g, cap, cur, hv, _, hg, hnc, hcm, hcs, htake⟩
  · have hx : xs = [] := List.eq_nil_of_length_eq_zero (by rw [hown.1, h0]; simp)
    by_cases hm0 : m = 0
    · have hn : news = [] := List.eq_nil_of_length_eq_zero (by rw [hs.newsLen, hm0]; simp)
      subst hv h0 hx hn hm0
      refine ⟨none, 0, w, ?_, by simpa using World.ownsRow_nil w 0 e i.size, World.grownBy.refl _ _, .inl rfl⟩
      have hc := hs.cells
      rcases hs.kind with ⟨e', hk⟩ | hk <;> simp [Builtin.append_, run_underlying ht, run_underlying hk, Go.sizeOf, typeInfo, hi, hs.len, hc]
    · exact key none 0 (by subst hx h0; exact run_firstCells_none w.drew i.size 0 0 0) (by omega) (by rw [hv, h0])
  · by_cases hroom : n + m ≤ cap
    · have hfit : n * i.size + news.length ≤ cur.size := by rw [hs.newsLen, hcs, ← Nat.add_mul]; exact Nat.mul_le_mul_right _ hroom
      have hr := run_append_room_src w t tx ty e i ht hi g 0 n cap x m news hs hroom (fun j hj => by simp [World.cell?, hg]; omega) (fun j hj => by simp [World.frozen?, hg])
      obtain ⟨cur', h1, h2, h3, h4⟩ := setCells_cells g e (0, 0) news (0 + n * i.size) w cur hg
      obtain ⟨s1, s2, s3⟩ := setCells_same g news (0 + n * i.size) w
      refine ⟨_, _, _, by rw [hv]; exact hr, ⟨hlen, .inr ⟨g, cap, cur', rfl, Nat.zero_le _, h1, hroom, hcm, by rw [h2, hcs], ?_⟩⟩, ⟨s1.os, s1.tape, s1.output, Nat.le_of_eq s2.symm, fun k _ hk => s3 k fun hkg => hk (by rw [hv, hkg]; rfl)⟩, .inl (by rw [hv]; rfl)⟩
      apply List.ext_getElem?
      intro j
      rw [List.getElem?_take]
      by_cases hj : j < n * i.size
      · rw [if_pos (by rw [Nat.add_mul]; omega), Array.getElem?_toList, h3 j (by omega), List.getElem?_append_left (by rw [hown.1]; exact hj), ← htake, List.getElem?_take, if_pos hj, Array.getElem?_toList]
      · by_cases hj2 : j < (n + m) * i.size
        · have := h4 (by omega) (j - n * i.size) (by rw [hs.newsLen]; rw [Nat.add_mul] at hj2; omega)
          rw [if_pos hj2, Array.getElem?_toList, List.getElem?_append_right (by rw [hown.1]; omega), hown.1, ← this]
          congr 1
          omega
        · rw [if_neg hj2, List.getElem?_eq_none (by rw [hlen]; omega)]
    · refine key (some ⟨g, 0, none⟩) cap ?_ (by omega) hv
      have holds : ∀ j u, xs[j]? = some u → w.drew.cell? ((⟨g, 0, none⟩ : Addr).add j) = some u := hown.cells (by rw [hv]; rfl)
      exact run_firstCells_some w.drew i.size n ⟨g, 0, none⟩ n cap xs hown.1 holds

/-- append of a string onto a row of bytes -/
theorem Ent.appendS {e : TypeId} {i : TypeInfo} {t tx : TypeId} (ty : TypeId) (hE : Ent l w) (k : Nat) {v : Value} {n : Nat} {xs : List Value} (hk : l[k]? = some (row e 1 v n xs))
    (ht : P.underlying t = some (.slice e)) (htx : P.underlying tx = some .string) (hi : P.info? e = some i) (hz : i.zero = some (.int .u8 0)) (hsize : i.size = 1) (hby : i.bytes = 1) (s : ByteArray)
    (h63 : n + s.size ≤ 140737488355328) :
    ∃ ao' c' w', (Builtin.append_ #[t, tx] ty #[v, .string s]).run P w = .ok (.slice ao' (n + s.size) c') w' ∧ Ent (l.set k (row e 1 (.slice ao' (n + s.size) c') (n + s.size) (xs ++ byteCells s))) w' := by
  obtain ⟨ao', c', w', hr, h1, h2, h3⟩ := append_src ty ht hi hz hsize hby rfl (by decide) (hE.owns k hk) (Src.ofString w htx s) (by unfold maxLen; omega) (by omega)
  exact ⟨ao', c', w', hr, hE.grown k hk h2 h1 h3⟩

/-- a slice of one's own that is only read -/
def view (v : Value) (n : Nat) (xs : List Value) : HProp where
  on w F := reads v n xs w ∧ (∀ b, v.ownBlock = some b → b < w.heap.size) ∧ ∀ b, F b ↔ v.ownBlock = some b
  stable := fun {w w' F} _ hz h ⟨⟨ao, c, hv, h1, h2⟩, h3, h4⟩ => by
    refine ⟨⟨ao, c, hv, h1, fun ad had j u hu => ?_⟩, fun b hb => Nat.lt_of_lt_of_le (h3 b hb) hz, h4⟩
    have hb : F ad.block := (h4 _).2 (by rw [hv, had]; rfl)
    rw [World.cell?_of_block (w := w)]
    · exact h2 ad had j u hu
    · unfold Addr.add
      split <;> exact h _ hb
  bound := fun ⟨_, h3, h4⟩ hb => h3 _ ((h4 _).1 hb)

theorem Ent.views {v : Value} {n : Nat} {xs : List Value} (hE : Ent l w) (i : Nat) (hi : l[i]? = some (view v n xs)) : reads v n xs w := by
  have h := hE.front i hi
  unfold Ent at h
  obtain ⟨F, F1, F2, ⟨h1, _⟩, _⟩ := h
  exact h1

theorem Ent.toView {e : TypeId} {size : Nat} {v : Value} {n : Nat} {xs : List Value} (hE : Ent l w) (i : Nat) (hi : l[i]? = some (row e size v n xs)) : Ent (l.set i (view v n xs)) w := by
  have hr := reads_row hE i hi
  have ho := hE.owns i hi
  refine Ent.put ((hE.front i hi).step (Bs := [view v n xs]) (Same.refl w) (Nat.le_refl _) fun F hF => ⟨fun _ _ _ => rfl, F, on_single ⟨hr, fun b hb => (ho.lt b hb).2, ?_⟩, fun _ h => .inl h⟩) (List.getElem?_eq_some_iff.1 hi).1
  unfold row at hF
  exact hF.2

/-- where a slice of some elements lies -/
theorem reads_form {ao : Option Addr} {n c : Nat} {xs : List Value} (hr : reads (.slice ao n c) n xs w) (h0 : 0 < n) (hx : 0 < xs.length) :
    ∃ b off, ao = some ⟨b, off, none⟩ ∧ ∀ j u, xs[j]? = some u → w.cell? ⟨b, off + j, none⟩ = some u := by
  obtain ⟨ao', c', e, h1, h2⟩ := hr
  cases e
  cases ao with
  | none => have := (h1 rfl).1; omega
  | some ad =>
    have h3 := h2 ad rfl 0 _ (List.getElem?_eq_getElem hx)
    have hs : ad.spot = none := by
      simp only [Addr.add_zero'] at h3
      cases hs : ad.spot with
      | none => rfl
      | some x =>
        unfold World.cell? at h3
        split at h3
        · simp [hs] at h3
        · cases h3
    obtain ⟨b, off, sp⟩ := ad
    simp only at hs
    subst hs
    exact ⟨b, off, rfl, fun j u hu => by have := h2 _ rfl j u hu; rwa [Addr.add_lit] at this⟩

/-- a new block that reads as a slice -/
theorem Ent.newView {w' : World} {b c : Nat} {xs : List Value} {n : Nat} (hE : Ent l w) (hs : Same w w') (hz : w'.heap.size = w.heap.size + 1) (hb : b = w.heap.size) (hk : ∀ k, k < w.heap.size → w'.heap[k]? = w.heap[k]?)
    (hr : ∀ j u, xs[j]? = some u → w'.cell? ⟨b, j, none⟩ = some u) : Ent (view (.slice (some ⟨b, 0, none⟩) n c) n xs :: l) w' := by
  refine hE.step0 (Bs := [view (.slice (some ⟨b, 0, none⟩) n c) n xs]) hs (by omega) hk ⟨fun x => x = b, on_single ⟨⟨_, _, rfl, fun h => (by cases h), fun ad had j u hu => by cases had; rw [Addr.add_lit, Nat.zero_add]; exact hr j u hu⟩, fun x hx => ?_, fun x => ?_⟩, fun x hx => by omega⟩
  · simp [Value.ownBlock] at hx; omega
  · simp [Value.ownBlock, eq_comm]

theorem Ent.strBytes {src dst e : TypeId} {u : TypeDesc} (hE : Ent l w) (hs : P.underlying src = some u) (hd : P.underlying dst = some (.slice e)) (he : P.underlying e = some (.int .u8)) (s : ByteArray) :
    ∃ b c w', (convert src dst (.string s)).run P w = .ok (.slice (some ⟨b, 0, none⟩) s.size c) w' ∧ Ent (view (.slice (some ⟨b, 0, none⟩) s.size c) s.size (byteCells s) :: l) w' := by
  refine ⟨_, _, _, Lib.run_convert_string_bytes w src dst e s hs hd he, hE.newView ⟨rfl, rfl, rfl⟩ (Lib.bytesWorld_size w e s) rfl (fun k hk => Lib.bytesWorld_at_old w e s k hk) fun j u hu => ?_⟩
  obtain ⟨hj, rfl⟩ := List.getElem?_eq_some_iff.1 hu
  have hj' : j < s.size := by simpa [byteCells_length] using hj
  rw [Lib.bytesWorld_cell w e s j hj']
  have hj'' : j < s.data.toList.length := by simpa using hj'
  simp [byteCells, List.getD, List.getElem?_eq_getElem hj'']

theorem bytesToString_reads {src dst e : TypeId} (hs : P.underlying src = some (.slice e)) (he : P.underlying e = some (.int .u8)) (hd : P.underlying dst = some .string) {v : Value} {n : Nat} {bs : List UInt8}
    (hr : reads v n (bs.map fun b => Value.int .u8 b.toNat) w) (hn : n = bs.length) : (convert src dst v).run P w = .ok (.string ⟨bs.toArray⟩) w := by
  obtain ⟨ao, c, rfl, h1, h2⟩ := hr
  rw [run_convert_bytes_string w src dst e ao n c hs he hd]
  cases ao with
  | none =>
    obtain ⟨rfl, h⟩ := h1 rfl
    have : bs = [] := by simpa using h
    subst this
    simp [Conv.bytesToString, ByteArray.empty, ByteArray.emptyWithCapacity]
    rfl
  | some ad =>
    have hl := run_loadCells_list (P := P) w ad _ (h2 ad rfl)
    rw [List.length_map, ← hn] at hl
    have hm : (bs.map fun b => Value.int .u8 b.toNat) = ((bs.map fun b => (b.toNat : Int)).map (Value.int .u8)) := by simp
    rw [hm] at hl
    rw [run_bytesToString w ad n c _ hl, foldl_push_bytes]
    congr 3
    apply Array.ext'
    simp [ByteArray.empty, ByteArray.emptyWithCapacity, Function.comp_def]
    rfl
theorem wpl_bytesStr {ops : Array Oper} {rest : List Oper} {o : Oper} {a : Act} {Q : Exit → Act → World → Prop} {src dst e : TypeId} {x : Operand} (ho : o.op = .convert src dst x) (hw : Region.wanted o (yielded ops a.tmps) = true) {v : Value} (hx : a.eval x = v)
    (hs : P.underlying src = some (.slice e)) (he : P.underlying e = some (.int .u8)) (hd : P.underlying dst = some .string) {n : Nat} {bs : List UInt8}
    (hr : reads v n (bs.map fun b => Value.int .u8 b.toNat) w) (hn : n = bs.length) (h : wpList P ops Q rest (a.put o.dst (.string ⟨bs.toArray⟩)) w) : wpList P ops Q (o :: rest) a w := by
  refine wpl_run hw (w' := w) (v := .string ⟨bs.toArray⟩) ?_ h
  simp [execOp, ho, hx, bytesToString_reads hs he hd hr hn]

end
attribute [irreducible] view
end Go.SL
