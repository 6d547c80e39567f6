/-
  Plain facts of what a sector may be, act by act; a slice of slices of texts, each in its own memory.
-/
import Derived.Test.YtpchnmcofkffiaaDw5
import Derived.Test.YtpchnmcofkffiaaDk7
namespace Go.Proofs.Ytpchnmcofkffiaa
open Go.RowKit Go.SL

/-- between an act and the look at the disk -/
structure KMid (was : Bool) (s : DS) (may : List (List (List UInt8))) (now : List (List UInt8)) : Prop where
  mlen : may.length = s.on.length
  nlen : now.length = s.on.length
  on : ∀ k, k < s.on.length → s.on.getD k [] ∈ may.getD k []
  strong : (was && s.dead) = false → DKeeps s may now
  wait : (was && s.dead) = true → s.wait = []

theorem KMid.same {s' : DS} {may : List (List (List UInt8))} {now : List (List UInt8)} (was : Bool) (hd : (was && s'.dead) = false) (h : DKeeps s' may now) : KMid was s' may now :=
  ⟨h.mlen, h.nlen, h.on, fun _ => h, fun e => by rw [hd] at e; cases e⟩
theorem KMid.gone {s : DS} {may : List (List (List UInt8))} {now : List (List UInt8)} (h : DKeeps s may now) (keep : ByteArray) : KMid true (s.goes keep) may now := by
  have e : (s.goes keep).on.length = s.on.length := goesFrom_length _ _ _ _
  exact ⟨by rw [e]; exact h.mlen, by rw [e]; exact h.nlen, fun k hk => h.gone keep k (by rwa [e] at hk), fun he => by simp [DS.goes] at he, fun _ => rfl⟩

def mayFlush (e : Int) (may : List (List (List UInt8))) (now : List (List UInt8)) : List (List (List UInt8)) := if e = 0 then now.map fun x => [x] else may

theorem map_one (now : List (List UInt8)) (k : Nat) (hk : k < now.length) : (now.map fun x => [x]).getD k [] = [now.getD k []] := by
  simp [List.getD_eq_getElem?_getD, hk]

theorem KMid.flush {s : DS} {may : List (List (List UInt8))} {now : List (List UInt8)} (h : DKeeps s may now) : KMid (!s.dead) s.flushS (mayFlush s.flushE may now) now := by
  unfold DS.flushE DS.flushS mayFlush
  cases hd : s.dead with
  | true => simp only [if_true]; exact KMid.same _ (by simp) h
  | false =>
    by_cases h0 : s.left = 0
    · simp only [h0, if_true]
      exact KMid.gone h _
    · simp only [h0, if_false, if_true, Bool.false_eq_true]
      have e : (flushOn s.on s.wait).length = s.on.length := flushOn_length _ _
      have hn : ∀ k, k < s.on.length → (flushOn s.on s.wait).getD k [] = now.getD k [] := fun k hk => by rw [flushOn_getD _ _ _ hk, h.now k hk]; rfl
      refine KMid.same _ (by simp [DS.acted, hd]) (DKeeps.fresh rfl ?_ ?_ ?_ ?_)
      · show (now.map _).length = (flushOn s.on s.wait).length
        rw [e, List.length_map, h.nlen]
      · show now.length = (flushOn s.on s.wait).length
        rw [e, h.nlen]
      · intro k hk
        have hk' : k < s.on.length := e ▸ hk
        show (flushOn s.on s.wait).getD k [] ∈ _
        rw [map_one _ _ (by rw [h.nlen]; exact hk'), hn k hk']
        simp
      · intro k hk
        exact (hn k (e ▸ hk)).symm

theorem KMid.fuse {s : DS} {may : List (List (List UInt8))} {now : List (List UInt8)} (h : DKeeps s may now) (n : Int) (keep : ByteArray) : KMid (!s.dead) (s.fuseS n keep) may now := by
  unfold DS.fuseS
  split
  · exact KMid.same _ (by simp) ⟨h.mlen, h.nlen, h.on, h.wait, h.now⟩
  · exact KMid.same _ (by simp) h

theorem KMid.crash {s : DS} {may : List (List (List UInt8))} {now : List (List UInt8)} (h : DKeeps s may now) (keep : ByteArray) : KMid (!s.dead) (s.crashS keep) may now := by
  unfold DS.crashS
  cases hd : s.dead with
  | true => exact KMid.same _ (by simp) h
  | false => exact KMid.gone h _

theorem KMid.start {s : DS} {may : List (List (List UInt8))} {now : List (List UInt8)} (h : DKeeps s may now) : KMid (!s.dead) s.startS may now :=
  KMid.same _ (by simp [DS.startS]) ⟨h.mlen, h.nlen, h.on, h.wait, h.now⟩

theorem KMid.read {s : DS} {may : List (List (List UInt8))} {now : List (List UInt8)} (h : DKeeps s may now) : KMid (!s.dead) s may now := KMid.same _ (by simp) h

theorem getD_setM (l : List (List (List UInt8))) (i k : Nat) (x : List (List UInt8)) (hk : k < l.length) : (l.set i x).getD k [] = if i = k then x else l.getD k [] := by
  simp only [List.getD_eq_getElem?_getD, List.getElem?_set]
  split
  · subst_vars; simp [hk]
  · rfl

/-- a write that is taken -/
theorem KMid.wrote {s : DS} {may : List (List (List UInt8))} {now : List (List UInt8)} (hg : s.good) (h : DKeeps s may now) {k : Nat} {b : List UInt8} (he : s.writeE k b.length = 0) :
    s.dead = false ∧ k < s.on.length ∧ KMid (!s.dead) (s.writeS k b) (may.set k (may.getD k [] ++ [b])) (now.set k b) := by
  unfold DS.writeE at he
  unfold DS.writeS
  cases hd : s.dead with
  | true => simp [hd] at he
  | false =>
    simp only [hd, if_false, Bool.false_eq_true] at he
    by_cases hc : 0 ≤ (k : Int) ∧ (k : Int) < s.on.length ∧ b.length = 512
    · by_cases h0 : s.left = 0
      · simp [hc, h0] at he
      · rw [if_neg (by simp), if_pos hc, if_neg h0]
        have hk : k < s.on.length := by omega
        refine ⟨rfl, hk, KMid.same _ (by simp [DS.acted, hd]) ⟨by simpa [DS.acted] using h.mlen, by simpa [DS.acted] using h.nlen, ?_, ?_, ?_⟩⟩
        · intro j hj
          have hj' : j < s.on.length := hj
          rw [getD_setM _ _ _ _ (by rw [h.mlen]; exact hj')]
          split
          · subst_vars
            exact List.mem_append_left _ (h.on _ hj')
          · exact h.on _ hj'
        · intro x hx
          simp only [List.mem_append, List.mem_singleton] at hx
          rcases hx with hx | rfl
          · rw [getD_setM _ _ _ _ (by rw [h.mlen]; exact (hg.wait x hx).2)]
            split
            · rename_i e
              exact List.mem_append_left _ (e ▸ h.wait x hx)
            · exact h.wait x hx
          · simp only [Int.toNat_natCast]
            rw [getD_setM _ _ _ _ (by rw [h.mlen]; exact hk), if_pos rfl]
            simp
        · intro j hj
          have hj' : j < s.on.length := hj
          rw [getD_set _ _ _ _ (by rw [h.nlen]; exact hj')]
          show _ = lastOf (s.wait ++ [⟨b, (k : Int).toNat⟩]) j (s.on.getD j [])
          rw [lastOf_snoc, Int.toNat_natCast]
          split
          · rfl
          · exact h.now j hj'
    · rw [if_neg hc] at he
      cases he

/-- a write that is not taken -/
theorem KMid.wroteNot {s : DS} {may : List (List (List UInt8))} {now : List (List UInt8)} (h : DKeeps s may now) {k : Int} {b : List UInt8} (he : s.writeE k b.length ≠ 0) :
    KMid (!s.dead) (s.writeS k b) may now := by
  unfold DS.writeE at he
  unfold DS.writeS
  cases hd : s.dead with
  | true => exact KMid.same _ (by simp) h
  | false =>
    simp only [hd, if_false, Bool.false_eq_true] at he
    by_cases hc : 0 ≤ k ∧ k < s.on.length ∧ b.length = 512
    · by_cases h0 : s.left = 0
      · simp only [if_pos hc, if_pos h0, if_false, Bool.false_eq_true]
        exact KMid.gone h _
      · simp [hc, h0] at he
    · simp only [if_neg hc, if_false, Bool.false_eq_true]
      exact KMid.same _ (by simp [hd]) h

/-- what is written is at a place of the disk -/
theorem writeE_zero {s : DS} {k : Int} {n : Nat} (he : s.writeE k n = 0) : 0 ≤ k ∧ k < s.on.length := by
  unfold DS.writeE at he
  split at he
  · cases he
  · split at he
    · omega
    · cases he

/-- what is read is what lies there now -/
theorem DKeeps.reads {s : DS} {may : List (List (List UInt8))} {now : List (List UInt8)} (h : DKeeps s may now) {k : Int} (he : s.readE k = 0) : 0 ≤ k ∧ k < s.on.length ∧ s.readB k = now.getD k.toNat [] := by
  have hr : 0 ≤ k ∧ k < s.on.length := by
    unfold DS.readE DS.hasE at he
    split at he
    · cases he
    · split at he
      · assumption
      · cases he
  refine ⟨hr.1, hr.2, ?_⟩
  unfold DS.readB
  rw [if_pos he, h.now k.toNat (by omega)]

/-! ## the slice of slices -/

structure MRow where
  ao : Option Addr
  c : Nat
  xs : List (List UInt8)
def MRow.v (m : MRow) : Value := .slice m.ao m.xs.length m.c
def MRow.piece (m : MRow) : HProp := row 9 1 m.v m.xs.length (m.xs.map strv)

theorem splice_set (xs : List Value) (k : Nat) (y : Value) (hk : k < xs.length) : splice xs k [y] = xs.set k y := by
  unfold splice
  rw [List.set_eq_take_append_cons_drop, if_pos hk]
  simp

theorem piece_at {A B C : HProp} {ms : List MRow} {l : List HProp} {k : Nat} (hk : k < ms.length) : (A :: B :: C :: (ms.map MRow.piece ++ l))[k + 3]? = some (ms[k]).piece := by
  show (ms.map MRow.piece ++ l)[k]? = _
  rw [List.getElem?_append_left (by simpa using hk)]
  simp [hk]

theorem piece_put {A B C : HProp} {ms : List MRow} {l : List HProp} {k : Nat} (hk : k < ms.length) (m : MRow) : (A :: B :: C :: (ms.map MRow.piece ++ l)).set (k + 3) m.piece = A :: B :: C :: ((ms.set k m).map MRow.piece ++ l) := by
  show A :: B :: C :: (ms.map MRow.piece ++ l).set k m.piece = _
  rw [List.set_append, if_pos (by simpa using hk), List.map_set]

theorem piece_at5 {A B C D E : HProp} {ms : List MRow} {l : List HProp} {k : Nat} (hk : k < ms.length) : (A :: B :: C :: D :: E :: (ms.map MRow.piece ++ l))[k + 5]? = some (ms[k]).piece := by
  show (ms.map MRow.piece ++ l)[k]? = _
  rw [List.getElem?_append_left (by simpa using hk)]
  simp [hk]

theorem piece_at4 {A B C D : HProp} {ms : List MRow} {l : List HProp} {k : Nat} (hk : k < ms.length) : (A :: B :: C :: D :: (ms.map MRow.piece ++ l))[k + 4]? = some (ms[k]).piece := by
  show (ms.map MRow.piece ++ l)[k]? = _
  rw [List.getElem?_append_left (by simpa using hk)]
  simp [hk]

theorem piece_put5 {A B C D E : HProp} {ms : List MRow} {l : List HProp} {k : Nat} (hk : k < ms.length) (m : MRow) : (A :: B :: C :: D :: E :: (ms.map MRow.piece ++ l)).set (k + 5) m.piece = A :: B :: C :: D :: E :: ((ms.set k m).map MRow.piece ++ l) := by
  show A :: B :: C :: D :: E :: (ms.map MRow.piece ++ l).set k m.piece = _
  rw [List.set_append, if_pos (by simpa using hk), List.map_set]

/-- a row takes the place of another one -/
theorem piece_new {w : World} {D : HProp} {F : List HProp} {ms : List MRow} {l : List HProp} {k : Nat} (hk : k < ms.length) (m : MRow) (hE : Ent (m.piece :: D :: (F ++ (ms.map MRow.piece ++ l))) w) : Ent (D :: (F ++ ((ms.set k m).map MRow.piece ++ l))) w := by
  have e1 : ms = ms.take k ++ ms[k] :: ms.drop (k + 1) := by simp
  have e2 : ms.set k m = ms.take k ++ m :: ms.drop (k + 1) := by rw [List.set_eq_take_append_cons_drop, if_pos hk]
  rw [e2]
  rw [e1] at hE
  simp only [List.map_append, List.map_cons, List.append_assoc, List.cons_append] at hE ⊢
  generalize (List.take k ms).map MRow.piece = X at *
  generalize (List.drop (k + 1) ms).map MRow.piece = Y at *
  generalize ms[k].piece = z at *
  have h1 : Ent (z :: m.piece :: D :: (F ++ (X ++ (Y ++ l)))) w := hE.perm (by
    refine List.Perm.trans ?_ (List.Perm.swap _ _ _)
    refine List.Perm.cons _ ?_
    refine List.Perm.trans ?_ (List.Perm.swap _ _ _)
    refine List.Perm.cons _ ?_
    refine List.Perm.trans (List.Perm.append_left F List.perm_middle) ?_
    exact List.perm_middle)
  exact h1.tail.perm (by
    refine List.Perm.trans (List.Perm.swap _ _ _) ?_
    refine List.Perm.cons _ ?_
    refine List.Perm.trans List.perm_middle.symm ?_
    exact List.Perm.append_left F List.perm_middle.symm)

theorem row_one {w : World} {l : List HProp} (x : List UInt8) (hE : Ent l w) : Ent (MRow.piece ⟨some ⟨w.heap.size, 0, none⟩, 1, [x]⟩ :: l) (w.alloc (.cells #[.string ⟨x.toArray⟩] 9)) :=
  (hE.alloc _).toRow 0 rfl (by simp) (by simp) (by show 1 ≤ maxLen; unfold maxLen; omega) (by simp) (by simp [strv])

/-- one row more -/
theorem piece_add {w : World} {D : HProp} {F : List HProp} {ms : List MRow} {l : List HProp} (m : MRow) (hE : Ent (m.piece :: D :: (F ++ (ms.map MRow.piece ++ l))) w) : Ent (D :: (F ++ ((ms ++ [m]).map MRow.piece ++ l))) w := by
  simp only [List.map_append, List.map_cons, List.map_nil, List.append_assoc, List.cons_append, List.nil_append]
  exact hE.perm (by
    refine List.Perm.trans (List.Perm.swap _ _ _) ?_
    refine List.Perm.cons _ ?_
    refine List.Perm.trans List.perm_middle.symm ?_
    exact List.Perm.append_left F List.perm_middle.symm)

theorem splice_next (xs : List Value) (a b : Value) {k n : Nat} (hl : xs.length = k) (hk : k < n) : splice (xs ++ List.replicate (n - k) b) k [a] = (xs ++ [a]) ++ List.replicate (n - (k + 1)) b := by
  subst hl
  rw [splice_set _ _ _ (by simp; omega), List.set_append_right _ _ (by omega)]
  obtain ⟨d, hd⟩ : ∃ d, n - xs.length = d + 1 := ⟨n - xs.length - 1, by omega⟩
  rw [hd, show n - (xs.length + 1) = d by omega]
  simp [List.replicate_succ]

theorem splice_repl (a b : Value) {k n : Nat} (hk : k < n) : splice (List.replicate k a ++ List.replicate (n - k) b) k [a] = List.replicate (k + 1) a ++ List.replicate (n - (k + 1)) b := by
  rw [splice_next _ _ _ (by simp) hk, List.replicate_succ']
theorem splice_rows {ms : List MRow} (m : MRow) (b : Value) {k n : Nat} (hl : ms.length = k) (hk : k < n) : splice (ms.map MRow.v ++ List.replicate (n - k) b) k [m.v] = (ms ++ [m]).map MRow.v ++ List.replicate (n - (k + 1)) b := by
  rw [splice_next _ _ _ (by simpa using hl) hk]; simp
theorem splice_mrow {ms : List MRow} (m : MRow) {k : Nat} (hk : k < ms.length) : splice (ms.map MRow.v) k [m.v] = (ms.set k m).map MRow.v := by
  rw [splice_set _ _ _ (by simpa using hk), List.map_set]
theorem splice_strs {now : List (List UInt8)} (x : List UInt8) {k : Nat} (hk : k < now.length) : splice (now.map strv) k [.string ⟨x.toArray⟩] = (now.set k x).map strv := by
  rw [splice_set _ _ _ (by simpa using hk), List.map_set]; rfl
theorem mrow_cell {ms : List MRow} {k : Nat} (hk : k < ms.length) : (ms.map MRow.v)[k]? = some (ms[k]).v := by simp [hk]
theorem strs_cell {now : List (List UInt8)} {k : Nat} (hk : k < now.length) : (now.map strv)[k]? = some (.string ⟨(now.getD k []).toArray⟩) := by simp [hk, strv, List.getD_eq_getElem?_getD]
theorem may_at {ms : List MRow} {k : Nat} (hk : k < ms.length) : (ms.map MRow.xs).getD k [] = (ms[k]).xs := by simp [hk, List.getD_eq_getElem?_getD]
theorem all_len {ms : List MRow} {k b : Nat} {m : MRow} (h : ∀ x ∈ ms, x.xs.length ≤ b) (hm : m.xs.length ≤ b) : ∀ x ∈ ms.set k m, x.xs.length ≤ b := fun x hx => by
  rcases List.mem_or_eq_of_mem_set hx with h1 | rfl
  · exact h x h1
  · exact hm
end Go.Proofs.Ytpchnmcofkffiaa
namespace Go.SL
section
variable {P : Program} {ops : Array Oper} {rest : List Oper} {o : Oper} {a : Act} {Q : Exit → Act → World → Prop} {w : World} {l : List HProp}
theorem step_storeRow {K : Act → World → Prop} {E : Prop} (hE : Ent l w) (i : Nat) {e : TypeId} {size n c g off : Nat} {xs ys : List Value} (hi : l[i]? = some (row e size (.slice (some ⟨g, 0, none⟩) n c) n xs)) {t : TypeId} {x y : Operand} {v : Value} {k : Nat}
    (ho : o.op = .store t x y) (hw : Region.wanted o (yielded ops a.tmps) = true) (hx : a.eval x = .pointer (some ⟨g, off, none⟩)) (hy : a.eval y = v)
    (hn : ∀ w, (Go.sizeOf t).run P w = .ok k w) (hv : v.cells.toList = ys) (hk : ys.length = k) (h1 : ∀ u ∈ ys, u.oneCell' = true) (hfit : off + k ≤ n * size)
    (h : ∀ w', Ent (l.set i (row e size (.slice (some ⟨g, 0, none⟩) n c) n (splice xs off ys))) w' → K (a.put o.dst undef) w') : if Region.wanted o (yielded ops a.tmps) = true then Oper.wp P o a w K Q else E := by
  rw [if_pos hw]
  obtain ⟨w', hr, hE'⟩ := hE.storeRow (P := P) i hi hn hv hk h1 hfit
  unfold Oper.wp execOp
  simp only [ho, hx, hy, Sem.run_bind, Sem.run_pure, Result.andThen_ok, hr]
  exact h w' hE'
end
end Go.SL
