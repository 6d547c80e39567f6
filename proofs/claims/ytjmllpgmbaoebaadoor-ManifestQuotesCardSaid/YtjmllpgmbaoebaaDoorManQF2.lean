/-
  Copies of elements of several cells into an owned row, over separation lists; rows that are put together of parts. Conditions: none; plain lemmas over any program.
-/
import Derived.Test.YtjmllpgmbaoebaaDoorManQF1
import Derived.Shelf.Spec.SearchS
import Derived.Shelf.Lay
import Derived.Lib.Strings
import Derived.Lib.Walk
import Derived.Lib.Bytealg
import Derived.Deep.RegionHeld
namespace Go.SL
section
variable {P : Program} {ops : Array Oper} {rest : List Oper} {o : Oper} {a : Act} {Q : Exit → Act → World → Prop} {w : World} {l : List HProp}

theorem set_id {α : Type} {l : List α} {i : Nat} {x : α} (h : l[i]? = some x) : l.set i x = l := by
  obtain ⟨hi, rfl⟩ := List.getElem?_eq_some_iff.1 h
  exact List.set_getElem_self hi
theorem run_copyK (w : World) (dT sT ty elem : TypeId) {size : Nat} (g off dLen dCap : Nat) (ad : Addr) (n c : Nat) (cur : Array Value) (t : TypeId) (xs : List Value)
    (hu : P.underlying dT = some (.slice elem)) (hs : (P.info? elem).map (·.size) = some size) (hg : w.heap[g]? = some (.cells cur t (0, 0)))
    (hn : n ≤ dLen) (hx : xs.length = n * size) (hsrc : ∀ j v, xs[j]? = some v → w.cell? (ad.add j) = some v) (hfit : off + xs.length ≤ cur.size) (h1 : ∀ v ∈ xs, v.oneCell' = true) :
    (Builtin.copy_ #[dT, sT] ty #[.slice (some ⟨g, off, none⟩) dLen dCap, .slice (some ad) n c]).run P w =
      .ok (goInt n) (w.setRow g (cur.toList.take off ++ xs ++ cur.toList.drop (off + xs.length)).toArray) := by
  have hl := run_loadCells_list (P := P) w ad xs hsrc
  have hst := run_storeCells_at P g off t xs 0 cur w hg (by simpa using hfit) h1
  have hm : Nat.min n dLen = n := Nat.min_eq_left hn
  cases hq : P.info? elem with
  | none => simp [hq] at hs
  | some i =>
    have hi : i.size = size := by simpa [hq] using hs
    rw [hx] at hl
    simp [Builtin.copy_, run_underlying hu, Builtin.lenOf, Builtin.firstCells, sizeOf, typeInfo, hq, hi, hm, hl, hst]
theorem run_copyK0 (w : World) (dT sT ty elem : TypeId) {size : Nat} (d s : Option Addr) (dLen dCap n c : Nat) (hu : P.underlying dT = some (.slice elem)) (hs : (P.info? elem).map (·.size) = some size) (hn : n = 0) :
    (Builtin.copy_ #[dT, sT] ty #[.slice d dLen dCap, .slice s n c]).run P w = .ok (goInt 0) w := by
  subst hn
  cases hq : P.info? elem with
  | none => simp [hq] at hs
  | some i =>
    have hl : ∀ (x : Addr), (loadCells x 0).run P w = .ok #[] w := fun x => by simpa using run_loadCells_list (P := P) w x [] (by simp)
    cases d <;> cases s <;> simp [Builtin.copy_, run_underlying hu, Builtin.lenOf, Builtin.firstCells, sizeOf, typeInfo, hq, storeCells, hl]

/-- elements copied into an owned row, from element j on -/
theorem Ent.copyRow (hE : Ent l w) (i : Nat) {e : TypeId} {size n c g : Nat} {xs : List Value} (hi : l[i]? = some (row e size (.slice (some ⟨g, 0, none⟩) n c) n xs)) {dT sT : TypeId} (ty : TypeId)
    (hu : P.underlying dT = some (.slice e)) (hs : (P.info? e).map (·.size) = some size) {m : Nat} {v : Value} {ys : List Value} (hr : reads v m ys w) (hy : ys.length = m * size) (h1 : ∀ u ∈ ys, u.oneCell' = true)
    {j : Nat} (dLen dCap : Nat) (hm : m ≤ dLen) (hfit : j + m ≤ n) :
    ∃ w', (Builtin.copy_ #[dT, sT] ty #[.slice (cutAt size (some ⟨g, 0, none⟩) c j) dLen dCap, v]).run P w = .ok (goInt m) w' ∧ Ent (l.set i (row e size (.slice (some ⟨g, 0, none⟩) n c) n (splice xs (j * size) ys))) w' := by
  have hl : i < l.length := (List.getElem?_eq_some_iff.1 hi).1
  have hxs : xs.length = n * size := (hE.owns i hi).1
  obtain ⟨ao, cc, rfl, hnone, hc⟩ := hr
  by_cases h0 : m = 0
  · have hys : ys = [] := List.eq_nil_of_length_eq_zero (by rw [hy, h0]; simp)
    subst h0 hys
    refine ⟨w, run_copyK0 w dT sT ty e _ ao dLen dCap 0 cc hu hs rfl, ?_⟩
    have : splice xs (j * size) [] = xs := by simp [splice]
    rw [this, set_id hi]
    exact hE
  · obtain ⟨g', cap, cur, hv', hn1, hm1, hs1, ht1, hE1⟩ : ∃ (g' cap : Nat) (cur : Array Value), Value.slice (some ⟨g, 0, none⟩) n c = .slice (some ⟨g', 0, none⟩) n cap ∧ n ≤ cap ∧ cap ≤ maxLen ∧ cur.size = cap * size ∧ cur.toList.take (n * size) = xs ∧ Ent (l.set i (pt g' (.cells cur e (0, 0)))) w := hE.fromRow i hi (by omega)
    cases hv'
    cases ao with
    | none => exact absurd (hnone rfl).1 h0
    | some ad =>
      have hcut : cutAt size (some ⟨g, 0, none⟩) c j = some ⟨g, j * size, none⟩ := by
        unfold cutAt
        rw [if_neg (by omega)]
        simp [Addr.add_lit]
      have hcs : j * size + ys.length ≤ cur.size := by
        rw [hs1, hy, ← Nat.add_mul]
        exact Nat.mul_le_mul_right _ (by omega)
      have hxfit : j * size + ys.length ≤ xs.length := by
        rw [hxs, hy, ← Nat.add_mul]
        exact Nat.mul_le_mul_right _ hfit
      have hrun := run_copyK (P := P) w dT sT ty e g (j * size) dLen dCap ad m cc cur e ys hu hs (hE1.at i (by simp [hl])) hm hy (hc ad rfl) hcs h1
      rw [hcut]
      refine ⟨_, hrun, ?_⟩
      have hE2 := hE1.setRow i (b := g) (cs := cur) (T := e) (fz := (0, 0)) (by simp [hl]) (splice cur.toList (j * size) ys).toArray
      rw [List.set_set] at hE2
      have hE3 := hE2.toRow i (b := g) (cs := (splice cur.toList (j * size) ys).toArray) (e := e) (by simp [hl]) (size := size) (n := n) (cap := c) (xs := splice xs (j * size) ys) (by rw [splice_length _ _ _ hxfit, hxs]) hn1 hm1
        (by simp only [List.size_toArray]; rw [splice_length _ _ _ (by simpa using hcs)]; simpa using hs1)
        (by rw [← ht1]; exact take_put _ _ _ _ (by rw [hxs] at hxfit; exact hxfit) (by simp only [Array.length_toList]; rw [hs1]; exact Nat.mul_le_mul_right _ hn1))
      rw [List.set_set] at hE3
      have e2 : splice cur.toList (j * size) ys = cur.toList.take (j * size) ++ ys ++ cur.toList.drop (j * size + ys.length) := by unfold splice; rfl
      rw [← e2]
      exact hE3
theorem wpl_copyK (hE : Ent l w) (i : Nat) {e : TypeId} {size n c g : Nat} {xs : List Value} (hi : l[i]? = some (row e size (.slice (some ⟨g, 0, none⟩) n c) n xs)) {d s : Operand} {dT sT : TypeId}
    (ho : o.op = .call { callee := .builtin .copy, args := #[d, s], argTypes := #[dT, sT] }) (hw : Region.wanted o (yielded ops a.tmps) = true)
    {j dLen dCap : Nat} (hd : a.eval d = .slice (cutAt size (some ⟨g, 0, none⟩) c j) dLen dCap) {v : Value} (hy : a.eval s = v)
    (hu : P.underlying dT = some (.slice e)) (hs : (P.info? e).map (·.size) = some size) {m : Nat} {ys : List Value} (hr : reads v m ys w) (hyl : ys.length = m * size) (h1 : ∀ u ∈ ys, u.oneCell' = true) (hm : m ≤ dLen) (hfit : j + m ≤ n)
    (h : ∀ w', Ent (l.set i (row e size (.slice (some ⟨g, 0, none⟩) n c) n (splice xs (j * size) ys))) w' → wpList P ops Q rest (a.put o.dst (goInt m)) w') : wpList P ops Q (o :: rest) a w := by
  obtain ⟨w', hr0, hE'⟩ := hE.copyRow (P := P) (sT := sT) i hi o.type hu hs hr hyl h1 (j := j) dLen dCap hm hfit
  refine wpl_run hw (w' := w') (v := goInt m) ?_ (h w' hE')
  simp [execOp, ho, resolve, invoke, builtin, hd, hy, hr0]
end
/-- a part of a row that is read: the first so many elements, and those behind -/
theorem reads_first {ao : Option Addr} {n c size : Nat} {xs : List Value} {w : World} (hr : reads (.slice ao n c) n xs w) {k : Nat} (hk : k ≤ n) : reads (.slice ao k c) k (xs.take (k * size)) w := by
  obtain ⟨ao', c', e, h1, h2⟩ := hr
  cases e
  refine ⟨ao, c, rfl, fun h => ?_, fun ad had j u hu => ?_⟩
  · obtain ⟨h3, h4⟩ := h1 h
    rw [h4]
    exact ⟨by omega, by simp⟩
  · refine h2 ad had j u ?_
    rw [List.getElem?_take] at hu
    split at hu
    · exact hu
    · cases hu
theorem cut_zero (size : Nat) (ao : Option Addr) (c : Nat) : cutAt size ao c 0 = ao := by
  unfold cutAt
  split
  · rfl
  · cases ao with
    | none => rfl
    | some a => simp [Addr.add]
theorem reads_behind {ao : Option Addr} {n c size : Nat} {xs : List Value} {w : World} (hr : reads (.slice ao n c) n xs w) (hx : xs.length = n * size) (hc : n ≤ c) {k : Nat} (hk : k ≤ n) : reads (.slice (cutAt size ao c k) (n - k) (c - k)) (n - k) (xs.drop (k * size)) w := by
  have h := reads_cut (size := size) hr hx hk (Nat.le_refl n) hc
  rwa [List.take_of_length_le (by rw [List.length_drop, hx, Nat.sub_mul]; omega)] at h
/-- parts put side by side -/
theorem splice_ins {z A B N : List Value} (hz : z.length = A.length + N.length + B.length) : splice (splice (splice z 0 A) (A.length + N.length) B) A.length N = A ++ N ++ B := by
  have h1 : (splice z 0 A).length = z.length := splice_length _ _ _ (by omega)
  have h2 : (splice (splice z 0 A) (A.length + N.length) B).length = z.length := by rw [splice_length _ _ _ (by omega), h1]
  apply List.ext_getElem?
  intro j
  rw [splice_get _ _ _ _ (by omega), splice_get _ _ _ _ (by omega), splice_get _ _ _ _ (by omega), List.append_assoc]
  by_cases a1 : j < A.length
  · rw [if_pos a1, if_pos (by omega), if_neg (by omega), if_pos (by omega), Nat.sub_zero, List.getElem?_append_left a1]
  · rw [if_neg a1, List.getElem?_append_right (by omega)]
    by_cases a2 : j < A.length + N.length
    · rw [if_pos a2, List.getElem?_append_left (by omega)]
    · rw [if_neg a2, if_neg a2, List.getElem?_append_right (by omega)]
      by_cases a3 : j < A.length + N.length + B.length
      · rw [if_pos a3]; congr 1; omega
      · rw [if_neg a3, if_neg (by omega), if_neg (by omega), List.getElem?_eq_none (by omega), List.getElem?_eq_none (by omega)]
theorem splice_all {z A B : List Value} (hz : z.length = A.length + B.length) : splice (splice z 0 A) A.length B = A ++ B := by
  have h := splice_ins (z := z) (A := A) (N := []) (B := B) (by simpa using hz)
  simp only [List.length_nil, Nat.add_zero, List.append_nil] at h
  have h1 : (splice z 0 A).length = z.length := splice_length _ _ _ (by omega)
  have e : ∀ y : List Value, splice y A.length [] = y := fun y => by simp [splice]
  rwa [e] at h
theorem splice_mid (A X N B : List Value) (h : X.length = N.length) : splice (A ++ (X ++ B)) A.length N = A ++ (N ++ B) := by
  unfold splice
  rw [List.take_left, ← h, List.drop_append, List.drop_eq_nil_of_le (by omega), List.nil_append, Nat.add_sub_cancel_left, List.drop_left, List.append_assoc]
section
variable {P : Program} {w : World} {l : List HProp} {ops : Array Oper} {o : Oper} {a : Act} {K : Act → World → Prop} {Q : Exit → Act → World → Prop} {E : Prop}
/-- .. as one step of a region that draws -/
theorem step_copyK (hE : Ent l w) (i : Nat) {e : TypeId} {size n c g : Nat} {xs : List Value} (hi : l[i]? = some (row e size (.slice (some ⟨g, 0, none⟩) n c) n xs)) {d s : Operand} {dT sT : TypeId}
    (ho : o.op = .call { callee := .builtin .copy, args := #[d, s], argTypes := #[dT, sT] }) (hw : Region.wanted o (yielded ops a.tmps) = true)
    {j dLen dCap : Nat} (hd : a.eval d = .slice (cutAt size (some ⟨g, 0, none⟩) c j) dLen dCap) {v : Value} (hy : a.eval s = v)
    (hu : P.underlying dT = some (.slice e)) (hs : (P.info? e).map (·.size) = some size) {m : Nat} {ys : List Value} (hr : reads v m ys w) (hyl : ys.length = m * size) (h1 : ∀ u ∈ ys, u.oneCell' = true) (hm : m ≤ dLen) (hfit : j + m ≤ n)
    (h : ∀ w', Ent (l.set i (row e size (.slice (some ⟨g, 0, none⟩) n c) n (splice xs (j * size) ys))) w' → K (a.put o.dst (goInt m)) w') : if Region.wanted o (yielded ops a.tmps) = true then Oper.wp P o a w K Q else E := by
  rw [if_pos hw]
  obtain ⟨w', hr0, hE'⟩ := hE.copyRow (P := P) (sT := sT) i hi o.type hu hs hr hyl h1 (j := j) dLen dCap hm hfit
  unfold Oper.wp execOp
  simp only [ho, resolve, invoke, builtin, Sem.run_bind, Sem.run_pure, Result.andThen_ok, List.map_toArray, List.map_cons, List.map_nil, hd, hy, hr0]
  exact h w' hE'
/-- an element of an owned row written, as one step of a region that draws -/
theorem step_storeRow (hE : Ent l w) (i : Nat) {e : TypeId} {size n c g off : Nat} {xs : List Value} (ys : List Value) (hi : l[i]? = some (row e size (.slice (some ⟨g, 0, none⟩) n c) n xs)) {t : TypeId} {x y : Operand} {k : Nat}
    (ho : o.op = .store t x y) (hw : Region.wanted o (yielded ops a.tmps) = true) (hx : a.eval x = .pointer (some ⟨g, off, none⟩)) (hy : a.eval y = .agg ys.toArray)
    (hn : ∀ w, (Go.sizeOf t).run P w = .ok k w) (hk : ys.length = k) (h1 : ∀ u ∈ ys, u.oneCell' = true) (hfit : off + k ≤ n * size)
    (h : ∀ w', Ent (l.set i (row e size (.slice (some ⟨g, 0, none⟩) n c) n (splice xs off ys))) w' → K (a.put o.dst undef) w') : if Region.wanted o (yielded ops a.tmps) = true then Oper.wp P o a w K Q else E := by
  rw [if_pos hw]
  obtain ⟨w', hr, hE'⟩ := hE.storeRow (P := P) i hi hn (v := .agg ys.toArray) (by simp [Value.cells]) hk h1 hfit
  have hx2 : (execOp a.eval o).run P w = .ok .skip w' := by simp [execOp, ho, hx, hy, hr]
  simp only [Oper.wp, hx2, Oper.upon]
  exact h w' hE'
end
end Go.SL
namespace Go.SL

theorem bl_irrefl : ∀ a : List UInt8, Op.bytesLess a a = false
  | [] => rfl
  | x :: a => by simp [Op.bytesLess, bl_irrefl a]
theorem bl_cons (x y : UInt8) (a b : List UInt8) : Op.bytesLess (x :: a) (y :: b) = true ↔ x.toNat < y.toNat ∨ (x = y ∧ Op.bytesLess a b = true) := by
  simp [Op.bytesLess, UInt8.lt_iff_toNat_lt]
theorem bl_nil_cons (y : UInt8) (b : List UInt8) : Op.bytesLess [] (y :: b) = true := by simp [Op.bytesLess]
theorem bl_nil (a : List UInt8) : Op.bytesLess a [] = false := by cases a <;> rfl
theorem bl_trans : ∀ {a b c : List UInt8}, Op.bytesLess a b = true → Op.bytesLess b c = true → Op.bytesLess a c = true
  | a, [], c, h, _ => by rw [bl_nil] at h; cases h
  | a, y :: b, [], _, h => by rw [bl_nil] at h; cases h
  | [], y :: b, z :: c, _, _ => bl_nil_cons z c
  | x :: a, y :: b, z :: c, h1, h2 => by
    rw [bl_cons] at h1 h2 ⊢
    rcases h1 with h1 | ⟨rfl, h1⟩
    · rcases h2 with h2 | ⟨rfl, h2⟩
      · exact .inl (by omega)
      · exact .inl h1
    · rcases h2 with h2 | ⟨rfl, h2⟩
      · exact .inl h2
      · exact .inr ⟨rfl, bl_trans h1 h2⟩
theorem bl_total : ∀ {a b : List UInt8}, a ≠ b → Op.bytesLess a b = false → Op.bytesLess b a = true
  | [], [], h, _ => absurd rfl h
  | [], y :: b, _, h => by rw [bl_nil_cons] at h; cases h
  | x :: a, [], _, _ => bl_nil_cons x a
  | x :: a, y :: b, hn, h => by
    rw [bl_cons]
    have h' : ¬ (x.toNat < y.toNat ∨ (x = y ∧ Op.bytesLess a b = true)) := by rw [← bl_cons, h]; simp
    by_cases hxy : x = y
    · subst hxy
      refine .inr ⟨rfl, bl_total (fun e => hn (by rw [e])) ?_⟩
      cases hb : Op.bytesLess a b with
      | false => rfl
      | true => exact absurd (.inr ⟨rfl, hb⟩) h'
    · have : x.toNat ≠ y.toNat := fun e => hxy (UInt8.toNat_inj.1 e)
      exact .inl (by omega)
theorem bl_asymm {a b : List UInt8} (h : Op.bytesLess a b = true) : Op.bytesLess b a = false := by
  cases hb : Op.bytesLess b a with
  | false => rfl
  | true => have := bl_trans h hb; rw [bl_irrefl] at this; cases this

theorem bsGo_at {less : Nat → Bool} {n : Nat} : ∀ (f lo hi : Nat), hi - lo ≤ f → lo ≤ hi → hi ≤ n → (∀ i j, i ≤ j → j < n → less j = true → less i = true) → (∀ i, i < lo → less i = true) → (∀ i, hi ≤ i → i < n → less i = false) →
    lo ≤ Lib.bsGo less f lo hi ∧ Lib.bsGo less f lo hi ≤ hi ∧ (∀ i, i < Lib.bsGo less f lo hi → less i = true) ∧ ∀ i, Lib.bsGo less f lo hi ≤ i → i < n → less i = false
  | 0, lo, hi, hf, hl, hn, _, h1, h2 => by
    obtain rfl : lo = hi := by omega
    rw [Lib.bsGo]
    exact ⟨Nat.le_refl _, Nat.le_refl _, h1, h2⟩
  | f + 1, lo, hi, hf, hl, hn, hm, h1, h2 => by
    rw [Lib.bsGo]
    by_cases hlt : lo < hi
    · rw [if_pos hlt]
      cases hc : less ((lo + hi) / 2) with
      | true =>
        simp only [if_true]
        obtain ⟨a, b, c, d⟩ := bsGo_at f ((lo + hi) / 2 + 1) hi (by omega) (by omega) hn hm (fun i hi' => hm i ((lo + hi) / 2) (by omega) (by omega) hc) h2
        exact ⟨by omega, b, c, d⟩
      | false =>
        simp only [Bool.false_eq_true, if_false]
        obtain ⟨a, b, c, d⟩ := bsGo_at f lo ((lo + hi) / 2) (by omega) (by omega) (by omega) hm h1 (fun i hi' hin => by
          cases hli : less i with
          | false => rfl
          | true => rw [hm _ i hi' hin hli] at hc; cases hc)
        exact ⟨a, by omega, c, d⟩
    · rw [if_neg hlt]
      obtain rfl : lo = hi := by omega
      exact ⟨Nat.le_refl _, Nat.le_refl _, h1, h2⟩
theorem countP_at {α : Type} {p : α → Bool} {xs : List α} {r : Nat} (hr : r ≤ xs.length) (h1 : ∀ (i : Nat) (h : i < xs.length), i < r → p xs[i] = true) (h2 : ∀ (i : Nat) (h : i < xs.length), r ≤ i → p xs[i] = false) : xs.countP p = r := by
  have e : xs.countP p = (xs.take r).countP p + (xs.drop r).countP p := by rw [← List.countP_append, List.take_append_drop]
  have e1 : (xs.take r).countP p = r := by
    have : (xs.take r).countP p = (xs.take r).length := List.countP_eq_length.2 fun a ha => by
      obtain ⟨i, hi, rfl⟩ := List.getElem_of_mem ha
      rw [List.length_take] at hi
      rw [List.getElem_take]
      exact h1 i (by omega) (by omega)
    rw [this, List.length_take]
    omega
  have e2 : (xs.drop r).countP p = 0 := List.countP_eq_zero.2 fun a ha => by
    obtain ⟨i, hi, rfl⟩ := List.getElem_of_mem ha
    rw [List.length_drop] at hi
    rw [List.getElem_drop, h2 (r + i) (by omega) (by omega)]
    simp
  omega
/-- do texts rise? -/
def Rising (ks : List (List UInt8)) : Prop := ∀ (i : Nat) (h : i + 1 < ks.length), Op.bytesLess ks[i] ks[i + 1] = true
theorem Rising.lt {ks : List (List UInt8)} (h : Rising ks) : ∀ (d i : Nat) (hj : i + 1 + d < ks.length), Op.bytesLess (ks[i]'(by omega)) (ks[i + 1 + d]) = true
  | 0, i, hj => h i hj
  | d + 1, i, hj => bl_trans (h.lt d i (by omega)) (h (i + 1 + d) (by omega))
theorem Rising.of {ks : List (List UInt8)} (h : Rising ks) {i j : Nat} (hij : i < j) (hj : j < ks.length) : Op.bytesLess (ks[i]'(by omega)) ks[j] = true := by
  have := h.lt (j - i - 1) i (by omega)
  simpa [show i + 1 + (j - i - 1) = j by omega] using this
/-- where a text stands among texts that rise -/
def placeOf (ks : List (List UInt8)) (key : List UInt8) : Nat := ks.countP fun k => Op.bytesLess k key
def isIn (ks : List (List UInt8)) (key : List UInt8) : Bool := ks.contains key
theorem find_at {ks : List (List UInt8)} (h : Rising ks) (key : List UInt8) :
    Lib.bsGo (fun t => Op.bytesLess (ks.getD t []) key) ks.length 0 ks.length = placeOf ks key ∧ placeOf ks key ≤ ks.length ∧
    ks.countP (fun k => Op.bytesLess k key || k == key) = placeOf ks key + (if isIn ks key then 1 else 0) ∧
    (isIn ks key = true ↔ ∃ h : placeOf ks key < ks.length, ks[placeOf ks key] = key) := by
  have get : ∀ (i : Nat) (hi : i < ks.length), ks.getD i [] = ks[i] := fun i hi => by rw [List.getD_eq_getElem?_getD, List.getElem?_eq_getElem hi]; rfl
  have mono : ∀ i j, i ≤ j → j < ks.length → Op.bytesLess (ks.getD j []) key = true → Op.bytesLess (ks.getD i []) key = true := fun i j hij hj hl => by
    rcases Nat.lt_or_eq_of_le hij with h1 | rfl
    · rw [get i (by omega)]
      rw [get j hj] at hl
      exact bl_trans (h.of h1 hj) hl
    · exact hl
  obtain ⟨_, hb, hc, hd⟩ := bsGo_at (less := fun t => Op.bytesLess (ks.getD t []) key) ks.length 0 ks.length (by omega) (Nat.zero_le _) (Nat.le_refl _) mono (fun i hi => absurd hi (Nat.not_lt_zero _)) (fun i hi hn => by omega)
  generalize Lib.bsGo (fun t => Op.bytesLess (ks.getD t []) key) ks.length 0 ks.length = r at *
  have hr : placeOf ks key = r := countP_at hb (fun i hi hir => by have := hc i hir; simp only [get i hi] at this; exact this) (fun i hi hir => by have := hd i hir hi; simp only [get i hi] at this; exact this)
  rw [hr]
  have hin : isIn ks key = true ↔ ∃ h : r < ks.length, ks[r] = key := by
    rw [isIn, List.contains_iff_mem]
    constructor
    · intro hm
      obtain ⟨i, hi, e⟩ := List.getElem_of_mem hm
      have h1 : ¬ i < r := fun hir => by
        have := hc i hir
        simp only [get i hi, e, bl_irrefl] at this
        cases this
      have h2 : ¬ r < i := fun hri => by
        have h3 := h.of hri hi
        rw [e] at h3
        have := hd r (Nat.le_refl _) (by omega)
        simp only [get r (by omega), h3] at this
        cases this
      obtain rfl : i = r := by omega
      exact ⟨hi, e⟩
    · rintro ⟨h1, e⟩
      rw [← e]
      exact List.getElem_mem h1
  refine ⟨rfl, hb, ?_, hin⟩
  cases hi : isIn ks key with
  | true =>
    obtain ⟨h1, e⟩ := hin.1 hi
    refine countP_at (by simp only [if_true]; omega) (fun i hi' hir => ?_) (fun i hi' hir => ?_)
    · simp only [if_true] at hir
      rcases Nat.lt_or_eq_of_le (show i ≤ r by omega) with h2 | rfl
      · have := hc i h2
        simp only [get i hi'] at this
        rw [this]; rfl
      · rw [e]; simp
    · simp only [if_true] at hir
      have := hd i (by omega) hi'
      simp only [get i hi'] at this
      rw [this, Bool.false_or, beq_eq_false_iff_ne]
      intro e2
      have h3 := h.of (show r < i by omega) hi'
      rw [e, e2, bl_irrefl] at h3
      cases h3
  | false =>
    have hni : ∀ (i : Nat) (hi' : i < ks.length), ks[i] ≠ key := fun i hi' e => by
      have : isIn ks key = true := by rw [isIn, List.contains_iff_mem, ← e]; exact List.getElem_mem hi'
      rw [hi] at this; cases this
    refine countP_at (by simp; omega) (fun i hi' hir => ?_) (fun i hi' hir => ?_)
    · have := hc i (by simpa using hir)
      simp only [get i hi'] at this
      rw [this]; rfl
    · have := hd i (by simpa using hir) hi'
      simp only [get i hi'] at this
      rw [this, Bool.false_or, beq_eq_false_iff_ne]
      exact hni i hi'
/-- of a text that is there -/
theorem place_of_mem {ks : List (List UInt8)} (h : Rising ks) {i : Nat} (hi : i < ks.length) : placeOf ks ks[i] = i ∧ isIn ks ks[i] = true := by
  refine ⟨countP_at (by omega) (fun j hj hji => h.of hji hi) (fun j hj hij => ?_), by rw [isIn, List.contains_iff_mem]; exact List.getElem_mem hi⟩
  rcases Nat.lt_or_eq_of_le hij with h1 | rfl
  · exact bl_asymm (h.of h1 hj)
  · exact bl_irrefl _
end Go.SL
namespace Go.Proofs.YtjmllpgmbaoebaaDoor
open Go.RowKit Go.SL

/-- a file or a directory; its kids have names -/
inductive Tr : Type
  | nd (dir : Bool) (data : List UInt8) (kids : List (List UInt8 × Tr))
namespace Tr
def dir : Tr → Bool | nd d _ _ => d
def data : Tr → List UInt8 | nd _ x _ => x
def kids : Tr → List (List UInt8 × Tr) | nd _ _ k => k
def zero : Tr := nd false [] []
def names (t : Tr) : List (List UInt8) := t.kids.map Prod.fst
def leafOf (d : Bool) (x : List UInt8) : Tr := nd d x []
/-- the kid of a name -/
def kid? (t : Tr) (n : List UInt8) : Option Tr := (t.kids.find? fun k => k.1 == n).map Prod.snd
/-- what is at names -/
def get? : List (List UInt8) → Tr → Option Tr
  | [], t => some t
  | n :: r, t => match t.kid? n with
    | none => none
    | some k => get? r k
/-- a row in which something new stands -/
def insAt {α : Type} (i : Nat) (x : α) (l : List α) : List α := l.take i ++ x :: l.drop i
/-- a directory in which names lead to one more node; its error -/
def withT : List (List UInt8) → Bool → List UInt8 → Tr → Int × Tr
  | [], _, _, _ => (8, zero)
  | [n], xd, xb, t =>
    if t.dir && !isIn t.names n then
      (if 6 < t.kids.length + 1 ∨ 8192 < xb.length then (6, zero) else (0, nd true [] (insAt (placeOf t.names n) (n, leafOf xd xb) t.kids)))
    else (8, zero)
  | n :: m :: r, xd, xb, t =>
    if t.dir && isIn t.names n then
      (match withT (m :: r) xd xb ((t.kids.getD (placeOf t.names n) ([], zero)).2) with
       | (e, k) => if e = 0 then (0, nd true [] (t.kids.set (placeOf t.names n) (n, k))) else (e, zero))
    else (8, zero)
/-- what a tree is like, so deep -/
def Wf : Nat → Tr → Prop
  | 0, t => t.kids = [] ∧ (t.dir = true → t.data = []) ∧ t.data.length ≤ 8192
  | d + 1, t => (t.dir = false → t.kids = []) ∧ (t.dir = true → t.data = []) ∧ Rising t.names ∧ t.kids.length ≤ 6 ∧ t.data.length ≤ 8192 ∧ ∀ k ∈ t.kids, isName k.1 = true ∧ Wf d k.2

theorem kid_mem {t : Tr} {n : List UInt8} {k : Tr} (h : t.kid? n = some k) : (n, k) ∈ t.kids := by
  unfold kid? at h
  cases hf : t.kids.find? fun k => k.1 == n with
  | none => rw [hf] at h; cases h
  | some x =>
    rw [hf] at h
    have h1 := List.mem_of_find?_eq_some hf
    have h2 := List.find?_some hf
    obtain ⟨a, b⟩ := x
    cases h
    rw [beq_iff_eq] at h2
    exact h2 ▸ h1
theorem rising_inj {ks : List (List UInt8)} (h : Rising ks) {i j : Nat} (hi : i < ks.length) (hj : j < ks.length) (e : ks[i] = ks[j]) : i = j := by
  have h1 := (place_of_mem h hi).1
  have h2 := (place_of_mem h hj).1
  rw [e] at h1
  omega
/-- in a row that rises, the kid of a name is at its place -/
theorem kid_at {t : Tr} (h : Rising t.names) {i : Nat} (hi : i < t.kids.length) : t.kid? t.kids[i].1 = some t.kids[i].2 := by
  unfold kid?
  cases hf : t.kids.find? fun k => k.1 == t.kids[i].1 with
  | none =>
    have := List.find?_eq_none.1 hf _ (List.getElem_mem hi)
    simp at this
  | some x =>
    have h1 := List.mem_of_find?_eq_some hf
    have h2 := List.find?_some hf
    obtain ⟨j, hj, rfl⟩ := List.getElem_of_mem h1
    rw [beq_iff_eq] at h2
    have : j = i := rising_inj h (i := j) (j := i) (by simpa [names] using hj) (by simpa [names] using hi) (by simpa [names] using h2)
    subst this
    rfl
theorem kid_none {t : Tr} {n : List UInt8} : t.kid? n = none ↔ isIn t.names n = false := by
  unfold kid? isIn names
  rw [Option.map_eq_none_iff, List.find?_eq_none]
  constructor
  · intro h
    rw [← Bool.not_eq_true, List.contains_iff_mem]
    intro hm
    obtain ⟨x, hx, e⟩ := List.mem_map.1 hm
    exact absurd (beq_iff_eq.2 e) (h x hx)
  · intro h x hx
    rw [← Bool.not_eq_true, List.contains_iff_mem] at h
    intro e
    exact h (List.mem_map.2 ⟨x, hx, beq_iff_eq.1 e⟩)
/-- the place of a name that is there -/
theorem kid_place {t : Tr} (h : Rising t.names) {n : List UInt8} (hn : isIn t.names n = true) : ∃ hi : placeOf t.names n < t.kids.length, t.kids[placeOf t.names n].1 = n ∧ t.kid? n = some t.kids[placeOf t.names n].2 := by
  obtain ⟨_, _, _, h4⟩ := find_at h n
  obtain ⟨hi, e⟩ := h4.1 hn
  have hi' : placeOf t.names n < t.kids.length := by simpa [names] using hi
  have e' : t.kids[placeOf t.names n].1 = n := by simpa [names] using e
  refine ⟨hi', e', ?_⟩
  have := kid_at h hi'
  rwa [e'] at this
end Tr
end Go.Proofs.YtjmllpgmbaoebaaDoor
namespace Go.Proofs.YtjmllpgmbaoebaaDoor
open Go.RowKit Go.SL
namespace Tr

theorem insAt_len {α : Type} {i : Nat} {x : α} {l : List α} (h : i ≤ l.length) : (insAt i x l).length = l.length + 1 := by
  simp [insAt]; omega
theorem insAt_map {α β : Type} (f : α → β) (i : Nat) (x : α) (l : List α) : (insAt i x l).map f = insAt i (f x) (l.map f) := by
  simp [insAt, List.map_take, List.map_drop]
theorem insAt_mem {α : Type} {i : Nat} {x y : α} {l : List α} : y ∈ insAt i x l ↔ y = x ∨ y ∈ l := by
  rw [insAt, List.mem_append, List.mem_cons]
  constructor
  · rintro (h | h | h)
    · exact .inr (List.mem_of_mem_take h)
    · exact .inl h
    · exact .inr (List.mem_of_mem_drop h)
  · rintro (h | h)
    · exact .inr (.inl h)
    · rw [← List.take_append_drop i l, List.mem_append] at h
      rcases h with h | h
      · exact .inl h
      · exact .inr (.inr h)
theorem insAt_get {α : Type} {i : Nat} {x : α} {l : List α} (hi : i ≤ l.length) (j : Nat) (hj : j < (insAt i x l).length) : (insAt i x l)[j] = if h : j < i then l[j]'(by omega) else if h2 : j = i then x else l[j - 1]'(by rw [insAt_len hi] at hj; omega) := by
  have hl := insAt_len (x := x) hi
  unfold insAt at hj ⊢
  by_cases h1 : j < i
  · rw [dif_pos h1, List.getElem_append_left (by rw [List.length_take]; omega), List.getElem_take]
  · rw [dif_neg h1, List.getElem_append_right (by rw [List.length_take]; omega)]
    by_cases h2 : j = i
    · subst h2
      rw [dif_pos rfl]
      simp [List.length_take, Nat.min_eq_left hi]
    · rw [dif_neg h2]
      have e : j - (l.take i).length = (j - i - 1) + 1 := by rw [List.length_take]; omega
      simp only [e, List.getElem_cons_succ, List.getElem_drop]
      congr 1
      omega
theorem place_lt {ks : List (List UInt8)} (h : Rising ks) {n : List UInt8} (i : Nat) (hi : i < ks.length) : i < placeOf ks n ↔ Op.bytesLess ks[i] n = true := by
  obtain ⟨h1, h2, _, _⟩ := find_at h n
  have get : ∀ (i : Nat) (hi : i < ks.length), ks.getD i [] = ks[i] := fun i hi => by rw [List.getD_eq_getElem?_getD, List.getElem?_eq_getElem hi]; rfl
  have mono : ∀ i j, i ≤ j → j < ks.length → Op.bytesLess (ks.getD j []) n = true → Op.bytesLess (ks.getD i []) n = true := fun i j hij hj hl => by
    rcases Nat.lt_or_eq_of_le hij with h3 | rfl
    · rw [get i (by omega)]
      rw [get j hj] at hl
      exact bl_trans (h.of h3 hj) hl
    · exact hl
  obtain ⟨_, hb, hc, hd⟩ := bsGo_at (less := fun t => Op.bytesLess (ks.getD t []) n) ks.length 0 ks.length (by omega) (Nat.zero_le _) (Nat.le_refl _) mono (fun i hi => absurd hi (Nat.not_lt_zero _)) (fun i hi hn => by omega)
  rw [h1] at hc hd
  constructor
  · intro hlt
    have := hc i hlt
    rwa [get i hi] at this
  · intro hl
    rcases Nat.lt_or_ge i (placeOf ks n) with h3 | h3
    · exact h3
    · have := hd i h3 hi
      rw [get i hi, hl] at this
      cases this
theorem rising_ins {ks : List (List UInt8)} (h : Rising ks) {n : List UInt8} (hn : isIn ks n = false) : Rising (insAt (placeOf ks n) n ks) := by
  have hp : placeOf ks n ≤ ks.length := (find_at h n).2.1
  have hne : ∀ (i : Nat) (hi : i < ks.length), ks[i] ≠ n := fun i hi e => by
    rw [isIn, ← Bool.not_eq_true, List.contains_iff_mem] at hn
    exact hn (e ▸ List.getElem_mem hi)
  intro i hi
  rw [insAt_len hp] at hi
  rw [insAt_get hp i (by rw [insAt_len hp]; omega), insAt_get hp (i + 1) (by rw [insAt_len hp]; omega)]
  by_cases h1 : i + 1 < placeOf ks n
  · rw [dif_pos (by omega), dif_pos h1]
    exact h i (by omega)
  · by_cases h2 : i + 1 = placeOf ks n
    · rw [dif_pos (by omega), dif_neg h1, dif_pos h2]
      exact (place_lt h i (by omega)).1 (by omega)
    · by_cases h3 : i = placeOf ks n
      · rw [dif_neg (by omega), dif_pos h3, dif_neg h1, dif_neg h2]
        have h4 : ¬ Op.bytesLess (ks[i]'(by omega)) n = true := fun hl => by
          have := (place_lt h i (by omega)).2 hl
          omega
        exact bl_total (hne i (by omega)) (by simpa using h4)
      · rw [dif_neg (by omega), dif_neg h3, dif_neg h1, dif_neg h2]
        have := h (i - 1) (by omega)
        simpa [show i - 1 + 1 = i by omega] using this
theorem names_set {t : Tr} {i : Nat} {n : List UInt8} {k : Tr} (hi : i < t.kids.length) (e : t.kids[i].1 = n) : (t.kids.set i (n, k)).map Prod.fst = t.names := by
  rw [List.map_set, names]
  have : t.kids.map Prod.fst = (t.kids.map Prod.fst).set i n := by
    apply List.ext_getElem (by simp)
    intro j h1 h2
    rw [List.getElem_set]
    split
    · next h => subst h; simp [e]
    · rfl
  exact this.symm
end Tr
end Go.Proofs.YtjmllpgmbaoebaaDoor
namespace Go.Proofs.YtjmllpgmbaoebaaDoor
open Go.RowKit Go.SL
namespace Tr

def look? (q : List (List UInt8)) (t : Tr) : Option (Bool × List UInt8) := (get? q t).map fun k => (k.dir, k.data)
theorem kid_iff {t : Tr} (h : Rising t.names) {m : List UInt8} {k : Tr} : t.kid? m = some k ↔ (m, k) ∈ t.kids := by
  refine ⟨kid_mem, fun hm => ?_⟩
  obtain ⟨i, hi, e⟩ := List.getElem_of_mem hm
  have := kid_at h hi
  rwa [e] at this
theorem wf_rising {d : Nat} {t : Tr} (h : Wf d t) : Rising t.names := by
  cases d with
  | zero => rw [names, h.1]; intro i hi; simp at hi
  | succ d => exact h.2.2.1
theorem wf_data {d : Nat} {t : Tr} (h : Wf d t) (hd : t.dir = true) : t.data = [] := by
  cases d with
  | zero => exact h.2.1 hd
  | succ d => exact h.2.1 hd
theorem wf_size {d : Nat} {t : Tr} (h : Wf d t) : t.data.length ≤ 8192 ∧ t.kids.length ≤ 6 := by
  cases d with
  | zero => exact ⟨h.2.2, by rw [h.1]; simp⟩
  | succ d => exact ⟨h.2.2.2.2.1, h.2.2.2.1⟩
theorem wf_kid {d : Nat} {t : Tr} (h : Wf d t) {k : List UInt8 × Tr} (hk : k ∈ t.kids) : ∃ e, d = e + 1 ∧ Wf e k.2 := by
  cases d with
  | zero => rw [h.1] at hk; cases hk
  | succ d => exact ⟨d, rfl, (h.2.2.2.2.2 k hk).2⟩
theorem kid_ins {t : Tr} (h : Rising t.names) {n : List UInt8} (hn : isIn t.names n = false) (k : Tr) (m : List UInt8) :
    (nd true [] (insAt (placeOf t.names n) (n, k) t.kids)).kid? m = if m = n then some k else t.kid? m := by
  have hr : Rising (nd true [] (insAt (placeOf t.names n) (n, k) t.kids)).names := by
    show Rising ((insAt (placeOf t.names n) (n, k) t.kids).map Prod.fst)
    rw [insAt_map]
    exact rising_ins h hn
  split
  · next e => subst e; exact (kid_iff hr).2 (insAt_mem.2 (.inl rfl))
  · next e =>
    cases hk : t.kid? m with
    | some x => exact (kid_iff hr).2 (insAt_mem.2 (.inr (kid_mem hk)))
    | none =>
      cases hk2 : (nd true [] (insAt (placeOf t.names n) (n, k) t.kids)).kid? m with
      | none => rfl
      | some x =>
        rcases insAt_mem.1 (kid_mem hk2) with h1 | h1
        · exact absurd (congrArg Prod.fst h1) e
        · rw [(kid_iff h).2 h1] at hk; cases hk
theorem kid_set {t : Tr} (h : Rising t.names) {n : List UInt8} (hn : isIn t.names n = true) (k : Tr) (m : List UInt8) :
    (nd true [] (t.kids.set (placeOf t.names n) (n, k))).kid? m = if m = n then some k else t.kid? m := by
  obtain ⟨hi, e, _⟩ := kid_place h hn
  have hr : Rising (nd true [] (t.kids.set (placeOf t.names n) (n, k))).names := by
    show Rising ((t.kids.set (placeOf t.names n) (n, k)).map Prod.fst)
    rw [names_set hi e]; exact h
  have mem : ∀ x : Tr, m ≠ n → ((m, x) ∈ t.kids.set (placeOf t.names n) (n, k) ↔ (m, x) ∈ t.kids) := fun x hm => by
    constructor
    · intro h1
      obtain ⟨j, hj, e1⟩ := List.getElem_of_mem h1
      rw [List.getElem_set] at e1
      split at e1
      · exact absurd (congrArg Prod.fst e1).symm hm
      · exact e1 ▸ List.getElem_mem _
    · intro h1
      obtain ⟨j, hj, e1⟩ := List.getElem_of_mem h1
      have hji : placeOf t.names n ≠ j := fun h2 => by
        subst h2
        rw [e1] at e
        exact hm e
      have : (t.kids.set (placeOf t.names n) (n, k))[j]'(by simpa using hj) = (m, x) := by rw [List.getElem_set_ne hji]; exact e1
      exact this ▸ List.getElem_mem _
  split
  · next hm =>
    subst hm
    refine (kid_iff hr).2 ?_
    exact List.mem_iff_getElem.2 ⟨placeOf t.names m, by simpa [kids] using hi, by simp [kids]⟩
  · next hm =>
    cases hk : t.kid? m with
    | some x => exact (kid_iff hr).2 ((mem x hm).2 (kid_mem hk))
    | none =>
      cases hk2 : (nd true [] (t.kids.set (placeOf t.names n) (n, k))).kid? m with
      | none => rfl
      | some x =>
        have := (mem x hm).1 (kid_mem hk2)
        rw [(kid_iff h).2 this] at hk; cases hk
theorem look_nil (t : Tr) : look? [] t = some (t.dir, t.data) := rfl
theorem look_cons (n : List UInt8) (r : List (List UInt8)) (t : Tr) : look? (n :: r) t = match t.kid? n with
    | none => none
    | some k => look? r k := by
  rw [look?, get?]
  cases t.kid? n <;> rfl
theorem kid_leaf (xd : Bool) (xb n : List UInt8) : (leafOf xd xb).kid? n = none := rfl

theorem with_dir : ∀ {names : List (List UInt8)} {xd : Bool} {xb : List UInt8} {t : Tr}, (withT names xd xb t).1 = 0 → t.dir = true
  | [], _, _, _, h => by cases h
  | [n], xd, xb, t, h => by
    cases hd : t.dir with
    | true => rfl
    | false => rw [withT, hd] at h; cases h
  | n :: m :: r, xd, xb, t, h => by
    cases hd : t.dir with
    | true => rfl
    | false => rw [withT, hd] at h; cases h

theorem with_look : ∀ {ns : List (List UInt8)} {xd : Bool} {xb : List UInt8} {d : Nat} {t : Tr}, Wf d t → (withT ns xd xb t).1 = 0 →
    (withT ns xd xb t).2.dir = true ∧ (withT ns xd xb t).2.data = [] ∧ ∀ q, look? q (withT ns xd xb t).2 = if q = ns then some (xd, xb) else look? q t
  | [], _, _, _, _, _, h => by cases h
  | [n], xd, xb, d, t, hw, h => by
    have hd := with_dir h
    have hr := wf_rising hw
    have hda := wf_data hw hd
    rw [withT, hd] at h ⊢
    cases hn : isIn t.names n with
    | true => rw [hn] at h; cases h
    | false =>
      rw [hn] at h
      simp only [Bool.not_false, Bool.and_self, if_true] at h ⊢
      split at h
      · cases h
      · next hc =>
        rw [if_neg hc]
        refine ⟨rfl, rfl, fun q => ?_⟩
        rcases q with _ | ⟨m, r⟩
        · rw [if_neg (by simp), look_nil, look_nil, hd, hda]; rfl
        · rw [look_cons, look_cons, kid_ins hr hn]
          by_cases hm : m = n
          · subst hm
            rw [if_pos rfl, kid_none.2 hn]
            rcases r with _ | ⟨m2, r⟩
            · simp [look_nil, leafOf, dir, data]
            · simp [look_cons, kid_leaf]
          · rw [if_neg hm, if_neg (by simp [hm])]
  | n :: m :: r, xd, xb, d, t, hw, h => by
    have hd := with_dir h
    have hr := wf_rising hw
    have hda := wf_data hw hd
    rw [withT, hd] at h ⊢
    cases hn : isIn t.names n with
    | false => rw [hn] at h; cases h
    | true =>
      rw [hn] at h
      simp only [Bool.and_self, if_true] at h ⊢
      obtain ⟨hi, e1, e2⟩ := kid_place hr hn
      have hg : t.kids.getD (placeOf t.names n) ([], zero) = t.kids[placeOf t.names n] := by
        rw [List.getD_eq_getElem?_getD, List.getElem?_eq_getElem hi]; rfl
      rw [hg] at h ⊢
      obtain ⟨d', rfl, hwk⟩ := wf_kid hw (List.getElem_mem hi)
      by_cases h0 : (withT (m :: r) xd xb t.kids[placeOf t.names n].2).1 = 0
      · rw [if_pos h0]
        obtain ⟨_, _, ih⟩ := with_look hwk h0
        refine ⟨rfl, rfl, fun q => ?_⟩
        rcases q with _ | ⟨o, s⟩
        · rw [if_neg (by simp), look_nil, look_nil, hd, hda]; rfl
        · rw [look_cons, look_cons, kid_set hr hn]
          by_cases ho : o = n
          · subst ho
            rw [if_pos rfl, e2]
            show look? s _ = _
            rw [ih s]
            by_cases hs : s = m :: r
            · subst hs; rw [if_pos rfl, if_pos rfl]
            · rw [if_neg hs, if_neg (by simp [hs])]
          · rw [if_neg ho, if_neg (by simp [ho])]
      · simp only [if_neg h0] at h
        exact absurd h h0
end Tr
end Go.Proofs.YtjmllpgmbaoebaaDoor
namespace Go.Proofs.YtjmllpgmbaoebaaDoor
open Go.RowKit Go.SL
namespace Tr

/-- why there may be no such node, as the document tells it: of what is at the names but the last, and of the last -/
def errAt (p : Option Tr) (n : List UInt8) (xb : List UInt8) : Int := match p with
  | none => 8
  | some p => if p.dir && !isIn p.names n then (if 6 < p.kids.length + 1 ∨ 8192 < xb.length then 6 else 0) else 8
theorem wf_file {d : Nat} {t : Tr} (h : Wf d t) (hd : t.dir = false) : t.kids = [] := by
  cases d with
  | zero => exact h.1
  | succ d => exact h.1 hd
theorem with_err : ∀ {ns : List (List UInt8)} {n : List UInt8} {xd : Bool} {xb : List UInt8} {d : Nat} {t : Tr}, Wf d t →
    (withT (ns ++ [n]) xd xb t).1 = errAt (get? ns t) n xb
  | [], n, xd, xb, d, t, _ => by
    show (withT [n] xd xb t).1 = errAt (some t) n xb
    rw [withT, errAt]
    split
    · split <;> rfl
    · rfl
  | o :: ns, n, xd, xb, d, t, hw => by
    obtain ⟨m, r, hmr⟩ : ∃ m r, ns ++ [n] = m :: r := by
      cases ns with
      | nil => exact ⟨n, [], rfl⟩
      | cons m r => exact ⟨m, r ++ [n], rfl⟩
    have hr := wf_rising hw
    show (withT (o :: (ns ++ [n])) xd xb t).1 = _
    rw [hmr, withT, get?]
    cases hd : t.dir with
    | false =>
      have hk : t.kid? o = none := by rw [kid?, wf_file hw hd]; rfl
      rw [hk]; rfl
    | true =>
      cases ho : isIn t.names o with
      | false =>
        rw [kid_none.2 ho]; rfl
      | true =>
        obtain ⟨hi, e1, e2⟩ := kid_place hr ho
        obtain ⟨d', rfl, hwk⟩ := wf_kid hw (List.getElem_mem hi)
        have hg : t.kids.getD (placeOf t.names o) ([], zero) = t.kids[placeOf t.names o] := by
          rw [List.getD_eq_getElem?_getD, List.getElem?_eq_getElem hi]; rfl
        have ih := with_err (ns := ns) (n := n) (xd := xd) (xb := xb) hwk
        rw [hmr] at ih
        rw [e2, hg]
        show _ = errAt (get? ns _) n xb
        rw [← ih]
        simp only [Bool.and_self, if_true]
        split
        · next h0 => exact h0.symm
        · rfl
/-- the tree is as it should be -/
theorem with_wf : ∀ {ns : List (List UInt8)} {xd : Bool} {xb : List UInt8} {d : Nat} {t : Tr}, Wf d t → ns.length ≤ d → ns.all isName = true → (xd = true → xb = []) → (withT ns xd xb t).1 = 0 → Wf d (withT ns xd xb t).2
  | [], _, _, _, _, _, _, _, _, h => by cases h
  | [n], xd, xb, d, t, hw, hl, hn, hx, h => by
    obtain ⟨d, rfl⟩ : ∃ e, d = e + 1 := ⟨d - 1, by simp at hl; omega⟩
    have hd := with_dir h
    have hr := wf_rising hw
    obtain ⟨_, _, _, w4, w5, w6⟩ := hw
    rw [withT, hd] at h ⊢
    cases hi : isIn t.names n with
    | true => rw [hi] at h; cases h
    | false =>
      rw [hi] at h
      simp only [Bool.not_false, Bool.and_self, if_true] at h ⊢
      split at h
      · cases h
      · next hc =>
        rw [if_neg hc]
        have hp : placeOf t.names n ≤ t.kids.length := by have := (find_at hr n).2.1; simpa [names] using this
        refine ⟨fun h => Bool.noConfusion (show true = false from h), fun _ => rfl, ?_, ?_, Nat.zero_le _, fun k hk => ?_⟩
        · show Rising ((insAt (placeOf t.names n) (n, leafOf xd xb) t.kids).map Prod.fst)
          rw [insAt_map]
          exact rising_ins hr hi
        · show (insAt (placeOf t.names n) (n, leafOf xd xb) t.kids).length ≤ 6
          rw [insAt_len hp]; omega
        · rcases insAt_mem.1 hk with rfl | hk
          · refine ⟨by simpa using hn, ?_⟩
            cases d with
            | zero => exact ⟨rfl, hx, by show xb.length ≤ 8192; omega⟩
            | succ d => exact ⟨fun _ => rfl, hx, fun i hi => by simp [names, leafOf, kids] at hi, Nat.zero_le _, by show xb.length ≤ 8192; omega, fun k hk => by cases hk⟩
          · exact w6 k hk
  | n :: m :: r, xd, xb, d, t, hw, hl, hn, hx, h => by
    obtain ⟨d, rfl⟩ : ∃ e, d = e + 1 := ⟨d - 1, by simp at hl; omega⟩
    have hd := with_dir h
    have hr := wf_rising hw
    obtain ⟨_, _, _, w4, w5, w6⟩ := hw
    rw [withT, hd] at h ⊢
    cases hi : isIn t.names n with
    | false => rw [hi] at h; cases h
    | true =>
      rw [hi] at h
      simp only [Bool.and_self, if_true] at h ⊢
      obtain ⟨hp, e1, e2⟩ := kid_place hr hi
      have hg : t.kids.getD (placeOf t.names n) ([], zero) = t.kids[placeOf t.names n] := by
        rw [List.getD_eq_getElem?_getD, List.getElem?_eq_getElem hp]; rfl
      rw [hg] at h ⊢
      have hwk := w6 _ (List.getElem_mem hp)
      by_cases h0 : (withT (m :: r) xd xb t.kids[placeOf t.names n].2).1 = 0
      · rw [if_pos h0]
        have ih := with_wf hwk.2 (by simp at hl ⊢; omega) (by simp at hn ⊢; exact ⟨hn.2.1, hn.2.2⟩) hx h0
        refine ⟨fun h => Bool.noConfusion (show true = false from h), fun _ => rfl, ?_, ?_, Nat.zero_le _, fun k hk => ?_⟩
        · show Rising ((t.kids.set (placeOf t.names n) _).map Prod.fst)
          rw [names_set hp e1]; exact hr
        · show (t.kids.set _ _).length ≤ 6
          rw [List.length_set]; exact w4
        · rcases List.mem_or_eq_of_mem_set hk with hk | rfl
          · exact w6 k hk
          · exact ⟨by simp at hn; exact hn.1, ih⟩
      · simp only [if_neg h0] at h
        exact absurd h h0
theorem with_zero {ns : List (List UInt8)} {xd : Bool} {xb : List UInt8} {t : Tr} (h : (withT ns xd xb t).1 ≠ 0) : (withT ns xd xb t).2 = zero := by
  rcases ns with _ | ⟨n, _ | ⟨m, r⟩⟩
  · rfl
  · rw [withT] at h ⊢
    split
    · next hc =>
      rw [if_pos hc] at h
      split
      · rfl
      · next h2 => rw [if_neg h2] at h; exact absurd rfl h
    · rfl
  · rw [withT] at h ⊢
    split
    · next hc =>
      rw [if_pos hc] at h
      simp only at h ⊢
      split
      · next h2 => rw [if_pos h2] at h; exact absurd rfl h
      · rfl
    · rfl
end Tr
end Go.Proofs.YtjmllpgmbaoebaaDoor
namespace Go.Proofs.YtjmllpgmbaoebaaDoor
open Go.RowKit Go.SL
theorem joinP_len : ∀ xs : List (List UInt8), (∀ x ∈ xs, x.length ≤ 600) → (joinP xs).length ≤ xs.length * 601
  | [], _ => by simp [joinP, Lib.join_nil]
  | [a], h => by
    rw [joinP_one]
    have := h a (by simp)
    simp only [List.length_cons, List.length_nil]
    omega
  | a :: b :: t, h => by
    rw [joinP_cons a (by simp)]
    have h1 := joinP_len (b :: t) (fun x hx => h x (by simp [hx]))
    have h2 := h a (by simp)
    simp only [List.length_append, List.length_cons] at h1 ⊢
    omega
theorem joinP_snoc (x : List UInt8) : ∀ l : List (List UInt8), l ≠ [] → joinP (l ++ [x]) = joinP l ++ 47 :: x
  | [], h => absurd rfl h
  | [a], _ => by
    rw [joinP_one, List.cons_append, joinP_cons a (by simp), List.nil_append, joinP_one]
  | a :: b :: t, _ => by
    have ih := joinP_snoc x (b :: t) (by simp)
    rw [List.cons_append, joinP_cons a (by simp), ih, joinP_cons a (by simp)]
    simp
theorem splitL_names (p : List UInt8) : (splitL p).length ≤ 6 ∧ (splitL p).all isName = true := by
  unfold splitL
  split
  · simp
  · split
    · rename_i h
      split
      · rename_i h6
        exact ⟨h6, h⟩
      · simp
    · simp
theorem name_len {x : List UInt8} (h : isName x = true) : 1 ≤ x.length ∧ x.length ≤ 16 := by
  simp only [isName, Bool.and_eq_true, decide_eq_true_eq] at h
  exact h.2
theorem splitL_len (p : List UInt8) : ∀ x ∈ splitL p, x.length ≤ 600 := fun x hx => by
  have := (name_len (List.all_eq_true.1 (splitL_names p).2 x hx)).2
  omega
theorem split_ok {p : List UInt8} (h : splitE p = 0) : joinP (splitL p) = p := by
  unfold splitE at h
  unfold splitL
  split at h
  · rename_i h0
    rw [if_pos h0, h0]
    rfl
  · rename_i h0
    rw [if_neg h0]
    split at h
    · rename_i ha
      rw [if_pos ha]
      split at h
      · rename_i h6
        rw [if_pos h6]
        exact join_cuts p
      · simp at h
    · simp at h
theorem split_ne {p : List UInt8} (h : splitE p ≠ 0) : splitL p = [] := by
  unfold splitE at h
  unfold splitL
  split at h
  · simp at h
  · rename_i h0
    rw [if_neg h0]
    split at h
    · rename_i ha
      rw [if_pos ha]
      split at h
      · simp at h
      · rename_i h6
        rw [if_neg h6]
    · rename_i ha
      rw [if_neg ha]
theorem joinP_ne {xs : List (List UInt8)} (h0 : xs ≠ []) (h : xs.all isName = true) : joinP xs ≠ [] := by
  obtain ⟨a, t, rfl⟩ := List.exists_cons_of_ne_nil h0
  simp only [List.all_cons, Bool.and_eq_true] at h
  have ha := (name_len h.1).1
  intro e
  have : (joinP (a :: t)).length = 0 := by rw [e]; rfl
  cases t with
  | nil => rw [joinP_one] at this; omega
  | cons b t => rw [joinP_cons a (by simp), List.length_append] at this; omega
theorem join_split {xs : List (List UInt8)} (h0 : xs ≠ []) (h : xs.all isName = true) (h6 : xs.length ≤ 6) : splitL (joinP xs) = xs ∧ splitE (joinP xs) = 0 := by
  have hc := cuts_join xs h0 h
  have := split_good (joinP_ne h0 h) (by rw [hc]; exact h) (by rw [hc]; exact h6)
  rwa [hc] at this
theorem joins_many {xs : List (List UInt8)} (h0 : xs ≠ []) (h : xs.all isName = true) (h6 : ¬ xs.length ≤ 6) : splitL (joinP xs) = [] ∧ splitE (joinP xs) = 6 := by
  have hc := cuts_join xs h0 h
  exact split_many (joinP_ne h0 h) (by rw [hc]; exact h) (by rw [hc]; exact h6)
end Go.Proofs.YtjmllpgmbaoebaaDoor
namespace Go.Proofs.YtjmllpgmbaoebaaDoor
open Go.RowKit Go.SL

/-- an entry -/
structure En where
  path : List UInt8
  dir : Bool
  data : List UInt8
/-- the path of a path's directory, as the document reckons it -/
def parP (p : List UInt8) : List UInt8 := ((p.reverse.dropWhile fun c => c != 47).drop 1).reverse
theorem dropWhile_free : ∀ {s r : List UInt8}, (∀ c ∈ s, c ≠ 47) → (s ++ r).dropWhile (fun c => c != 47) = r.dropWhile fun c => c != 47
  | [], _, _ => rfl
  | c :: s, r, h => by
    have hc : (c != 47) = true := by simpa using h c (by simp)
    rw [List.cons_append, List.dropWhile_cons, if_pos hc]
    exact dropWhile_free fun d hd => h d (by simp [hd])
theorem parP_free {n : List UInt8} (h : ∀ c ∈ n, c ≠ 47) : parP n = [] := by
  have := dropWhile_free (s := n.reverse) (r := []) (fun c hc => h c (by simpa using hc))
  rw [List.append_nil] at this
  rw [parP, this]; rfl
theorem parP_app {a n : List UInt8} (h : ∀ c ∈ n, c ≠ 47) : parP (a ++ 47 :: n) = a := by
  have e : (a ++ 47 :: n).reverse = n.reverse ++ 47 :: a.reverse := by simp
  rw [parP, e, dropWhile_free (fun c hc => h c (by simpa using hc))]
  simp
theorem joinP_end : ∀ {q : List (List UInt8)} {n : List UInt8}, q ≠ [] → joinP (q ++ [n]) = joinP q ++ 47 :: n
  | [], _, h => absurd rfl h
  | [a], n, _ => by
    show joinP (a :: [n]) = _
    rw [joinP_cons a (by simp), joinP_one, joinP_one]
  | a :: b :: q, n, _ => by
    show joinP (a :: ((b :: q) ++ [n])) = _
    rw [joinP_cons a (by simp), joinP_end (by simp), joinP_cons a (by simp), List.append_assoc]; rfl
theorem parP_join {q : List (List UInt8)} {n : List UInt8} (h : isName n = true) : parP (joinP (q ++ [n])) = joinP q := by
  by_cases hq : q = []
  · subst hq
    rw [List.nil_append, joinP_one, parP_free (name_free h)]; rfl
  · rw [joinP_end hq, parP_app (name_free h)]
/-- of a path that is one: its names -/
theorem split_names {p : List UInt8} (h : splitE p = 0) : (splitL p).all isName = true ∧ (splitL p).length ≤ 6 ∧ joinP (splitL p) = p ∧ (splitL p = [] ↔ p = []) := by
  refine ⟨?_, ?_, split_ok h, ?_⟩
  · unfold splitL splitE at *
    split
    · rfl
    · next h0 =>
      rw [if_neg h0] at h
      split
      · next h1 =>
        rw [if_pos h1] at h
        split
        · exact h1
        · rfl
      · rfl
  · unfold splitL
    split
    · simp
    · split
      · split
        · assumption
        · simp
      · simp
  · constructor
    · intro e
      have := split_ok h
      rw [e] at this
      exact this.symm
    · rintro rfl; rfl

/-- the row says what is at any names -/
def Rel (t : Tr) (L : List En) : Prop :=
  (∀ x ∈ L, splitE x.path = 0 ∧ x.path ≠ []) ∧ (L.map En.path).Nodup ∧
  ∀ q, q ≠ [] → ∀ d b, Tr.look? q t = some (d, b) ↔ ∃ x ∈ L, splitL x.path = q ∧ x.dir = d ∧ x.data = b
def root : Tr := .nd true [] []
theorem Rel.start : Rel root [] := by
  refine ⟨fun x hx => (by cases hx), List.nodup_nil, fun q hq d b => ?_⟩
  rcases q with _ | ⟨n, r⟩
  · exact absurd rfl hq
  · constructor
    · intro h
      rw [Tr.look_cons] at h
      cases h
    · rintro ⟨x, hx, _⟩; cases hx
theorem root_wf (d : Nat) : Tr.Wf d root := by
  cases d with
  | zero => exact ⟨rfl, fun _ => rfl, Nat.zero_le _⟩
  | succ d => exact ⟨fun _ => rfl, fun _ => rfl, fun i hi => by simp [Tr.names, root, Tr.kids] at hi, Nat.zero_le _, Nat.zero_le _, fun k hk => by cases hk⟩
/-- one more -/
theorem Rel.add {t : Tr} {L : List En} {x : En} {d : Nat} (hR : Rel t L) (hw : Tr.Wf d t) (hp : splitE x.path = 0) (h : (Tr.withT (splitL x.path) x.dir x.data t).1 = 0) (hno : Tr.look? (splitL x.path) t = none) :
    Rel (Tr.withT (splitL x.path) x.dir x.data t).2 (L ++ [x]) := by
  obtain ⟨r1, r2, r3⟩ := hR
  obtain ⟨_, _, hl⟩ := Tr.with_look hw h
  obtain ⟨_, _, n3, n4⟩ := split_names hp
  have hne : x.path ≠ [] := fun e => by
    rw [n4.2 e] at h; cases h
  have hnew : ∀ y ∈ L, splitL y.path ≠ splitL x.path := fun y hy e => by
    have := (r3 (splitL x.path) (fun e2 => hne (n4.1 e2)) y.dir y.data).2 ⟨y, hy, e, rfl, rfl⟩
    rw [hno] at this; cases this
  refine ⟨fun y hy => ?_, ?_, fun q hq d b => ?_⟩
  · rcases List.mem_append.1 hy with hy | hy
    · exact r1 y hy
    · rw [List.mem_singleton.1 hy]; exact ⟨hp, hne⟩
  · rw [List.map_append, List.nodup_append]
    refine ⟨r2, by simp, fun a ha b hb => ?_⟩
    obtain ⟨y, hy, rfl⟩ := List.mem_map.1 ha
    simp only [List.map_cons, List.map_nil, List.mem_singleton] at hb
    subst hb
    exact fun e => hnew y hy (by rw [e])
  · rw [hl q]
    by_cases hqx : q = splitL x.path
    · subst hqx
      rw [if_pos rfl]
      constructor
      · intro e
        cases e
        exact ⟨x, by simp, rfl, rfl, rfl⟩
      · rintro ⟨y, hy, e1, rfl, rfl⟩
        rcases List.mem_append.1 hy with hy | hy
        · exact absurd e1 (hnew y hy)
        · rw [List.mem_singleton.1 hy]
    · rw [if_neg hqx, r3 q hq]
      constructor
      · rintro ⟨y, hy, e⟩
        exact ⟨y, by simp [hy], e⟩
      · rintro ⟨y, hy, e1, e2⟩
        rcases List.mem_append.1 hy with hy | hy
        · exact ⟨y, hy, e1, e2⟩
        · rw [List.mem_singleton.1 hy] at e1
          exact absurd e1.symm hqx
end Go.Proofs.YtjmllpgmbaoebaaDoor
namespace Go.Proofs.YtjmllpgmbaoebaaDoor
open Go.RowKit Go.SL

theorem get_append : ∀ (q r : List (List UInt8)) (t : Tr), Tr.get? (q ++ r) t = (Tr.get? q t).bind (Tr.get? r)
  | [], r, t => rfl
  | n :: q, r, t => by
    show Tr.get? (n :: (q ++ r)) t = _
    rw [Tr.get?, Tr.get?]
    cases t.kid? n with
    | none => rfl
    | some k => exact get_append q r k
theorem get_snoc {q : List (List UInt8)} {n : List UInt8} {t p : Tr} (h : Tr.get? q t = some p) : Tr.get? (q ++ [n]) t = p.kid? n := by
  rw [get_append, h]
  show Tr.get? [n] p = _
  rw [Tr.get?]
  cases p.kid? n <;> rfl
theorem look_isSome {q : List (List UInt8)} {t : Tr} : (Tr.look? q t).isSome = (Tr.get? q t).isSome := by
  rw [Tr.look?, Option.isSome_map]
theorem wf_get : ∀ {q : List (List UInt8)} {t p : Tr} {d : Nat}, Tr.Wf d t → Tr.get? q t = some p → ∃ e, Tr.Wf e p
  | [], t, p, d, hw, h => by cases h; exact ⟨d, hw⟩
  | n :: q, t, p, d, hw, h => by
    rw [Tr.get?] at h
    cases hk : t.kid? n with
    | none => rw [hk] at h; cases h
    | some k =>
      rw [hk] at h
      obtain ⟨e, _, he⟩ := Tr.wf_kid hw (Tr.kid_mem hk)
      exact wf_get he h
theorem joinP_inj {a b : List (List UInt8)} (ha : a.all isName = true) (hb : b.all isName = true) (la : a.length ≤ 6) (lb : b.length ≤ 6) (h : joinP a = joinP b) : a = b := by
  by_cases h1 : a = []
  · subst h1
    by_cases h2 : b = []
    · exact h2.symm
    · exact absurd h.symm (joinP_ne h2 hb)
  · by_cases h2 : b = []
    · subst h2; exact absurd h (joinP_ne h1 ha)
    · have e1 := (join_split h1 ha la).1
      rw [h, (join_split h2 hb lb).1] at e1
      exact e1.symm
theorem snoc_of_ne {α : Type} {l : List α} (h : l ≠ []) : ∃ q n, l = q ++ [n] := ⟨l.dropLast, l.getLast h, (List.dropLast_concat_getLast h).symm⟩
/-- the entries of what is right in a directory -/
def kidsD (L : List En) (p : List UInt8) : List En := L.filter fun x => parP x.path == p
def Tr.isIn' (p : Tr) (n : List UInt8) : Bool := isIn p.names n
theorem kids_names {t p : Tr} {L : List En} {d : Nat} {q : List (List UInt8)} (hR : Rel t L) (hw : Tr.Wf d t) (hq : q.all isName = true) (lq : q.length ≤ 6) (hg : Tr.get? q t = some p) (n : List UInt8) :
    n ∈ p.names ↔ ∃ x ∈ L, splitL x.path = q ++ [n] := by
  obtain ⟨_, _, r3⟩ := hR
  obtain ⟨e, he⟩ := wf_get hw hg
  have h1 : n ∈ p.names ↔ Tr.isIn' p n = true := by rw [Tr.isIn', isIn, List.contains_iff_mem]
  have h2 : (Tr.look? (q ++ [n]) t).isSome = isIn p.names n := by
    rw [look_isSome, get_snoc hg]
    cases hk : p.kid? n with
    | none => rw [Tr.kid_none.1 hk]; rfl
    | some k =>
      cases hi : isIn p.names n with
      | true => rfl
      | false => rw [Tr.kid_none.2 hi] at hk; cases hk
  rw [h1, Tr.isIn', ← h2]
  constructor
  · intro h
    obtain ⟨⟨a, b⟩, hab⟩ := Option.isSome_iff_exists.1 h
    obtain ⟨x, hx, e1, _⟩ := (r3 _ (by simp) a b).1 hab
    exact ⟨x, hx, e1⟩
  · rintro ⟨x, hx, e1⟩
    rw [(r3 (q ++ [n]) (by simp) x.dir x.data).2 ⟨x, hx, e1, rfl, rfl⟩]; rfl
end Go.Proofs.YtjmllpgmbaoebaaDoor
namespace Go.Proofs.YtjmllpgmbaoebaaDoor
open Go.RowKit Go.SL

/-- entries whose directory it is, by their names -/
theorem kidsD_iff {L : List En} (h : ∀ x ∈ L, splitE x.path = 0 ∧ x.path ≠ []) {q : List (List UInt8)} (hq : q.all isName = true) (lq : q.length ≤ 6) {x : En} (hx : x ∈ L) :
    parP x.path = joinP q ↔ ∃ n, splitL x.path = q ++ [n] := by
  obtain ⟨h1, h2⟩ := h x hx
  obtain ⟨a, b, c, e⟩ := split_names h1
  obtain ⟨r, n, hr⟩ := snoc_of_ne (fun h3 => h2 (e.1 h3) : splitL x.path ≠ [])
  rw [hr] at a b c ⊢
  rw [List.all_append, Bool.and_eq_true] at a
  have hn : isName n = true := by simpa using a.2
  rw [← c, parP_join hn]
  constructor
  · intro h3
    exact ⟨n, by rw [joinP_inj a.1 hq (by simp at b; omega) lq h3]⟩
  · rintro ⟨m, hm⟩
    have := congrArg List.dropLast hm
    rw [List.dropLast_concat, List.dropLast_concat] at this
    rw [this]
theorem nodup_rising {ks : List (List UInt8)} (h : Rising ks) : ks.Nodup := by
  refine List.pairwise_iff_getElem.2 fun i j hi hj hij e => ?_
  have := Tr.rising_inj h hi hj e
  omega
theorem kids_count {t p : Tr} {L : List En} {d : Nat} {q : List (List UInt8)} (hR : Rel t L) (hw : Tr.Wf d t) (hq : q.all isName = true) (lq : q.length ≤ 6) (hg : Tr.get? q t = some p) :
    (kidsD L (joinP q)).length = p.kids.length := by
  have hk := kids_names hR hw hq lq hg
  obtain ⟨r1, r2, _⟩ := hR
  obtain ⟨e, he⟩ := wf_get hw hg
  have n1 : ((kidsD L (joinP q)).map fun x => splitL x.path).Nodup := by
    have e1 : (kidsD L (joinP q)).map En.path = ((kidsD L (joinP q)).map fun x => splitL x.path).map joinP := by
      rw [List.map_map]
      apply List.map_congr_left
      intro x hx
      have hx2 := (List.mem_filter.1 hx).1
      exact ((split_names (r1 x hx2).1).2.2.1).symm
    have n2 : ((kidsD L (joinP q)).map En.path).Nodup := r2.sublist (List.Sublist.map _ List.filter_sublist)
    rw [e1] at n2
    exact (List.pairwise_map.1 n2).imp fun h e => h (by rw [e])
  have n2 : (p.names.map fun n => q ++ [n]).Nodup := by
    exact List.pairwise_map.2 ((nodup_rising (Tr.wf_rising he)).imp fun h e => h (by simpa using e))
  have hp : ((kidsD L (joinP q)).map fun x => splitL x.path).Perm (p.names.map fun n => q ++ [n]) := by
    refine (List.perm_ext_iff_of_nodup n1 n2).2 fun s => ?_
    rw [List.mem_map, List.mem_map]
    constructor
    · rintro ⟨x, hx, rfl⟩
      obtain ⟨hx1, hx2⟩ := List.mem_filter.1 hx
      obtain ⟨n, hn⟩ := (kidsD_iff r1 hq lq hx1).1 (beq_iff_eq.1 hx2)
      exact ⟨n, (hk n).2 ⟨x, hx1, hn⟩, hn.symm⟩
    · rintro ⟨n, hn, rfl⟩
      obtain ⟨x, hx, e1⟩ := (hk n).1 hn
      exact ⟨x, List.mem_filter.2 ⟨hx, beq_iff_eq.2 ((kidsD_iff r1 hq lq hx).2 ⟨n, e1⟩)⟩, e1⟩
  have := hp.length_eq
  rw [List.length_map, List.length_map, Tr.names, List.length_map] at this
  exact this

/-- is there an entry of a path? -/
def hasD (L : List En) (p : List UInt8) : Bool := L.any fun x => x.path == p
/-- is there a directory of a path? -/
def dirD (L : List En) (p : List UInt8) : Bool := p == [] || L.any fun x => x.path == p && x.dir
/-- the document's error of one more entry -/
def addE (L : List En) (x : En) : Int :=
  if splitE x.path ≠ 0 then splitE x.path
  else if x.path = [] ∨ (x.dir = true ∧ x.data ≠ []) ∨ hasD L x.path = true ∨ dirD L (parP x.path) = false then 8
  else if 8192 < x.data.length ∨ 6 ≤ (kidsD L (parP x.path)).length then 6 else 0
/-- the program's -/
def addT (t : Tr) (x : En) : Int × Tr :=
  if splitE x.path ≠ 0 then (splitE x.path, .zero)
  else if x.dir = true ∧ x.data ≠ [] then (8, .zero)
  else Tr.withT (splitL x.path) x.dir x.data t
theorem hasD_iff {t : Tr} {L : List En} (hR : Rel t L) {p : List UInt8} (hp : splitE p = 0) (h0 : p ≠ []) : hasD L p = (Tr.get? (splitL p) t).isSome := by
  obtain ⟨r1, _, r3⟩ := hR
  obtain ⟨_, _, c, e⟩ := split_names hp
  rw [← look_isSome, hasD, Bool.eq_iff_iff, List.any_eq_true, Option.isSome_iff_exists]
  constructor
  · rintro ⟨x, hx, hxp⟩
    exact ⟨_, (r3 _ (fun h => h0 (e.1 h)) x.dir x.data).2 ⟨x, hx, by rw [beq_iff_eq.1 hxp], rfl, rfl⟩⟩
  · rintro ⟨⟨a, b⟩, hab⟩
    obtain ⟨x, hx, e1, _⟩ := (r3 _ (fun h => h0 (e.1 h)) a b).1 hab
    refine ⟨x, hx, beq_iff_eq.2 ?_⟩
    rw [← (split_names (r1 x hx).1).2.2.1, e1, c]
theorem dirD_iff {t : Tr} {L : List En} (hR : Rel t L) (ht : t.dir = true) {q : List (List UInt8)} (hq : q.all isName = true) (lq : q.length ≤ 6) : dirD L (joinP q) = match Tr.get? q t with
    | none => false
    | some p => p.dir := by
  obtain ⟨r1, _, r3⟩ := hR
  by_cases h0 : q = []
  · subst h0
    show (([] : List UInt8) == [] || _) = t.dir
    rw [ht]; rfl
  · have hj : (joinP q == []) = false := by rw [beq_eq_false_iff_ne]; exact joinP_ne h0 hq
    have key : (L.any fun x => x.path == joinP q && x.dir) = true ↔ ∃ b, Tr.look? q t = some (true, b) := by
      rw [List.any_eq_true]
      constructor
      · rintro ⟨x, hx, hxp⟩
        rw [Bool.and_eq_true, beq_iff_eq] at hxp
        refine ⟨x.data, (r3 q h0 true x.data).2 ⟨x, hx, ?_, hxp.2, rfl⟩⟩
        rw [hxp.1, (join_split h0 hq lq).1]
      · rintro ⟨b, hb⟩
        obtain ⟨x, hx, e1, e2, _⟩ := (r3 q h0 true b).1 hb
        refine ⟨x, hx, ?_⟩
        rw [Bool.and_eq_true, beq_iff_eq]
        exact ⟨by rw [← (split_names (r1 x hx).1).2.2.1, e1], e2⟩
    rw [dirD, hj, Bool.false_or, Bool.eq_iff_iff, key, Tr.look?]
    cases hg : Tr.get? q t with
    | none => simp
    | some p => simp
/-- both tell the same error -/
theorem add_err {t : Tr} {L : List En} {x : En} {d : Nat} (hR : Rel t L) (hw : Tr.Wf d t) (ht : t.dir = true) : (addT t x).1 = addE L x := by
  rw [addT, addE]
  by_cases h1 : splitE x.path ≠ 0
  · rw [if_pos h1, if_pos h1]
  · rw [if_neg h1, if_neg h1]
    have hs : splitE x.path = 0 := by simpa using h1
    obtain ⟨a, b, c, e⟩ := split_names hs
    by_cases h2 : x.dir = true ∧ x.data ≠ []
    · rw [if_pos h2, if_pos (.inr (.inl h2))]
    · rw [if_neg h2]
      by_cases h3 : x.path = []
      · rw [if_pos (.inl h3), e.2 h3]; rfl
      · obtain ⟨r, n, hr⟩ := snoc_of_ne (fun h4 => h3 (e.1 h4) : splitL x.path ≠ [])
        have hh := hasD_iff hR hs h3
        rw [hr] at a b c hh ⊢
        rw [List.all_append, Bool.and_eq_true] at a
        have hn : isName n = true := by simpa using a.2
        have lr : r.length ≤ 6 := by simp at b; omega
        have hpar : parP x.path = joinP r := by rw [← c, parP_join hn]
        have hd := dirD_iff hR ht a.1 lr
        rw [Tr.with_err hw, hpar, hh, hd]
        cases hg : Tr.get? r t with
        | none => simp [Tr.errAt]
        | some p =>
          have hc := kids_count hR hw a.1 lr hg
          have hi : (Tr.get? (r ++ [n]) t).isSome = isIn p.names n := by
            rw [get_snoc hg]
            cases hk : p.kid? n with
            | none => rw [Tr.kid_none.1 hk]; rfl
            | some k =>
              cases hi : isIn p.names n with
              | true => rfl
              | false => rw [Tr.kid_none.2 hi] at hk; cases hk
          rw [hi, hc]
          simp only [h3, h2, false_or, Tr.errAt]
          cases p.dir with
          | false => simp
          | true =>
            cases isIn p.names n with
            | true => simp
            | false =>
              simp only [Bool.not_false, Bool.and_self, if_true, Bool.false_eq_true, Bool.true_eq_false, or_self, if_false]
              have : (6 < p.kids.length + 1 ∨ 8192 < x.data.length) ↔ (8192 < x.data.length ∨ 6 ≤ p.kids.length) := by omega
              simp only [this]
end Go.Proofs.YtjmllpgmbaoebaaDoor
namespace Go.Proofs.YtjmllpgmbaoebaaDoor
open Go.RowKit Go.SL

theorem addT_zero {t : Tr} {x : En} (h : (addT t x).1 ≠ 0) : (addT t x).2 = .zero := by
  rw [addT] at h ⊢
  split
  · rfl
  · next h1 =>
    rw [if_neg h1] at h
    split
    · rfl
    · next h2 =>
      rw [if_neg h2] at h
      exact Tr.with_zero h
/-- what a tree of entries is like -/
def Good (t : Tr) (L : List En) : Prop := Rel t L ∧ Tr.Wf 6 t ∧ t.dir = true ∧ t.data = []
theorem good_root : Good root [] := ⟨Rel.start, root_wf 6, rfl, rfl⟩
theorem add_good {t : Tr} {L : List En} {x : En} (h : Good t L) (h0 : (addT t x).1 = 0) : Good (addT t x).2 (L ++ [x]) := by
  obtain ⟨hR, hw, hd, hb⟩ := h
  have h0' := h0
  rw [addT] at h0 ⊢
  split at h0
  · next h1 => exact absurd h0 h1
  · next h1 =>
    rw [if_neg h1]
    split at h0
    · cases h0
    · next h2 =>
      rw [if_neg h2]
      have hs : splitE x.path = 0 := by simpa using h1
      obtain ⟨a, b, c, e⟩ := split_names hs
      have hne : splitL x.path ≠ [] := fun h3 => by rw [h3] at h0; cases h0
      have hno : Tr.look? (splitL x.path) t = none := by
        obtain ⟨r, n, hr⟩ := snoc_of_ne hne
        rw [hr] at h0 ⊢
        rw [Tr.with_err hw] at h0
        cases hg : Tr.get? r t with
        | none => rw [hg] at h0; cases h0
        | some p =>
          rw [hg] at h0
          simp only [Tr.errAt] at h0
          split at h0
          · next h3 =>
            rw [Bool.and_eq_true, Bool.not_eq_true'] at h3
            rw [Tr.look?, get_snoc hg, Tr.kid_none.2 h3.2]; rfl
          · cases h0
      obtain ⟨l1, l2, _⟩ := Tr.with_look hw h0
      exact ⟨hR.add hw hs h0 hno, Tr.with_wf hw b a (fun h3 => by
        cases hx : x.data with
        | nil => rfl
        | cons y r => exact absurd ⟨h3, by rw [hx]; simp⟩ h2) h0, l1, l2⟩
def goT (t : Tr) : List En → Int × Tr
  | [] => (0, t)
  | x :: r => if (addT t x).1 = 0 then goT (addT t x).2 r else ((addT t x).1, .zero)
def goD (L : List En) : List En → Int × List En
  | [] => (0, L)
  | x :: r => if addE L x = 0 then goD (L ++ [x]) r else (addE L x, [])
def buildT (l : List En) : Int × Tr := if 64 < l.length then (6, .zero) else goT root l
def buildD (l : List En) : Int × List En := if 64 < l.length then (6, []) else goD [] l
theorem go_same : ∀ {r L : List En} {t : Tr}, Good t L → (goT t r).1 = (goD L r).1 ∧ ((goT t r).1 = 0 → Good (goT t r).2 (goD L r).2 ∧ (goD L r).2 = L ++ r)
  | [], L, t, h => ⟨rfl, fun _ => ⟨h, (List.append_nil _).symm⟩⟩
  | x :: r, L, t, h => by
    have he := add_err (x := x) h.1 h.2.1 h.2.2.1
    rw [goT, goD, ← he]
    split
    · next h0 =>
      obtain ⟨i1, i2⟩ := go_same (r := r) (add_good h h0)
      refine ⟨i1, fun h1 => ?_⟩
      obtain ⟨j1, j2⟩ := i2 h1
      exact ⟨j1, by rw [j2, List.append_assoc]; rfl⟩
    · next h0 => exact ⟨rfl, fun h1 => absurd h1 h0⟩
theorem build_same (l : List En) : (buildT l).1 = (buildD l).1 ∧ ((buildT l).1 = 0 → Good (buildT l).2 (buildD l).2 ∧ (buildD l).2 = l) := by
  rw [buildT, buildD]
  split
  · exact ⟨rfl, fun h => by cases h⟩
  · obtain ⟨h1, h2⟩ := go_same (r := l) good_root
    refine ⟨h1, fun h => ?_⟩
    obtain ⟨a, b⟩ := h2 h
    exact ⟨a, by rw [b]; rfl⟩
theorem goT_zero : ∀ {r : List En} {t : Tr}, (goT t r).1 ≠ 0 → (goT t r).2 = .zero
  | [], t, h => absurd rfl h
  | x :: r, t, h => by
    rw [goT] at h ⊢
    split
    · next h0 => rw [if_pos h0] at h; exact goT_zero h
    · rfl
theorem buildT_zero {l : List En} (h : (buildT l).1 ≠ 0) : (buildT l).2 = .zero := by
  rw [buildT] at h ⊢
  split
  · rfl
  · next h0 => rw [if_neg h0] at h; exact goT_zero h
end Go.Proofs.YtjmllpgmbaoebaaDoor
namespace Go.Proofs.YtjmllpgmbaoebaaDoor
open Go.RowKit Go.SL

/-- a kid's entry -/
def entOf (q : List (List UInt8)) (k : List UInt8 × Tr) : En := ⟨joinP (q ++ [k.1]), k.2.dir, k.2.data⟩
def sortT (q : List (List UInt8)) (p : Tr) : List En := p.kids.map (entOf q)
theorem bl_append : ∀ (s a b : List UInt8), Op.bytesLess (s ++ a) (s ++ b) = Op.bytesLess a b
  | [], _, _ => rfl
  | c :: s, a, b => by
    rw [Bool.eq_iff_iff, List.cons_append, List.cons_append, bl_cons, bl_append s a b]
    constructor
    · rintro (h | h)
      · omega
      · exact h.2
    · exact fun h => .inr ⟨rfl, h⟩
theorem bl_join (q : List (List UInt8)) (a b : List UInt8) : Op.bytesLess (joinP (q ++ [a])) (joinP (q ++ [b])) = Op.bytesLess a b := by
  by_cases h : q = []
  · subst h
    rw [List.nil_append, List.nil_append, joinP_one, joinP_one]
  · rw [joinP_end h, joinP_end h, bl_append]
    exact bl_append [47] a b
theorem sortT_rising {q : List (List UInt8)} {p : Tr} (h : Rising p.names) : Rising ((sortT q p).map En.path) := by
  intro i hi
  simp only [sortT, List.length_map] at hi
  simp only [sortT, List.getElem_map, entOf, bl_join]
  have := h i (by simpa [Tr.names] using hi)
  simpa [Tr.names] using this
theorem kidsD_nodup {L : List En} (h : (L.map En.path).Nodup) (p : List UInt8) : (kidsD L p).Nodup := by
  have h2 : ((kidsD L p).map En.path).Nodup := h.sublist (List.Sublist.map _ List.filter_sublist)
  exact (List.pairwise_map.1 h2).imp fun h e => h (by rw [e])
/-- what the document sorts -/
theorem sortT_perm {t p : Tr} {L : List En} {d : Nat} {q : List (List UInt8)} (hR : Rel t L) (hw : Tr.Wf d t) (hq : q.all isName = true) (lq : q.length ≤ 6) (hg : Tr.get? q t = some p) :
    (kidsD L (joinP q)).Perm (sortT q p) := by
  obtain ⟨r1, r2, r3⟩ := hR
  obtain ⟨e, he⟩ := wf_get hw hg
  have hr := Tr.wf_rising he
  have n2 : (sortT q p).Nodup := by
    have := nodup_rising (sortT_rising (q := q) hr)
    exact (List.pairwise_map.1 this).imp fun h e => h (by rw [e])
  refine (List.perm_ext_iff_of_nodup (kidsD_nodup r2 _) n2).2 fun y => ?_
  constructor
  · intro hy
    obtain ⟨hy1, hy2⟩ := List.mem_filter.1 hy
    obtain ⟨n, hn⟩ := (kidsD_iff r1 hq lq hy1).1 (beq_iff_eq.1 hy2)
    have hl := (r3 (q ++ [n]) (by simp) y.dir y.data).2 ⟨y, hy1, hn, rfl, rfl⟩
    rw [Tr.look?, get_snoc hg] at hl
    cases hk : p.kid? n with
    | none => rw [hk] at hl; cases hl
    | some k =>
      rw [hk] at hl
      simp only [Option.map_some, Option.some.injEq, Prod.mk.injEq] at hl
      refine List.mem_map.2 ⟨(n, k), Tr.kid_mem hk, ?_⟩
      have hp := (split_names (r1 y hy1).1).2.2.1
      rw [hn] at hp
      rw [entOf, hp, hl.1, hl.2]
  · intro hy
    obtain ⟨⟨n, k⟩, hk, rfl⟩ := List.mem_map.1 hy
    have hkk := (Tr.kid_iff hr).2 hk
    have hl : Tr.look? (q ++ [n]) t = some (k.dir, k.data) := by rw [Tr.look?, get_snoc hg, hkk]; rfl
    obtain ⟨x, hx, e1, e2, e3⟩ := (r3 _ (by simp) _ _).1 hl
    have hp := (split_names (r1 x hx).1).2.2.1
    rw [e1] at hp
    have hxe : x = entOf q (n, k) := by
      obtain ⟨xp, xd, xb⟩ := x
      simp only at e2 e3 hp
      rw [entOf, e2, e3, hp]
    rw [← hxe]
    exact List.mem_filter.2 ⟨hx, beq_iff_eq.2 ((kidsD_iff r1 hq lq hx).2 ⟨n, e1⟩)⟩
/-- all that is in a directory, so deep -/
def entT : Nat → List (List UInt8) → Tr → List En
  | 0, _, _ => []
  | d + 1, q, t => t.kids.flatMap fun k => entOf q k :: entT d (q ++ [k.1]) k.2
theorem entT_file {d : Nat} {q : List (List UInt8)} {t : Tr} (h : t.kids = []) : entT d q t = [] := by
  cases d with
  | zero => rfl
  | succ d => rw [entT, h]; rfl
/-- deeper does not tell more -/
theorem entT_deep : ∀ {d : Nat} {q : List (List UInt8)} {t : Tr}, Tr.Wf d t → entT (d + 1) q t = entT d q t
  | 0, q, t, h => by rw [entT_file h.1, entT_file h.1]
  | d + 1, q, t, h => by
    rw [entT, entT]
    have : ∀ k ∈ t.kids, (entOf q k :: entT (d + 1) (q ++ [k.1]) k.2) = entOf q k :: entT d (q ++ [k.1]) k.2 := fun k hk => by
      rw [entT_deep (h.2.2.2.2.2 k hk).2]
    rw [List.flatMap_def, List.flatMap_def, List.map_congr_left this]
end Go.Proofs.YtjmllpgmbaoebaaDoor
namespace Go.Proofs.YtjmllpgmbaoebaaDoor
open Go.RowKit Go.SL

/-- what is at names, as the program finds it (kE: what names are behind a file; nE: there is none) -/
def atT (kE nE : Int) : List (List UInt8) → Tr → Int × Tr
  | [], t => (0, t)
  | n :: r, t => if t.dir then (match t.kid? n with
    | none => (nE, .zero)
    | some k => atT kE nE r k) else (kE, .zero)
theorem atT_get {kE nE : Int} (hk : kE ≠ 0) (hn : nE ≠ 0) : ∀ {q : List (List UInt8)} {t : Tr} {d : Nat}, Tr.Wf d t → ((atT kE nE q t).1 = 0 ↔ (Tr.get? q t).isSome) ∧ (∀ p, Tr.get? q t = some p → (atT kE nE q t).2 = p)
  | [], t, d, _ => ⟨⟨fun _ => rfl, fun _ => rfl⟩, fun p h => by cases h; rfl⟩
  | n :: r, t, d, hw => by
    rw [atT, Tr.get?]
    cases hd : t.dir with
    | false =>
      have : t.kid? n = none := by rw [Tr.kid?, Tr.wf_file hw hd]; rfl
      rw [this]
      exact ⟨⟨fun h => absurd h hk, fun h => by cases h⟩, fun p h => by cases h⟩
    | true =>
      rw [if_pos rfl]
      cases hkd : t.kid? n with
      | none => exact ⟨⟨fun h => absurd h hn, fun h => by cases h⟩, fun p h => by cases h⟩
      | some k =>
        obtain ⟨e, _, he⟩ := Tr.wf_kid hw (Tr.kid_mem hkd)
        exact atT_get hk hn he
/-- a kid of a name, as the document looks for it: an entry of that path, right in the directory -/
theorem kid_entry {t p : Tr} {L : List En} {d : Nat} {q : List (List UInt8)} (hR : Rel t L) (hw : Tr.Wf d t) (hq : q.all isName = true) (lq : q.length ≤ 6) (hg : Tr.get? q t = some p) {n : List UInt8} (hn : isName n = true) {y : En} :
    (y ∈ kidsD L (joinP q) ∧ y.path = joinP (q ++ [n])) ↔ ∃ k, p.kid? n = some k ∧ y = entOf q (n, k) := by
  have hperm := sortT_perm hR hw hq lq hg
  obtain ⟨e, he⟩ := wf_get hw hg
  have hr := Tr.wf_rising he
  rw [hperm.mem_iff, sortT, List.mem_map]
  constructor
  · rintro ⟨⟨⟨m, k⟩, hk, rfl⟩, hp⟩
    have hm : m = n := by
      have hb := bl_irrefl (joinP (q ++ [m]))
      have h1 : joinP (q ++ [m]) = joinP (q ++ [n]) := hp
      have h2 : Op.bytesLess m n = false := by rw [← bl_join q, h1]; exact bl_irrefl _
      have h3 : Op.bytesLess n m = false := by rw [← bl_join q, h1]; exact bl_irrefl _
      by_cases h4 : m = n
      · exact h4
      · have := bl_total h4 h2
        rw [h3] at this; cases this
    subst hm
    exact ⟨k, (Tr.kid_iff hr).2 hk, rfl⟩
  · rintro ⟨k, hk, rfl⟩
    exact ⟨⟨(n, k), Tr.kid_mem hk, rfl⟩, rfl⟩
/-- no kid has a name that is none -/
theorem kid_name {t k : Tr} {d : Nat} {n : List UInt8} (hw : Tr.Wf d t) (h : t.kid? n = some k) : isName n = true := by
  cases d with
  | zero => have := Tr.kid_mem h; rw [hw.1] at this; cases this
  | succ d => exact (hw.2.2.2.2.2 _ (Tr.kid_mem h)).1
theorem get_names : ∀ {q : List (List UInt8)} {t p : Tr} {d : Nat}, Tr.Wf d t → Tr.get? q t = some p → q.all isName = true ∧ q.length ≤ d
  | [], _, _, _, _, _ => ⟨rfl, Nat.zero_le _⟩
  | n :: q, t, p, d, hw, h => by
    rw [Tr.get?] at h
    cases hk : t.kid? n with
    | none => rw [hk] at h; cases h
    | some k =>
      rw [hk] at h
      obtain ⟨e, rfl, he⟩ := Tr.wf_kid hw (Tr.kid_mem hk)
      obtain ⟨a, b⟩ := get_names he h
      refine ⟨?_, by simp only [List.length_cons]; omega⟩
      rw [List.all_cons, kid_name hw hk, a]; rfl
end Go.Proofs.YtjmllpgmbaoebaaDoor
namespace Go.Proofs.YtjmllpgmbaoebaaDoor
open Go.RowKit Go.SL

theorem rising_ext {a b : List (List UInt8)} (ha : Rising a) (hb : Rising b) (h : ∀ n, n ∈ a ↔ n ∈ b) : a = b := by
  have hp : a.Perm b := (List.perm_ext_iff_of_nodup (nodup_rising ha) (nodup_rising hb)).2 h
  have pa : a.Pairwise fun x y => Op.bytesLess x y = true := List.pairwise_iff_getElem.2 fun i j _ hj hij => ha.of hij hj
  have pb : b.Pairwise fun x y => Op.bytesLess x y = true := List.pairwise_iff_getElem.2 fun i j _ hj hij => hb.of hij hj
  refine hp.eq_of_pairwise (fun x y _ _ h1 h2 => ?_) pa pb
  rw [bl_asymm h1] at h2; cases h2
theorem tr_ext : ∀ {d : Nat} {t s : Tr}, Tr.Wf d t → Tr.Wf d s → (∀ q, Tr.look? q t = Tr.look? q s) → t = s
  | 0, .nd a b c, .nd a' b' c', ht, hs, h => by
    have h0 := h []
    simp only [Tr.look_nil, Tr.dir, Tr.data, Option.some.injEq, Prod.mk.injEq] at h0
    have e1 : c = [] := ht.1
    have e2 : c' = [] := hs.1
    rw [e1, e2, h0.1, h0.2]
  | d + 1, t, s, ht, hs, h => by
    have h0 := h []
    simp only [Tr.look_nil, Option.some.injEq, Prod.mk.injEq] at h0
    have rt := Tr.wf_rising ht
    have rs := Tr.wf_rising hs
    have some_kid : ∀ {u : Tr} {n : List UInt8}, (Tr.look? [n] u).isSome = (u.kid? n).isSome := fun {u n} => by
      rw [Tr.look_cons]
      cases u.kid? n <;> rfl
    have hmem : ∀ {u : Tr} {n : List UInt8}, n ∈ u.names ↔ (u.kid? n).isSome = true := fun {u n} => by
      have : n ∈ u.names ↔ isIn u.names n = true := by rw [isIn, List.contains_iff_mem]
      rw [this]
      cases hk : u.kid? n with
      | none => rw [Tr.kid_none.1 hk]; simp
      | some k =>
        cases hi : isIn u.names n with
        | true => simp
        | false => rw [Tr.kid_none.2 hi] at hk; cases hk
    have hn : t.names = s.names := rising_ext rt rs fun n => by
      rw [hmem, hmem, ← some_kid, ← some_kid, h [n]]
    have hlen : t.kids.length = s.kids.length := by
      have := congrArg List.length hn
      simpa [Tr.names] using this
    have hk : t.kids = s.kids := by
      refine List.ext_getElem hlen fun i h1 h2 => ?_
      have e1 : t.kids[i].1 = s.kids[i].1 := by
        have : t.names[i]'(by simpa [Tr.names] using h1) = s.names[i]'(by simpa [Tr.names] using h2) := by simp only [hn]
        simpa [Tr.names] using this
      have k1 := Tr.kid_at rt h1
      have k2 := Tr.kid_at rs h2
      rw [← e1] at k2
      have e2 : t.kids[i].2 = s.kids[i].2 := by
        refine tr_ext (ht.2.2.2.2.2 _ (List.getElem_mem h1)).2 (hs.2.2.2.2.2 _ (List.getElem_mem h2)).2 fun q => ?_
        have := h (t.kids[i].1 :: q)
        rw [Tr.look_cons, Tr.look_cons, k1, k2] at this
        exact this
      exact Prod.ext e1 e2
    obtain ⟨a, b, c⟩ := t
    obtain ⟨a', b', c'⟩ := s
    have hk' : c = c' := hk
    have ha : a = a' := h0.1
    have hb : b = b' := h0.2
    rw [ha, hb, hk']
/-- who is among all entries -/
theorem entT_mem : ∀ {d : Nat} {q : List (List UInt8)} {t : Tr}, Tr.Wf d t → ∀ {y : En}, y ∈ entT d q t ↔ ∃ s k, s ≠ [] ∧ Tr.get? s t = some k ∧ y = ⟨joinP (q ++ s), k.dir, k.data⟩
  | 0, q, t, h, y => by
    constructor
    · intro h1; cases h1
    · rintro ⟨s, k, hs, hg, _⟩
      rcases s with _ | ⟨n, r⟩
      · exact absurd rfl hs
      · rw [Tr.get?, Tr.kid?, h.1] at hg; cases hg
  | d + 1, q, t, h, y => by
    have hr := Tr.wf_rising h
    rw [entT, List.mem_flatMap]
    constructor
    · rintro ⟨⟨n, k⟩, hk, hy⟩
      have hkk := (Tr.kid_iff hr).2 hk
      rcases List.mem_cons.1 hy with rfl | hy
      · refine ⟨[n], k, by simp, ?_, rfl⟩
        rw [Tr.get?, hkk]; rfl
      · obtain ⟨s, p, _, hg, rfl⟩ := (entT_mem (h.2.2.2.2.2 _ hk).2).1 hy
        refine ⟨n :: s, p, by simp, ?_, ?_⟩
        · rw [Tr.get?, hkk]; exact hg
        · rw [List.append_assoc]; rfl
    · rintro ⟨s, p, hs, hg, rfl⟩
      rcases s with _ | ⟨n, r⟩
      · exact absurd rfl hs
      · rw [Tr.get?] at hg
        cases hk : t.kid? n with
        | none => rw [hk] at hg; cases hg
        | some k =>
          rw [hk] at hg
          refine ⟨(n, k), Tr.kid_mem hk, ?_⟩
          by_cases hr0 : r = []
          · subst hr0
            cases hg
            exact List.mem_cons.2 (.inl rfl)
          · refine List.mem_cons.2 (.inr ((entT_mem (h.2.2.2.2.2 _ (Tr.kid_mem hk)).2).2 ⟨r, p, hr0, hg, ?_⟩))
            rw [List.append_assoc]; rfl
end Go.Proofs.YtjmllpgmbaoebaaDoor
namespace Go.Proofs.YtjmllpgmbaoebaaDoor
open Go.RowKit Go.SL

/-- the names of all entries -/
def entS : Nat → List (List UInt8) → Tr → List (List (List UInt8))
  | 0, _, _ => []
  | d + 1, q, t => t.kids.flatMap fun k => (q ++ [k.1]) :: entS d (q ++ [k.1]) k.2
theorem entS_path : ∀ {d : Nat} {q : List (List UInt8)} {t : Tr}, (entT d q t).map En.path = (entS d q t).map joinP
  | 0, _, _ => rfl
  | d + 1, q, t => by
    rw [entT, entS, List.map_flatMap, List.map_flatMap]
    congr 1
    funext k
    rw [List.map_cons, List.map_cons, entS_path]; rfl
theorem entS_pre : ∀ {d : Nat} {q s : List (List UInt8)} {t : Tr}, s ∈ entS d q t → ∃ n r, s = q ++ n :: r ∧ n ∈ t.names
  | 0, _, _, _, h => by cases h
  | d + 1, q, s, t, h => by
    rw [entS, List.mem_flatMap] at h
    obtain ⟨k, hk, h⟩ := h
    have hn : k.1 ∈ t.names := List.mem_map.2 ⟨k, hk, rfl⟩
    rcases List.mem_cons.1 h with rfl | h
    · exact ⟨k.1, [], rfl, hn⟩
    · obtain ⟨n, r, rfl, _⟩ := entS_pre h
      exact ⟨k.1, n :: r, by rw [List.append_assoc]; rfl, hn⟩
theorem entS_nodup : ∀ {d : Nat} {q : List (List UInt8)} {t : Tr}, Tr.Wf d t → (entS d q t).Nodup
  | 0, _, _, _ => List.nodup_nil
  | d + 1, q, t, h => by
    have hr := nodup_rising (Tr.wf_rising h)
    rw [entS]
    refine List.pairwise_flatMap.2 ⟨fun k hk => ?_, ?_⟩
    · refine List.nodup_cons.2 ⟨fun hm => ?_, entS_nodup (h.2.2.2.2.2 k hk).2⟩
      obtain ⟨n, r, e, _⟩ := entS_pre hm
      have := congrArg List.length e
      simp at this
    · refine (List.pairwise_map.1 hr).imp fun {a b} hab x hx y hy e => ?_
      have pre : ∀ {k : List UInt8 × Tr} {x : List (List UInt8)}, x ∈ (q ++ [k.1]) :: entS d (q ++ [k.1]) k.2 → ∃ r, x = q ++ k.1 :: r := fun {k x} hx => by
        rcases List.mem_cons.1 hx with rfl | hx
        · exact ⟨[], rfl⟩
        · obtain ⟨n, r, rfl, _⟩ := entS_pre hx
          exact ⟨n :: r, by rw [List.append_assoc]; rfl⟩
      obtain ⟨r1, e1⟩ := pre hx
      obtain ⟨r2, e2⟩ := pre hy
      rw [e1, e2] at e
      have := List.append_cancel_left e
      exact hab (List.cons.inj this).1
/-- each entry's directory stands ahead of it -/
def Ahead (base : List UInt8) (l : List En) : Prop := ∀ A x B, l = A ++ x :: B → parP x.path = base ∨ ∃ y ∈ A, y.path = parP x.path ∧ y.dir = true
theorem Ahead.nil (b : List UInt8) : Ahead b [] := fun A x B h => by cases A <;> cases h
theorem Ahead.append {b : List UInt8} {l m : List En} (h1 : Ahead b l) (h2 : Ahead b m) : Ahead b (l ++ m) := by
  intro A x B h
  rcases List.append_eq_append_iff.1 h with ⟨C, e1, e2⟩ | ⟨C, e1, e2⟩
  · rcases h2 C x B e2 with h3 | ⟨y, hy, h4⟩
    · exact .inl h3
    · exact .inr ⟨y, by rw [e1]; simp [hy], h4⟩
  · cases C with
    | nil =>
      rw [List.nil_append] at e2
      rcases h2 [] x B (by rw [← e2]; rfl) with h3 | ⟨y, hy, _⟩
      · exact .inl h3
      · cases hy
    | cons c C =>
      rw [List.cons_append] at e2
      obtain ⟨rfl, _⟩ := List.cons.inj e2
      exact h1 A x C e1
theorem Ahead.flat {b : List UInt8} {α : Type} {f : α → List En} : ∀ {l : List α}, (∀ a ∈ l, Ahead b (f a)) → Ahead b (l.flatMap f)
  | [], _ => Ahead.nil b
  | a :: l, h => by
    rw [List.flatMap_cons]
    exact (h a (by simp)).append (Ahead.flat fun c hc => h c (by simp [hc]))
theorem entT_ahead : ∀ {d : Nat} {q : List (List UInt8)} {t : Tr}, Tr.Wf d t → Ahead (joinP q) (entT d q t)
  | 0, q, t, _ => Ahead.nil _
  | d + 1, q, t, h => by
    rw [entT]
    refine Ahead.flat fun k hk => ?_
    have hn := (h.2.2.2.2.2 k hk).1
    have hwk := (h.2.2.2.2.2 k hk).2
    have ih := entT_ahead (q := q ++ [k.1]) hwk
    intro A x B e
    cases A with
    | nil =>
      rw [List.nil_append] at e
      obtain ⟨rfl, _⟩ := List.cons.inj e
      exact .inl (parP_join hn)
    | cons a A =>
      rw [List.cons_append] at e
      obtain ⟨rfl, e2⟩ := List.cons.inj e
      rcases ih A x B e2 with h3 | ⟨y, hy, h4⟩
      · refine .inr ⟨entOf q k, by simp, h3.symm, ?_⟩
        cases hd : k.2.dir with
        | true => exact hd
        | false =>
          have := entT_file (d := d) (q := q ++ [k.1]) (Tr.wf_file hwk hd)
          rw [this] at e2
          cases A <;> cases e2
      · exact .inr ⟨y, by simp [hy], h4⟩
end Go.Proofs.YtjmllpgmbaoebaaDoor
namespace Go.Proofs.YtjmllpgmbaoebaaDoor
open Go.RowKit Go.SL

theorem all_mem {t : Tr} {L : List En} (h : Good t L) {y : En} : y ∈ entT 6 [] t ↔ y ∈ L := by
  obtain ⟨⟨r1, r2, r3⟩, hw, hd, hb⟩ := h
  rw [entT_mem hw]
  constructor
  · rintro ⟨s, k, hs, hg, rfl⟩
    obtain ⟨x, hx, e1, e2, e3⟩ := (r3 s hs k.dir k.data).1 (by rw [Tr.look?, hg]; rfl)
    have hp := (split_names (r1 x hx).1).2.2.1
    rw [e1] at hp
    obtain ⟨xp, xd, xb⟩ := x
    simp only at e2 e3 hp
    rw [List.nil_append, hp, ← e2, ← e3]
    exact hx
  · intro hy
    obtain ⟨_, _, c, e⟩ := split_names (r1 y hy).1
    have hne : splitL y.path ≠ [] := fun h => (r1 y hy).2 (e.1 h)
    have hl := (r3 _ hne y.dir y.data).2 ⟨y, hy, rfl, rfl, rfl⟩
    rw [Tr.look?] at hl
    cases hg : Tr.get? (splitL y.path) t with
    | none => rw [hg] at hl; cases hl
    | some k =>
      rw [hg] at hl
      simp only [Option.map_some, Option.some.injEq, Prod.mk.injEq] at hl
      exact ⟨splitL y.path, k, hne, hg, by rw [List.nil_append, c, hl.1, hl.2]⟩
theorem entS_names : ∀ {d : Nat} {q s : List (List UInt8)} {t : Tr}, Tr.Wf d t → s ∈ entS d q t → ∃ r, s = q ++ r ∧ r.all isName = true ∧ r.length ≤ d
  | 0, _, _, _, _, h => by cases h
  | d + 1, q, s, t, hw, h => by
    rw [entS, List.mem_flatMap] at h
    obtain ⟨k, hk, h⟩ := h
    obtain ⟨hn, hwk⟩ := hw.2.2.2.2.2 k hk
    rcases List.mem_cons.1 h with rfl | h
    · exact ⟨[k.1], rfl, by simpa using hn, by simp⟩
    · obtain ⟨r, rfl, a, b⟩ := entS_names hwk h
      exact ⟨k.1 :: r, by rw [List.append_assoc]; rfl, by rw [List.all_cons, hn, a]; rfl, by simp only [List.length_cons]; omega⟩
theorem all_nodup {t : Tr} (hw : Tr.Wf 6 t) : ((entT 6 [] t).map En.path).Nodup := by
  rw [entS_path]
  refine List.pairwise_map.2 ((List.Pairwise.and_mem.1 (entS_nodup (q := []) hw)).imp fun {a b} h e => ?_)
  obtain ⟨r1, e1, a1, b1⟩ := entS_names hw h.1
  obtain ⟨r2, e2, a2, b2⟩ := entS_names hw h.2.1
  rw [List.nil_append] at e1 e2
  subst e1 e2
  exact h.2.2 (joinP_inj a1 a2 b1 b2 e)
theorem all_perm {t : Tr} {L : List En} (h : Good t L) : (entT 6 [] t).Perm L := by
  have n1 : (entT 6 [] t).Nodup := (List.pairwise_map.1 (all_nodup h.2.1)).imp fun h e => h (by rw [e])
  have n2 : L.Nodup := (List.pairwise_map.1 h.1.2.1).imp fun h e => h (by rw [e])
  exact (List.perm_ext_iff_of_nodup n1 n2).2 fun y => all_mem h
theorem go_all {t : Tr} {L : List En} (h : Good t L) : ∀ {B A : List En} {u : Tr}, entT 6 [] t = A ++ B → Good u A → (goT u B).1 = 0
  | [], _, _, _, _ => rfl
  | x :: B, A, u, e, hu => by
    have hx : x ∈ L := (all_mem h).1 (by rw [e]; simp)
    obtain ⟨s1, s2⟩ := h.1.1 x hx
    have hnd := all_nodup h.2.1
    rw [e, List.map_append, List.nodup_append] at hnd
    have hah := entT_ahead (q := []) h.2.1 A x B e
    obtain ⟨s, k, hs, hg, hxk⟩ := (entT_mem h.2.1).1 ((all_mem h).2 hx)
    obtain ⟨d', hwk⟩ := wf_get h.2.1 hg
    obtain ⟨a, b, c, e0⟩ := split_names s1
    obtain ⟨r, n, hr⟩ := snoc_of_ne (fun h4 => s2 (e0.1 h4) : splitL x.path ≠ [])
    rw [hr] at a b c
    rw [List.all_append, Bool.and_eq_true] at a
    have hn : isName n = true := by simpa using a.2
    have lr : r.length ≤ 6 := by simp at b; omega
    have hpar : parP x.path = joinP r := by rw [← c, parP_join hn]
    have hE : addE A x = 0 := by
      rw [addE, if_neg (by simpa using s1), if_neg, if_neg]
      · have hsz := (Tr.wf_size hwk).1
        have hd8 : x.data.length ≤ 8192 := by rw [hxk]; exact hsz
        -- the directory of x, in the tree
        have hl : Tr.look? (r ++ [n]) t = some (x.dir, x.data) := (h.1.2.2 _ (by simp) _ _).2 ⟨x, hx, hr, rfl, rfl⟩
        have hgr : ∃ p, Tr.get? r t = some p := by
          cases hgp : Tr.get? r t with
          | some p => exact ⟨p, rfl⟩
          | none => rw [Tr.look?, get_append, hgp] at hl; cases hl
        obtain ⟨p, hp⟩ := hgr
        obtain ⟨d2, hwp⟩ := wf_get h.2.1 hp
        have h6 := (Tr.wf_size hwp).2
        have hkc := kids_count h.1 h.2.1 a.1 lr hp
        have hpm := ((all_perm h).filter fun y => parP y.path == joinP r).length_eq
        have hsub : (kidsD (A ++ [x]) (joinP r)).length ≤ (kidsD (entT 6 [] t) (joinP r)).length := by
          rw [e, show A ++ x :: B = (A ++ [x]) ++ B by simp]
          exact (List.Sublist.filter _ (List.sublist_append_left _ _)).length_le
        have hone : (kidsD (A ++ [x]) (joinP r)).length = (kidsD A (joinP r)).length + 1 := by
          rw [kidsD, List.filter_append, List.length_append, ← kidsD]
          congr 1
          simp [hpar]
        have hk2 : (kidsD (entT 6 [] t) (joinP r)).length = p.kids.length := by rw [← hkc]; exact hpm
        rw [hpar]
        omega
      · rintro (h1 | ⟨h1, h2⟩ | h1 | h1)
        · exact s2 h1
        · refine h2 ?_
          rw [hxk] at h1 ⊢
          exact Tr.wf_data hwk h1
        · rw [hasD, List.any_eq_true] at h1
          obtain ⟨y, hy, hyp⟩ := h1
          exact hnd.2.2 y.path (List.mem_map.2 ⟨y, hy, rfl⟩) x.path (by simp) (beq_iff_eq.1 hyp)
        · rcases hah with h2 | ⟨y, hy, h2, h3⟩
          · have h4 : parP x.path = [] := h2
            rw [dirD, h4] at h1
            cases h1
          · have : dirD A (parP x.path) = true := by
              rw [dirD, Bool.or_eq_true, List.any_eq_true]
              exact .inr ⟨y, hy, by rw [h2, h3]; simp⟩
            rw [this] at h1; cases h1
    have hT : (addT u x).1 = 0 := by rw [add_err hu.1 hu.2.1 hu.2.2.1, hE]
    rw [goT, if_pos hT]
    exact go_all h (by rw [e]; simp) (add_good hu hT)
/-- what is built of a tree's entries is that tree -/
theorem build_entries {t : Tr} {L : List En} (h : Good t L) (hl : L.length ≤ 64) : buildT (entT 6 [] t) = (0, t) := by
  have hlen := (all_perm h).length_eq
  have h0 : (goT root (entT 6 [] t)).1 = 0 := go_all h (A := []) rfl good_root
  obtain ⟨_, h2⟩ := go_same (r := entT 6 [] t) good_root
  obtain ⟨g1, g2⟩ := h2 h0
  rw [g2, List.nil_append] at g1
  have ht : (goT root (entT 6 [] t)).2 = t := by
    refine tr_ext g1.2.1 h.2.1 fun q => ?_
    by_cases hq : q = []
    · subst hq
      rw [Tr.look_nil, Tr.look_nil, g1.2.2.1, g1.2.2.2, h.2.2.1, h.2.2.2]
    · have key : ∀ d b, Tr.look? q (goT root (entT 6 [] t)).2 = some (d, b) ↔ Tr.look? q t = some (d, b) := fun d b => by
        rw [g1.1.2.2 q hq, h.1.2.2 q hq]
        constructor
        · rintro ⟨x, hx, h3⟩; exact ⟨x, (all_mem h).1 hx, h3⟩
        · rintro ⟨x, hx, h3⟩; exact ⟨x, (all_mem h).2 hx, h3⟩
      cases h3 : Tr.look? q t with
      | some v => obtain ⟨d, b⟩ := v; exact (key d b).2 h3
      | none =>
        cases h4 : Tr.look? q (goT root (entT 6 [] t)).2 with
        | none => rfl
        | some v => obtain ⟨d, b⟩ := v; rw [(key d b).1 h4] at h3; cases h3
  rw [buildT, if_neg (by omega)]
  exact Prod.ext h0 ht
end Go.Proofs.YtjmllpgmbaoebaaDoor
namespace Go.Proofs.YtjmllpgmbaoebaaDoor
open Go.RowKit Go.SL

/-- a kid's cells: its name, and the node: is it a directory, its data, the slice of its kids -/
def kC (k : List UInt8 × Tr) (v : Value) : List Value := [.string ⟨k.1.toArray⟩, .bool k.2.dir, .string ⟨k.2.data.toArray⟩, v]
def kCs (ks : List (List UInt8 × Tr)) (vs : List Value) : List Value := (List.zip ks vs).flatMap fun p => kC p.1 p.2
theorem kC_len (k : List UInt8 × Tr) (v : Value) : (kC k v).length = 4 := rfl
theorem kCs_len {ks : List (List UInt8 × Tr)} {vs : List Value} (h : vs.length = ks.length) : (kCs ks vs).length = ks.length * 4 := by
  rw [kCs, flatMap_len (fun p : (List UInt8 × Tr) × Value => kC p.1 p.2) 4 (fun _ => rfl), List.length_zip, h, Nat.min_self]
theorem kCs_nil : kCs [] [] = [] := rfl
theorem kCs_app {a b : List (List UInt8 × Tr)} {u v : List Value} (h : u.length = a.length) : kCs (a ++ b) (u ++ v) = kCs a u ++ kCs b v := by
  rw [kCs, List.zip_append h.symm, List.flatMap_append]; rfl
theorem kCs_cons (k : List UInt8 × Tr) (v : Value) (ks : List (List UInt8 × Tr)) (vs : List Value) : kCs (k :: ks) (v :: vs) = kC k v ++ kCs ks vs := rfl
theorem kCs_at {ks : List (List UInt8 × Tr)} {vs : List Value} (h : vs.length = ks.length) {i : Nat} (hi : i < ks.length) {j : Nat} {u : Value} (hu : (kC ks[i] (vs[i]'(by omega)))[j]? = some u) : (kCs ks vs)[i * 4 + j]? = some u :=
  flatMap_at (fun p : (List UInt8 × Tr) × Value => kC p.1 p.2) 4 (fun _ => rfl) _ i j (ks[i], vs[i]'(by omega)) u (by rw [List.getElem?_eq_getElem (by rw [List.length_zip]; omega)]; simp) hu
theorem kCs_take {ks : List (List UInt8 × Tr)} {vs : List Value} (h : vs.length = ks.length) (i : Nat) : (kCs ks vs).take (i * 4) = kCs (ks.take i) (vs.take i) := by
  by_cases hi : i ≤ ks.length
  · have hl : (kCs (ks.take i) (vs.take i)).length = i * 4 := by rw [kCs_len (by rw [List.length_take, List.length_take]; omega), List.length_take, Nat.min_eq_left hi]
    conv => lhs; rw [← List.take_append_drop i ks, ← List.take_append_drop i vs]
    rw [kCs_app (by rw [List.length_take, List.length_take]; omega), List.take_left' hl]
  · rw [List.take_of_length_le (by rw [kCs_len h]; omega), List.take_of_length_le (l := ks) (by omega), List.take_of_length_le (l := vs) (by omega)]
theorem kCs_drop {ks : List (List UInt8 × Tr)} {vs : List Value} (h : vs.length = ks.length) {i : Nat} (hi : i ≤ ks.length) : (kCs ks vs).drop (i * 4) = kCs (ks.drop i) (vs.drop i) := by
  have hl : (kCs (ks.take i) (vs.take i)).length = i * 4 := by rw [kCs_len (by rw [List.length_take, List.length_take]; omega), List.length_take, Nat.min_eq_left hi]
  conv => lhs; rw [← List.take_append_drop i ks, ← List.take_append_drop i vs]
  rw [kCs_app (by rw [List.length_take, List.length_take]; omega), List.drop_left' hl]

/-- what the list knows of memory: at this slice lie these kids, and all that is below them -/
inductive KidsAt (l : List HProp) : Value → List (List UInt8 × Tr) → Prop
  | mk (ao : Option Addr) (c : Nat) (ks : List (List UInt8 × Tr)) (vs : List Value) (hc : ks.length ≤ c) (hl : vs.length = ks.length) (hr : Knows l (reads (.slice ao ks.length c) ks.length (kCs ks vs)))
      (hk : ∀ (i : Nat) (h : i < ks.length) (h' : i < vs.length), KidsAt l vs[i] ks[i].2.kids) : KidsAt l (.slice ao ks.length c) ks
theorem KidsAt.mono {l m : List HProp} (h : ∀ p : World → Prop, Knows l p → Knows m p) {v : Value} {ks : List (List UInt8 × Tr)} (hk : KidsAt l v ks) : KidsAt m v ks := by
  induction hk with
  | mk ao c ks vs hc hl hr _ ih => exact .mk ao c ks vs hc hl (h _ hr) ih
theorem KidsAt.suf {l m : List HProp} {v : Value} {ks : List (List UInt8 × Tr)} (hk : KidsAt l v ks) (h : l <:+ m) : KidsAt m v ks := hk.mono fun _ hp => hp.suf h
theorem KidsAt.app {l : List HProp} {v : Value} {ks : List (List UInt8 × Tr)} (m : List HProp) (hk : KidsAt l v ks) : KidsAt (m ++ l) v ks := hk.suf (List.suffix_append m l)
theorem KidsAt.nil (l : List HProp) : KidsAt l (.slice none 0 0) [] := .mk none 0 [] [] (Nat.le_refl _) rfl (fun _ _ => reads_nil 0 0 rfl _) (fun i h => absurd h (by simp))
theorem KidsAt.slice {l : List HProp} {v : Value} {ks : List (List UInt8 × Tr)} (hk : KidsAt l v ks) : ∃ ao c, v = .slice ao ks.length c := by cases hk; exact ⟨_, _, rfl⟩
/-- a slice of kids, opened -/
theorem KidsAt.open {l : List HProp} {v : Value} {ks : List (List UInt8 × Tr)} (hk : KidsAt l v ks) : ∃ (ao : Option Addr) (c : Nat) (vs : List Value), v = .slice ao ks.length c ∧ ks.length ≤ c ∧ vs.length = ks.length ∧ Knows l (reads (.slice ao ks.length c) ks.length (kCs ks vs)) ∧
    (∀ (i : Nat) (h : i < ks.length) (h' : i < vs.length), KidsAt l vs[i] ks[i].2.kids) ∧ ∀ u ∈ kCs ks vs, u.oneCell' = true := by
  cases hk with
  | mk ao c ks vs hc hl hr hk =>
    refine ⟨ao, c, vs, rfl, hc, hl, hr, hk, fun u hu => ?_⟩
    rw [kCs, List.mem_flatMap] at hu
    obtain ⟨⟨k, v⟩, hp, hu⟩ := hu
    obtain ⟨i, hi, e⟩ := List.getElem_of_mem hp
    rw [List.getElem_zip] at e
    cases e
    rw [List.length_zip] at hi
    obtain ⟨ao', c', hv⟩ := (hk i (by omega) (by omega)).slice
    simp only [kC, List.mem_cons, List.not_mem_nil, or_false] at hu
    rcases hu with rfl | rfl | rfl | rfl
    · rfl
    · rfl
    · rfl
    · rw [hv]; rfl
/-- where a kid lies -/
theorem kids_at {w : World} {ao : Option Addr} {c : Nat} {ks : List (List UInt8 × Tr)} {vs : List Value} (h : vs.length = ks.length) (hr : reads (.slice ao ks.length c) ks.length (kCs ks vs) w) {i : Nat} (hi : i < ks.length) :
    ∃ b off, ao = some ⟨b, off, none⟩ ∧ ∀ j v, (kC ks[i] (vs[i]'(by omega)))[j]? = some v → w.cell? ⟨b, off + i * 4 + j, none⟩ = some v := by
  obtain ⟨b, off, rfl, hc⟩ := reads_form hr (by omega) (by rw [kCs_len h]; omega)
  refine ⟨b, off, rfl, fun j v hv => ?_⟩
  rw [Nat.add_assoc]
  exact hc _ _ (kCs_at h hi hv)
/-- a node, as the program has it -/
def nodeV (t : Tr) (v : Value) : Value := .agg #[.bool t.dir, .string ⟨t.data.toArray⟩, v]
end Go.Proofs.YtjmllpgmbaoebaaDoor
namespace Go.SL
section
variable {P : Program} {ops : Array Oper} {rest : List Oper} {o : Oper} {a : Act} {Q : Exit → Act → World → Prop} {w : World} {l : List HProp}
theorem wpl_st1 (hE : Ent l w) (i : Nat) {b : Nat} {cs : List Value} {T : TypeId} (hi : l[i]? = some (pt b (.cells cs.toArray T (0, 0))))
    {t : TypeId} {x y : Operand} (ho : o.op = .store t x y) (hw : Region.wanted o (yielded ops a.tmps) = true) {off : Nat} (hx : a.eval x = .pointer (some ⟨b, off, none⟩)) {v : Value} (hy : a.eval y = v)
    (hn : ∀ w, (Go.sizeOf t).run P w = .ok 1 w) (hv : v.cells = #[v]) (h1 : v.oneCell' = true) (hfit : off < cs.length)
    (h : ∀ w', Ent (l.set i (pt b (.cells (cs.set off v).toArray T (0, 0)))) w' → wpList P ops Q rest (a.put o.dst undef) w') : wpList P ops Q (o :: rest) a w := by
  refine wpl_store hE i hi ho hw hx hy hn (by rw [hv]; rfl) (by rw [hv]; simpa using h1) (by simp; omega) fun w' hE' => h w' ?_
  have e : (cs.toArray.toList.take off ++ v.cells.toList ++ cs.toArray.toList.drop (off + v.cells.toList.length)).toArray = (cs.set off v).toArray := by
    rw [hv]
    simp only [List.toList_toArray, List.length_cons, List.length_nil, Nat.zero_add]
    rw [List.set_eq_take_append_cons_drop, if_pos hfit]
    simp
  rw [e] at hE'
  exact hE'
end
end Go.SL
namespace Go.Proofs.YtjmllpgmbaoebaaDoor
open Go.RowKit Go.SL

theorem cb_lt : ∀ (a b : List UInt8), Lib.compareBytes a b < 0 ↔ Op.bytesLess a b = true
  | [], [] => by simp [Lib.compareBytes, Op.bytesLess]
  | [], _ :: _ => by simp [Lib.compareBytes, Op.bytesLess]
  | _ :: _, [] => by simp [Lib.compareBytes, Op.bytesLess]
  | a :: as_, b :: bs => by
    have ih := cb_lt as_ bs
    unfold Lib.compareBytes
    rw [bl_cons]
    by_cases h1 : a < b
    · rw [if_pos h1]
      simp [UInt8.lt_iff_toNat_lt] at h1
      simp [h1]
    · rw [if_neg h1]
      have h1' : ¬ a.toNat < b.toNat := by rw [← UInt8.lt_iff_toNat_lt]; exact h1
      by_cases h2 : b < a
      · rw [if_pos h2]
        have hne : a ≠ b := fun e => by subst e; exact h1 h2
        simp [h1', hne]
      · rw [if_neg h2, ih]
        have h2' : ¬ b.toNat < a.toNat := by rw [← UInt8.lt_iff_toNat_lt]; exact h2
        have e : a = b := UInt8.toNat_inj.1 (by omega)
        simp [e]
theorem cb_eq : ∀ (a b : List UInt8), Lib.compareBytes a b = 0 ↔ a = b
  | [], [] => by simp [Lib.compareBytes]
  | [], _ :: _ => by simp [Lib.compareBytes]
  | _ :: _, [] => by simp [Lib.compareBytes]
  | a :: as_, b :: bs => by
    have ih := cb_eq as_ bs
    unfold Lib.compareBytes
    by_cases h1 : a < b
    · rw [if_pos h1]
      have hne : a ≠ b := fun e => by subst e; simp at h1
      simp [hne]
    · rw [if_neg h1]
      by_cases h2 : b < a
      · rw [if_pos h2]
        have hne : a ≠ b := fun e => by subst e; exact h1 h2
        simp [hne]
      · rw [if_neg h2, ih]
        have h1' : ¬ a.toNat < b.toNat := by rw [← UInt8.lt_iff_toNat_lt]; exact h1
        have h2' : ¬ b.toNat < a.toNat := by rw [← UInt8.lt_iff_toNat_lt]; exact h2
        have e : a = b := UInt8.toNat_inj.1 (by omega)
        simp [e]

set_option maxRecDepth 100000 in
theorem CompareString_any (a b : List UInt8) (w : World) : Calls Tryd.prog 69 #[.string ⟨a.toArray⟩, .string ⟨b.toArray⟩] w (fun e w' => e = .returned (.int .i64 (Lib.compareBytes a b)) ∧ w' = w) := by
  go_enter Tryd.func69, Tryd.ntmps69
  go_wp2
  rw [run_callFunc_extern Tryd.func78 (by kernel_rfl) (by kernel_rfl) (by kernel_rfl) (e := Extern.BytealgCompare.compare) (by kernel_rfl), Lib.run_compareString]
  simp only [Result.andThen]
  rw [Oper.upon_value]
  go_wp2
  go_ret
  exact ⟨rfl, rfl⟩
theorem Compare_any (a b : List UInt8) (w : World) : Calls Tryd.prog 55 #[.string ⟨a.toArray⟩, .string ⟨b.toArray⟩] w (fun e w' => e = .returned (.int .i64 (Lib.compareBytes a b)) ∧ w' = w) := by
  go_enter Tryd.func55, Tryd.ntmps55
  go_wp2_with (go_at_call 69; refine (CompareString_any a b _).mono ?_; rintro e w' ⟨rfl, rfl⟩)
  go_ret
  exact ⟨rfl, rfl⟩
theorem name_any (k : List UInt8 × Tr) (v : Value) {l : List HProp} {w : World} (hE : Ent l w) :
    Calls Tryd.prog 35 #[.agg (kC k v).toArray] w (Ret fun r w' => r = .string ⟨k.1.toArray⟩ ∧ Ent l w') := by
  go_enter Tryd.func35, Tryd.ntmps35
  go_wp2_with (first
    | go_skip
    | ((with_reducible (show Go.wpList _ _ _ (Go.Oper.mk _ (.box _ _) _ _ _ _ :: _) _ _)); refine wpl_box hE rfl rfl rfl ?_; clear hE; intro b1 w1 hE)
    | ((with_reducible (show Go.wpList _ _ _ (Go.Oper.mk _ (.load _ _) _ _ _ _ :: _) _ _)); refine wpl_load1 hE 0 rfl rfl rfl rfl (by simp [go_sem]) (v := .string ⟨k.1.toArray⟩) rfl ?_))
  go_ret
  exact ⟨_, rfl, rfl, hE.tail⟩
/-- the block of the closure: the function that names a kid -/
def ofB (b : Nat) : HProp := pt b (.cells #[.func (.func 35) #[] #[]] 71)
theorem cmp_any (k : List UInt8 × Tr) (v : Value) (nm : List UInt8) {b : Nat} {l : List HProp} {w : World} (hE : Ent (ofB b :: l) w) :
    Calls Tryd.prog 54 #[.agg (kC k v).toArray, .string ⟨nm.toArray⟩, .pointer (some ⟨b, 0, none⟩)] w (Ret fun r w' => r = .int .i64 (Lib.compareBytes k.1 nm) ∧ Ent (ofB b :: l) w') := by
  unfold ofB at *
  go_enter Tryd.func54, Tryd.ntmps54
  go_wp2_with (first
    | go_skip
    | ((with_reducible (show Go.wpList _ _ _ (Go.Oper.mk _ (.box _ _) _ _ _ _ :: _) _ _)); refine wpl_box hE rfl rfl rfl ?_; clear hE; intro b1 w1 hE)
    | ((with_reducible (show Go.wpList _ _ _ (Go.Oper.mk _ (.load _ (.tmp 2)) _ _ _ _ :: _) _ _)); refine wpl_load1 hE 1 rfl rfl rfl rfl (by simp [go_sem]) rfl ?_)
    | ((with_reducible (show Go.wpList _ _ _ (Go.Oper.mk _ (.load _ (.tmp 3)) _ _ _ _ :: _) _ _)); refine wpl_loadW (xs := kC k v) hE 0 rfl rfl rfl rfl Tryd.isAgg51 Tryd.sizeOf51 rfl ?_)
    | (go_at_call 35; refine (name_any k v hE).mono ?_; clear hE; rintro e w2 ⟨r, rfl, rfl, hE⟩)
    | (go_at_call 55; refine (Compare_any k.1 nm _).mono ?_; rintro e w' ⟨rfl, rfl⟩))
  go_ret
  exact ⟨_, rfl, rfl, hE.tail⟩

def BsRel (n p : Nat) (l : List HProp) (i j : Value) (wr : World) : Prop := ∃ lo hi : Nat, i = .int .i64 lo ∧ j = .int .i64 hi ∧ lo ≤ p ∧ p ≤ hi ∧ hi ≤ n ∧ Ent l wr
set_option maxRecDepth 100000 in
set_option maxHeartbeats 4000000 in
theorem search_any {ks : List (List UInt8 × Tr)} {vs : List Value} (hl : vs.length = ks.length) (hr : Rising (ks.map Prod.fst)) (hn : ks.length ≤ 1000000) (nm : List UInt8) {ao : Option Addr} {c b : Nat} {l : List HProp} {w : World} (hk : Knows l (reads (.slice ao ks.length c) ks.length (kCs ks vs))) (hE : Ent (ofB b :: l) w) :
    Calls Tryd.prog 53 #[.slice ao ks.length c, .string ⟨nm.toArray⟩, .func (.func 54) #[] #[.pointer (some ⟨b, 0, none⟩)]] w
      (Ret fun v w' => v = .tuple #[.int .i64 (placeOf (ks.map Prod.fst) nm), .bool (isIn (ks.map Prod.fst) nm)] ∧ Ent (ofB b :: l) w') := by
  obtain ⟨_, hp1, _, hp3⟩ := find_at hr nm
  have hp2 := fun i hi => Tr.place_lt hr (n := nm) i hi
  rw [List.length_map] at hp1
  simp only [List.length_map, List.getElem_map] at hp2 hp3
  have Hp3 := SL.hid hp3
  have Hp2 := SL.hid hp2
  clear hp2 hp3
  generalize placeOf (ks.map Prod.fst) nm = p at *
  generalize isIn (ks.map Prod.fst) nm = is at *
  go_enter Tryd.func53, Tryd.ntmps53
  go_wp2
  go_loopw [9, 10] (fun i j wr => BsRel ks.length p (ofB b :: l) i j wr) (fun i j _ => (intOf j).toNat - (intOf i).toNat)
  case atStart => exact ⟨0, ks.length, rfl, rfl, Nat.zero_le _, hp1, Nat.le_refl _, hE⟩
  case round =>
    clear hE
    obtain ⟨lo, hi, rfl, rfl, h1, h2, hin, hE⟩ := hrel
    by_cases hlt : lo < hi
    · have hm : (lo + hi) / 2 < ks.length := by omega
      obtain ⟨bb, off, rfl, hc⟩ := kids_at hl (hk _ hE.tail) hm
      have hcm := cmp_any ks[(lo + hi) / 2] (vs[(lo + hi) / 2]'(by omega)) nm hE
      have hlt2 := (cb_lt ks[(lo + hi) / 2].1 nm).trans (Hp2.out _ hm).symm
      by_cases hb : (lo + hi) / 2 < p
      · have hcn := hlt2.2 hb
        go_wp2_with (first
          | ((with_reducible (show Go.wpList _ _ _ (Go.Oper.mk _ (.load 51 _) _ _ _ _ :: _) _ _)); refine wpl_loadC rfl rfl rfl Tryd.isAgg51 Tryd.sizeOf51 (kC ks[(lo + hi) / 2] (vs[(lo + hi) / 2]'(by omega))) rfl (fun j v hv => by rw [Addr.add_lit]; exact hc j v hv) ?_)
          | (go_at_call 54; refine hcm.mono ?_; clear hcm; rintro e w' ⟨v, rfl, rfl, hE2⟩))
        go_roundw
        case rel => exact ⟨(lo + hi) / 2 + 1, hi, by rw [show ((lo : Int) + (hi : Int)) / 2 + 1 = (((lo + hi) / 2 + 1 : Nat) : Int) by omega], rfl, by omega, h2, hin, hE2⟩
        case measure => simp [intOf] <;> omega
      · have hcn : ¬ Lib.compareBytes ks[(lo + hi) / 2].1 nm < 0 := fun h => hb (hlt2.1 h)
        go_wp2_with (first
          | ((with_reducible (show Go.wpList _ _ _ (Go.Oper.mk _ (.load 51 _) _ _ _ _ :: _) _ _)); refine wpl_loadC rfl rfl rfl Tryd.isAgg51 Tryd.sizeOf51 (kC ks[(lo + hi) / 2] (vs[(lo + hi) / 2]'(by omega))) rfl (fun j v hv => by rw [Addr.add_lit]; exact hc j v hv) ?_)
          | (go_at_call 54; refine hcm.mono ?_; clear hcm; rintro e w' ⟨v, rfl, rfl, hE2⟩))
        go_roundw
        case rel => exact ⟨lo, (lo + hi) / 2, rfl, by rw [show ((lo : Int) + (hi : Int)) / 2 = (((lo + hi) / 2 : Nat) : Int) by omega], h1, by omega, by omega, hE2⟩
        case measure => simp [intOf] <;> omega
    · obtain rfl : lo = hi := by omega
      obtain rfl : lo = p := by omega
      clear h1 h2 hlt
      by_cases hn2 : lo < ks.length
      · obtain ⟨bb, off, rfl, hc⟩ := kids_at hl (hk _ hE.tail) hn2
        have hcm := cmp_any ks[lo] (vs[lo]'(by omega)) nm hE
        have hz := cb_eq ks[lo].1 nm
        have his : (Lib.compareBytes ks[lo].1 nm == 0) = is := by
          rw [Bool.eq_iff_iff, beq_iff_eq, hz, Hp3.out]
          exact ⟨fun h => ⟨hn2, h⟩, fun ⟨_, h⟩ => h⟩
        go_wp2_with (first
          | ((with_reducible (show Go.wpList _ _ _ (Go.Oper.mk _ (.load 51 _) _ _ _ _ :: _) _ _)); refine wpl_loadC rfl rfl rfl Tryd.isAgg51 Tryd.sizeOf51 (kC ks[lo] (vs[lo]'(by omega))) rfl (fun j v hv => by rw [Addr.add_lit]; exact hc j v hv) ?_)
          | (go_at_call 54; refine hcm.mono ?_; clear hcm; rintro e w' ⟨v, rfl, rfl, hE2⟩))
        go_ret2
        exact ⟨_, rfl, by first | rfl | simp, hE2⟩
      · have his : is = false := by
          rw [← Bool.not_eq_true, Hp3.out]
          rintro ⟨h, _⟩
          exact hn2 h
        go_wp2
        go_ret2
        exact ⟨_, rfl, by rw [his]; rfl, hE⟩
set_option maxRecDepth 100000 in
theorem find_any {l : List HProp} {v : Value} {ks : List (List UInt8 × Tr)} (hk : KidsAt l v ks) (hr : Rising (ks.map Prod.fst)) (hn : ks.length ≤ 1000000) (nm : List UInt8) {w : World} (hE : Ent l w) :
    Calls Tryd.prog 34 #[v, .string ⟨nm.toArray⟩, .func (.func 35) #[] #[]] w
      (Ret fun r w' => r = .tuple #[.int .i64 (placeOf (ks.map Prod.fst) nm), .bool (isIn (ks.map Prod.fst) nm)] ∧ Ent l w') := by
  obtain ⟨ao, c, vs, rfl, hc, hl, hkn, _, _⟩ := hk.open
  have hS := fun (b : Nat) (w : World) (h : Ent (ofB b :: l) w) => search_any hl hr hn nm (b := b) hkn h
  generalize placeOf (ks.map Prod.fst) nm = p at *
  generalize isIn (ks.map Prod.fst) nm = is at *
  go_enter Tryd.func34, Tryd.ntmps34
  go_wp2_with (first
    | go_skip
    | ((with_reducible (show Go.wpList _ _ _ (Go.Oper.mk _ (.box _ _) _ _ _ _ :: _) _ _)); refine wpl_box hE rfl rfl rfl ?_; clear hE; intro b1 w1 hE)
    | (go_at_call 53; refine (hS b1 _ hE).mono ?_; clear hS; rintro e w2 ⟨r, rfl, rfl, hE2⟩))
  go_ret2
  exact ⟨_, rfl, rfl, hE2.tail⟩
end Go.Proofs.YtjmllpgmbaoebaaDoor
namespace Go.Proofs.YtjmllpgmbaoebaaDoor
open Go.RowKit Go.SL

theorem wide_fn (f : FuncId) : Fence.wide.fn f = True := rfl
theorem wide_depth : Fence.wide.depth = none := rfl
attribute [local go_sem] Oper.semAt_some wide_fn wide_depth

/-- the iterator's own heap: what is left, the text between, how much of it is kept -/
def itSt (p : List UInt8) (bs bsep bsave : Nat) (pre : List (List UInt8)) : List HProp :=
  [pt bs (.cells #[.string ⟨(rst p pre).toArray⟩] 9), pt bsep (.cells #[.string ⟨#[47]⟩] 9), pt bsave (.cells #[.int .i64 0] 3)]
def strLeft (b : Nat) (w : World) : Nat := match w.cell? ⟨b, 0, none⟩ with
  | some (.string s) => s.size
  | _ => 0

theorem strLeft_eq {b : Nat} {w : World} {s : List UInt8} (h : w.cell? ⟨b, 0, none⟩ = some (.string ⟨s.toArray⟩)) : strLeft b w = s.length := by
  unfold strLeft
  rw [h]
  exact bytes_size s
theorem perm_rev3 {A B C : HProp} {l : List HProp} : (A :: B :: C :: l).Perm (C :: B :: A :: l) :=
  (List.Perm.swap B A (C :: l)).trans (((List.Perm.swap C A l).cons B).trans (List.Perm.swap C B (A :: l)))
set_option maxRecDepth 100000 in
theorem splitSeq_any (p : List UInt8) {l : List HProp} {w : World} (hE : Ent l w) :
    Calls Tryd.prog 58 #[.string ⟨p.toArray⟩, .string ⟨#[47]⟩, .int .i64 0] w (Ret fun v w' => ∃ bs bsep bsave, v = .func (.func 71) #[] #[.pointer (some ⟨bsep, 0, none⟩), .pointer (some ⟨bs, 0, none⟩), .pointer (some ⟨bsave, 0, none⟩)] ∧ Ent (itSt p bs bsep bsave [] ++ l) w') := by
  go_enter Tryd.func58, Tryd.ntmps58
  go_wp2_with (first
    | go_skip
    | ((with_reducible (show Go.wpList _ _ _ (Go.Oper.mk _ (.box _ (.tmp 0)) _ _ _ _ :: _) _ _)); refine wpl_box hE rfl rfl rfl ?_; clear hE; intro b0 w hE1)
    | ((with_reducible (show Go.wpList _ _ _ (Go.Oper.mk _ (.box _ (.tmp 1)) _ _ _ _ :: _) _ _)); refine wpl_box hE1 rfl rfl rfl ?_; clear hE1; intro b1 w hE2)
    | ((with_reducible (show Go.wpList _ _ _ (Go.Oper.mk _ (.box _ (.tmp 2)) _ _ _ _ :: _) _ _)); refine wpl_box hE2 rfl rfl rfl ?_; clear hE2; intro b2 w hE3))
  go_ret
  refine ⟨_, rfl, b0, b1, b2, rfl, ?_⟩
  rw [itSt, rst_nil]
  exact hE3.perm perm_rev3
set_option maxRecDepth 100000 in
theorem SplitSeq_any (p : List UInt8) {l : List HProp} {w : World} (hE : Ent l w) :
    Calls Tryd.prog 43 #[.string ⟨p.toArray⟩, .string ⟨#[47]⟩] w (Ret fun v w' => ∃ bs bsep bsave, v = .func (.func 71) #[] #[.pointer (some ⟨bsep, 0, none⟩), .pointer (some ⟨bs, 0, none⟩), .pointer (some ⟨bsave, 0, none⟩)] ∧ Ent (itSt p bs bsep bsave [] ++ l) w') := by
  go_enter Tryd.func43, Tryd.ntmps43
  go_wp2_with (first
    | go_skip
    | (go_at_call 58; refine (splitSeq_any p hE).mono ?_; clear hE; rintro e w2 ⟨v, rfl, b0, b1, b2, rfl, hE2⟩))
  go_ret
  exact ⟨_, rfl, b0, b1, b2, rfl, hE2⟩

set_option maxRecDepth 100000 in
set_option maxHeartbeats 4000000 in
theorem split_iter (p : List UInt8) (hp : p.length ≤ 1099511627776) (bs bsep bsave : Nat) :
    SeqSL Tryd.prog 71 #[.pointer (some ⟨bsep, 0, none⟩), .pointer (some ⟨bs, 0, none⟩), .pointer (some ⟨bsave, 0, none⟩)] (fun x : List UInt8 => #[.string ⟨x.toArray⟩]) (cuts p) (itSt p bs bsep bsave) := by
  intro lp J Jx W hW hY
  refine callsIn_of_wp Tryd.func71 rfl trivial ?_ rfl
  simp only [Tryd.ntmps71, List.size_toArray, List.length_cons, List.length_nil, Nat.reduceAdd, Nat.reduceSub, Array.replicate_succ, Array.replicate_zero, List.push_toArray, List.append_toArray, List.nil_append, List.cons_append]
  have k1 := hW.cell 1 rfl 0
  have k0 := hW.cell 0 rfl 0
  have k2 := hW.cell 2 rfl 0
  simp only [List.getElem?_toArray, List.getElem?_cons_zero] at k0 k1 k2
  gi_wp2
  clear k0 k1 k2
  gi_loopw [7] (fun _ wr => ∃ pre, cuts p = pre ++ cuts (rst p pre) ∧ Ent (itSt p bs bsep bsave pre ++ J pre) wr) (fun _ wr => strLeft bs wr)
  case atStart => exact ⟨[], by rw [rst_nil]; rfl, hW⟩
  case round =>
    obtain ⟨pre, hc, hE⟩ := hrel
    have k0 : wr.cell? ⟨bs, 0, none⟩ = some (.string ⟨(rst p pre).toArray⟩) := hE.cell 0 rfl 0
    have k1 : wr.cell? ⟨bsep, 0, none⟩ = some (.string ⟨#[47]⟩) := hE.cell 1 rfl 0
    have k2 : wr.cell? ⟨bsave, 0, none⟩ = some (.int .i64 0) := hE.cell 2 rfl 0
    have hix := index_one ⟨(rst p pre).toArray⟩ 47 wr
    have hst := fun x (hk : x < (rst p pre).length) => rst_step p pre hk
    rcases idx_cuts (rst p pre) with ⟨hi, he⟩ | ⟨k, hk, hi, he⟩
    · have hpre : pre ++ [rst p pre] <+: cuts p := by rw [hc, he]; exact List.prefix_rfl
      have hJ := SL.hid (show cuts p = pre ++ [rst p pre] by rw [hc, he])
      obtain ⟨fn, tmps, assign, body, hy, hR⟩ := hY pre (rst p pre) wr hpre hE
      simp only [List.toList_toArray] at hix
      rw [hi] at hix
      clear hst hY hc hpre hi he
      gi_wp2_with (gi_at_call 73; refine (callsIn_wide.2 hix).mono ?_; rintro e w' ⟨rfl, rfl⟩)
      refine hR.mono ?_
      rintro e W3 (⟨rfl, hE3⟩ | ⟨rfl, hE3⟩)
      · gi_wp2
        go_end0
        exact ⟨⟨_, rfl⟩, .inl (by rw [hJ.out]; exact hE3.drop)⟩
      · gi_wp2
        go_end0
        exact ⟨⟨_, rfl⟩, .inr ⟨_, by rw [hJ.out]; exact List.prefix_rfl, hE3⟩⟩
    · have hpre : pre ++ [(rst p pre).take k] <+: cuts p := by rw [hc, he]; exact ⟨cuts ((rst p pre).drop (k + 1)), by simp⟩
      have hJ := SL.hid (show cuts p = (pre ++ [(rst p pre).take k]) ++ cuts (rst p (pre ++ [(rst p pre).take k])) by rw [hst k hk, hc, he]; simp)
      obtain ⟨fn, tmps, assign, body, hy, hR⟩ := hY pre ((rst p pre).take k) wr hpre hE
      simp only [List.toList_toArray] at hix
      rw [hi] at hix
      have hlen : (rst p pre).length ≤ 1099511627776 := by rw [rst, List.length_drop]; omega
      have hs1 := fun w => run_slice_sHi (P := Tryd.prog) Tryd.underlying9 (bs := rst p pre) (k := k) (by omega) w
      have hs2 := fun w => run_slice_sLo (P := Tryd.prog) Tryd.underlying9 (bs := rst p pre) (k := k + 1) (by omega) w
      have hw0 : wrap64 ((k : Int) + 1) = ((k + 1 : Nat) : Int) := by unfold wrap64; omega
      have hwk : wrap64 (k : Int) = (k : Int) := by unfold wrap64; omega
      have hex : (⟨(rst p pre).toArray⟩ : ByteArray).extract 0 k = ⟨((rst p pre).take k).toArray⟩ := by rw [extract_mk]; simp
      have hex2 : (⟨(rst p pre).toArray⟩ : ByteArray).extract (k + 1) (rst p pre).length = ⟨((rst p pre).drop (k + 1)).toArray⟩ := by rw [extract_mk, List.take_of_length_le (by simp)]
      have hkl : (k : Int) ≤ ((rst p pre).length : Int) := by omega
      have hkl1 : ((k + 1 : Nat) : Int) ≤ ((rst p pre).length : Int) := by omega
      have hkn : decide ((k : Int) < 0) = false := decide_eq_false (by omega)
      have hst2 := SL.hid (hst k hk)
      have hlt := SL.hid hk
      clear hst hY hc he hi hk
      gi_wp2_with (gi_at_call 73; refine (callsIn_wide.2 hix).mono ?_; rintro e w' ⟨rfl, rfl⟩)
      refine hR.mono ?_
      rintro e W3 (⟨rfl, hE3⟩ | ⟨rfl, hE3⟩)
      · have j0 : W3.cell? ⟨bs, 0, none⟩ = some (.string ⟨(rst p pre).toArray⟩) := hE3.cell 0 rfl 0
        have j1 : W3.cell? ⟨bsep, 0, none⟩ = some (.string ⟨#[47]⟩) := hE3.cell 1 rfl 0
        have jf : W3.frozen? ⟨bs, 0, none⟩ = false := hE3.frozen 0 rfl 0
        gi_wp2
        go_roundw
        case rel =>
          have h := hE3.setCell 0 rfl 0 (.string ⟨((rst p pre).drop (k + 1)).toArray⟩)
          refine ⟨_, hJ.out, ?_⟩
          rw [itSt, hst2.out]
          exact h
        case measure =>
          have h := hE3.setCell 0 rfl 0 (.string ⟨((rst p pre).drop (k + 1)).toArray⟩)
          rw [strLeft_eq k0, strLeft_eq (h.cell 0 rfl 0), List.length_drop]
          have := hlt.out
          omega
      · gi_wp2
        refine bodyPost_ret (results_none rfl _ _ _) rfl ?_
        exact ⟨⟨_, rfl⟩, .inr ⟨_, hJ.out ▸ List.prefix_append _ _, hE3⟩⟩
end Go.Proofs.YtjmllpgmbaoebaaDoor
namespace Go.SL
theorem results_2v {P : Program} {w : World} {fn : Func} {k j : Tmp} {t u : TypeId} (h : fn.results = #[.cell k t, .cell j u]) {tmps : Array Value} {b b2 : Nat} {v v2 : Value} (hp : tmps.getD k undef = .pointer (some ⟨b, 0, none⟩)) (hp2 : tmps.getD j undef = .pointer (some ⟨b2, 0, none⟩))
    (hA : ∀ w, (isAgg t).run P w = .ok false w) (hA2 : ∀ w, (isAgg u).run P w = .ok false w) (hc : w.cell? ⟨b, 0, none⟩ = some v) (hc2 : w.cell? ⟨b2, 0, none⟩ = some v2) : (results fn tmps).run P w = .ok (.tuple #[v, v2]) w := by
  have hp' : tmps[k]?.getD undef = .pointer (some ⟨b, 0, none⟩) := by simpa using hp
  have hp2' : tmps[j]?.getD undef = .pointer (some ⟨b2, 0, none⟩) := by simpa using hp2
  simp only [results, h]
  simp [hp', hp2', asAddr, loadVar, hA, hA2, hc, hc2]
end Go.SL
namespace Go.Proofs.YtjmllpgmbaoebaaDoor
open Go.RowKit Go.SL

attribute [local go_sem] Oper.semAt_some wide_fn wide_depth

def strv (s : List UInt8) : Value := .string ⟨s.toArray⟩
abbrev rowS (ao : Option Addr) (c : Nat) (xs : List (List UInt8)) : HProp := row 9 1 (.slice ao xs.length c) xs.length (xs.map strv)
theorem info_str : elemInfo Tryd.prog 9 = some (some 1, 1, 16) := by kernel_rfl

def spI (b2 b3 b4 : Nat) (l : List HProp) (pre : List (List UInt8)) : List HProp :=
  pt b2 (.cells #[.slice none 0 0] 23) :: pt b3 (.cells #[.int .i64 0] 29) :: (ex fun z : { _z : Option Addr × Nat // pre.all isName = true } => [pt b4 (.cells #[.slice z.1.1 pre.length z.1.2] 23), rowS z.1.1 z.1.2 pre]) :: l
def spX (b2 b3 : Nat) (l : List HProp) (c : Code) (pre : List (List UInt8)) : List HProp :=
  pt b2 (.cells #[.slice none 0 0] 23) :: pt b3 (.cells #[.int .i64 7] 29) :: (ex fun _ : c = .ret ∧ pre.all isName = false => []) :: l

set_option maxRecDepth 100000 in
set_option maxHeartbeats 4000000 in
theorem Split_some {p : List UInt8} (hp : p.length ≤ 1000000) (h0 : p ≠ []) {l : List HProp} {w : World} (hE : Ent l w) :
    Calls Tryd.prog 28 #[.string ⟨p.toArray⟩] w (Ret fun v w' => ∃ ao c, v = .tuple #[.slice ao (splitL p).length c, .int .i64 (splitE p)] ∧ Ent (rowS ao c (splitL p) :: l) w') := by
  have hne : (p == []) = false := by simpa using h0
  refine calls_of_marks Tryd.func28 rfl ?_
  simp only [Tryd.ntmps28, List.size_toArray, List.length_cons, List.length_nil, Nat.reduceAdd, Nat.reduceSub, Array.replicate_succ, Array.replicate_zero, List.push_toArray, List.append_toArray, List.nil_append, List.cons_append]
  go_wp2_with (first
    | go_skip
    | ((with_reducible (show Go.wpList _ _ _ (Go.Oper.mk _ (.alloc 23) _ _ _ _ :: _) _ _)); refine wpl_alloc hE rfl rfl (by simp [go_sem]; rfl) ?_; clear hE; intro b2 w hE1; simp only [Act.eval, Act.put, List.setIfInBounds_toArray, List.set_cons_zero, List.set_cons_succ, getD_lit, List.getD_cons_succ, List.getD_cons_zero, Value.cells] at hE1)
    | ((with_reducible (show Go.wpList _ _ _ (Go.Oper.mk _ (.alloc 29) _ _ _ _ :: _) _ _)); refine wpl_alloc hE1 rfl rfl (by simp [go_sem]; rfl) ?_; clear hE1; intro b3 w hE2; simp only [Act.eval, Act.put, List.setIfInBounds_toArray, List.set_cons_zero, List.set_cons_succ, getD_lit, List.getD_cons_succ, List.getD_cons_zero, Value.cells] at hE2)
    | ((with_reducible (show Go.wpList _ _ _ (Go.Oper.mk _ (.alloc 23) _ _ _ _ :: _) _ _)); refine wpl_alloc hE2 rfl rfl (by simp [go_sem]; rfl) ?_; clear hE2; intro b4 w hE3; simp only [Act.eval, Act.put, List.setIfInBounds_toArray, List.set_cons_zero, List.set_cons_succ, getD_lit, List.getD_cons_succ, List.getD_cons_zero, Value.cells] at hE3)
    | (go_at_call 43; refine (SplitSeq_any p hE3).mono ?_; clear hE3; rintro e w2 ⟨v, rfl, bs, bsep, bsave, rfl, hE4⟩))
  refine wpIn_wide.1 (wpIn_rangeSL (gf := 71) rfl (enters_of Tryd.func71 (by kernel_rfl) rfl) (split_iter p (by omega) bs bsep bsave) (fun _ => rfl) (spI b2 b3 b4 l) (spX b2 b3 l) ?e0
    (fun x => { tmps := #[.string ⟨p.toArray⟩, undef, .pointer (some ⟨b2, 0, none⟩), .pointer (some ⟨b3, 0, none⟩), .pointer (some ⟨b4, 0, none⟩), .string ⟨x.toArray⟩, .string ⟨p.toArray⟩, .bool false, .string ⟨p.toArray⟩, .func (.func 71) #[] #[.pointer (some ⟨bsep, 0, none⟩), .pointer (some ⟨bs, 0, none⟩), .pointer (some ⟨bsave, 0, none⟩)], .string ⟨x.toArray⟩, undef, undef, undef, undef, undef, undef, undef, undef, undef, undef, undef], defers := [] }) ?assign ?body ?done ?stop)
  case e0 =>
    have h := ((hE4.nil 9 1).front 4 rfl)
    have h2 := Ent.pack (f := fun z : { _z : Option Addr × Nat // ([] : List (List UInt8)).all isName = true } => [pt b4 (.cells #[.slice z.1.1 ([] : List (List UInt8)).length z.1.2] 23), rowS z.1.1 z.1.2 []]) ⟨(none, 0), rfl⟩ h
    exact ((((h2.front 4 rfl).front 5 rfl).front 5 rfl).front 5 rfl).front 5 rfl
  case assign =>
    intro lp x W K hK
    gi_wp2
    exact hK
  case body =>
    intro lp pre x W L hpre hW
    obtain ⟨⟨⟨ao, c⟩, hall⟩, hW'⟩ := (hW.front 2 rfl).unpack
    have Hall := SL.hid hall
    replace hW : Ent (pt b4 (.cells #[.slice ao pre.length c] 23) :: rowS ao c pre :: pt b2 (.cells #[.slice none 0 0] 23) :: pt b3 (.cells #[.int .i64 0] 29) :: (l ++ L)) W := hW'
    clear hW' hall
    have hxm : x ∈ cuts p := by
      obtain ⟨t, ht⟩ := hpre
      rw [← ht]; simp
    have hxl := (cuts_len p).2 x hxm
    have hpl : pre.length ≤ 1000001 := by
      have h1 := hpre.length_le
      have h2 := (cuts_len p).1
      simp at h1
      omega
    have j4 : W.cell? ⟨b4, 0, none⟩ = some (.slice ao pre.length c) := hW.cell 0 rfl 0
    have Hpre := SL.hid hpre
    clear hpre hxm
    cases hn : isName x with
    | false =>
      have Hn := SL.hid (show (pre ++ [x]).all isName = false from List.all_eq_false.2 ⟨x, by simp, by simp [hn]⟩)
      have hN := fun w => Name_any x (by omega) w
      rw [hn] at hN
      clear hn
      have j2 : W.cell? ⟨b2, 0, none⟩ = some (.slice none 0 0) := hW.cell 2 rfl 0
      have f2 : W.frozen? ⟨b2, 0, none⟩ = false := hW.frozen 2 rfl 0
      have hS := (hW.setCell 2 rfl 0 (.slice none 0 0))
      have s3 : (W.setCell ⟨b2, 0, none⟩ (.slice none 0 0)).cell? ⟨b3, 0, none⟩ = some (.int .i64 0) := hS.cell 3 rfl 0
      have g3 : (W.setCell ⟨b2, 0, none⟩ (.slice none 0 0)).frozen? ⟨b3, 0, none⟩ = false := hS.frozen 3 rfl 0
      gi_wp2_with (gi_at_call 47; refine (CallsIn.inRound lp (callsIn_wide.2 (hN _))).mono ?_; rintro e w' ⟨rfl, rfl⟩)
      have hF := (hS.setCell 3 rfl 0 (.int .i64 7)).tail.tail
      have hG := Ent.pack (f := fun _ : Code.ret = .ret ∧ (pre ++ [x]).all isName = false => []) ⟨rfl, Hn.out⟩ hF
      exact (hG.front 2 rfl).front 2 rfl
    | true =>
      have Hn := SL.hid (show (pre ++ [x]).all isName = true by rw [List.all_append, Hall.out]; simp [hn])
      have hN := fun w => Name_any x (by omega) w
      rw [hn] at hN
      clear hn
      gi_wp2_with (first
        | (gi_at_call 47; refine (CallsIn.inRound lp (callsIn_wide.2 (hN _))).mono ?_; rintro e w' ⟨rfl, rfl⟩)
        | (refine wplIn_one rfl rfl rfl (by intro c h; cases h) (by rintro ⟨_, _, h⟩; exact h) ?_; (with_reducible (show Go.wpList _ _ _ (Go.Oper.mk _ (.call { callee := .builtin .append, args := _, argTypes := _ }) _ _ _ _ :: _) _ _)); have hE9 := hW.alloc (.cells #[.string ⟨x.toArray⟩] 9); refine wpl_appendG hE9 2 rfl rfl rfl rfl rfl Tryd.underlying23 info_str (by decide) (m := 1) (news := [strv x]) (reads_pt hE9 0 rfl (off := 0) (fun j u hu => by rw [Nat.zero_add, List.getElem?_toArray]; exact hu)) rfl (by simp [strv, Value.oneCell']) (by omega) (by omega) ?_; clear hE9 hW; intro ao' c' w6 hE10; simp only [List.set_cons_zero, List.set_cons_succ] at hE10; refine wplIn_nil ?_)
        | (refine wplIn_one rfl rfl rfl (by intro c h; cases h) (by rintro ⟨_, _, h⟩; exact h) ?_; (with_reducible (show Go.wpList _ _ _ (Go.Oper.mk _ (.store 23 _ _) _ _ _ _ :: _) _ _)); refine wpl_store hE10 1 rfl rfl rfl rfl rfl (by simp [go_sem]; rfl) (by rfl) (by simp [Act.put, Value.cells, Value.oneCell', Act.eval]) (by simp) ?_; clear hE10; intro w hE11; simp only [Act.eval, getD_lit, List.getD_cons_succ, List.getD_cons_zero, Value.cells, List.set_cons_zero, List.set_cons_succ, List.take_succ_cons, List.take_zero, List.nil_append, List.cons_append, List.drop_succ_cons, List.drop_zero, List.length_cons, List.length_nil, Nat.reduceAdd, Nat.zero_add] at hE11; refine wplIn_nil ?_))
      have hF := hE11.tail
      have e1 : (pre ++ [x]).length = pre.length + 1 := by simp
      have e2 : (pre ++ [x]).map strv = pre.map strv ++ [strv x] := by simp
      have hG := Ent.pack (f := fun z : { _z : Option Addr × Nat // (pre ++ [x]).all isName = true } => [pt b4 (.cells #[.slice z.1.1 (pre ++ [x]).length z.1.2] 23), rowS z.1.1 z.1.2 (pre ++ [x])]) ⟨(ao', c'), Hn.out⟩ (by simp only [rowS, e1, e2]; exact hF)
      exact (hG.front 2 rfl).front 2 rfl
  case done =>
    intro D W hW
    obtain ⟨⟨⟨ao, c⟩, hall⟩, hW'⟩ := (hW.front 3 rfl).unpack
    replace hW : Ent (pt b4 (.cells #[.slice ao (cuts p).length c] 23) :: rowS ao c (cuts p) :: pt D (.deferred (some [])) :: pt b2 (.cells #[.slice none 0 0] 23) :: pt b3 (.cells #[.int .i64 0] 29) :: l) W := hW'
    clear hW'
    by_cases h6 : (cuts p).length ≤ 6
    · have R := SL.hid (split_good h0 hall h6)
      have hd : decide ((6 : Int) < ((cuts p).length : Int)) = false := decide_eq_false (by omega)
      clear h6 hall
      go_wp2_with (first
        | go_skip
        | ((with_reducible (show Go.wpList _ _ _ (Go.Oper.mk _ (.load 23 _) _ _ _ _ :: _) _ _)); refine wpl_load1 hW 0 rfl rfl rfl rfl (by simp [go_sem]) rfl ?_)
        | ((with_reducible (show Go.wpList _ _ _ (Go.Oper.mk _ (.store 23 _ _) _ _ _ _ :: _) _ _)); refine wpl_store hW 3 rfl rfl rfl rfl rfl (by simp [go_sem]; rfl) (by rfl) (by simp [Act.put, Value.cells, Value.oneCell', Act.eval]) (by simp) ?_; clear hW; intro w hE1; simp only [Act.eval, getD_lit, List.getD_cons_succ, List.getD_cons_zero, Value.cells, List.set_cons_zero, List.set_cons_succ, List.take_succ_cons, List.take_zero, List.nil_append, List.cons_append, List.drop_succ_cons, List.drop_zero, List.length_cons, List.length_nil, Nat.reduceAdd, Nat.zero_add] at hE1)
        | ((with_reducible (show Go.wpList _ _ _ (Go.Oper.mk _ (.store 29 _ _) _ _ _ _ :: _) _ _)); refine wpl_store hE1 4 rfl rfl rfl rfl rfl (by simp [go_sem]; rfl) (by rfl) (by simp [Act.put, Value.cells, Value.oneCell', Act.eval]) (by simp) ?_; clear hE1; intro w hE2; simp only [Act.eval, getD_lit, List.getD_cons_succ, List.getD_cons_zero, Value.cells, List.set_cons_zero, List.set_cons_succ, List.take_succ_cons, List.take_zero, List.nil_append, List.cons_append, List.drop_succ_cons, List.drop_zero, List.length_cons, List.length_nil, Nat.reduceAdd, Nat.zero_add] at hE2))
      refine post_mark rfl (hE2.front 2 rfl) (fun w' hw' => ⟨_, results_2v rfl rfl rfl (by simp [go_sem]) (by simp [go_sem]) (hw'.cell 2 rfl 0) (hw'.cell 3 rfl 0), _, rfl, ao, c, ?_, ?_⟩)
      · rw [R.out.1, R.out.2]; rfl
      · rw [R.out.1]
        exact ((hw'.tail.erase 1).erase 1)
    · have R := SL.hid (split_many h0 hall h6)
      have hd : (6 : Int) < ((cuts p).length : Int) := by omega
      clear h6 hall
      go_wp2_with (first
        | go_skip
        | ((with_reducible (show Go.wpList _ _ _ (Go.Oper.mk _ (.load 23 _) _ _ _ _ :: _) _ _)); refine wpl_load1 hW 0 rfl rfl rfl rfl (by simp [go_sem]) rfl ?_)
        | ((with_reducible (show Go.wpList _ _ _ (Go.Oper.mk _ (.store 23 _ _) _ _ _ _ :: _) _ _)); refine wpl_store hW 3 rfl rfl rfl rfl rfl (by simp [go_sem]; rfl) (by rfl) (by simp [Act.put, Value.cells, Value.oneCell', Act.eval]) (by simp) ?_; clear hW; intro w hE1; simp only [Act.eval, getD_lit, List.getD_cons_succ, List.getD_cons_zero, Value.cells, List.set_cons_zero, List.set_cons_succ, List.take_succ_cons, List.take_zero, List.nil_append, List.cons_append, List.drop_succ_cons, List.drop_zero, List.length_cons, List.length_nil, Nat.reduceAdd, Nat.zero_add] at hE1)
        | ((with_reducible (show Go.wpList _ _ _ (Go.Oper.mk _ (.store 29 _ _) _ _ _ _ :: _) _ _)); refine wpl_store hE1 4 rfl rfl rfl rfl rfl (by simp [go_sem]; rfl) (by rfl) (by simp [Act.put, Value.cells, Value.oneCell', Act.eval]) (by simp) ?_; clear hE1; intro w hE2; simp only [Act.eval, getD_lit, List.getD_cons_succ, List.getD_cons_zero, Value.cells, List.set_cons_zero, List.set_cons_succ, List.take_succ_cons, List.take_zero, List.nil_append, List.cons_append, List.drop_succ_cons, List.drop_zero, List.length_cons, List.length_nil, Nat.reduceAdd, Nat.zero_add] at hE2))
      refine post_mark rfl (hE2.front 2 rfl) (fun w' hw' => ⟨_, results_2v rfl rfl rfl (by simp [go_sem]) (by simp [go_sem]) (hw'.cell 2 rfl 0) (hw'.cell 3 rfl 0), _, rfl, none, 0, ?_, ?_⟩)
      · rw [R.out.1, R.out.2]; rfl
      · rw [R.out.1]
        exact (hw'.tail.tail.tail.tail.nil _ _)
  case stop =>
    intro D c pre W hpre hW
    obtain ⟨⟨rfl, hbad⟩, hW'⟩ := (hW.front 3 rfl).unpack
    have R := SL.hid (show splitL p = [] ∧ splitE p = 7 by
      obtain ⟨x, hx, hxn⟩ := List.all_eq_false.1 hbad
      obtain ⟨t, ht⟩ := hpre
      exact split_bad h0 (x := x) (by rw [← ht]; simp [hx]) (by simpa using hxn))
    replace hW : Ent (pt D (.deferred (some [])) :: pt b2 (.cells #[.slice none 0 0] 23) :: pt b3 (.cells #[.int .i64 7] 29) :: l) W := hW'
    clear hW' hbad hpre
    refine wpIn_wide.2 ?_
    go_wp2
    refine post_mark rfl hW (fun w' hw' => ⟨_, results_2v rfl rfl rfl (by simp [go_sem]) (by simp [go_sem]) (hw'.cell 0 rfl 0) (hw'.cell 1 rfl 0), _, rfl, none, 0, ?_, ?_⟩)
    · rw [R.out.1, R.out.2]; rfl
    · rw [R.out.1]
      exact hw'.tail.tail.nil _ _

set_option maxRecDepth 100000 in
theorem Split_any {p : List UInt8} (hp : p.length ≤ 1000000) {l : List HProp} {w : World} (hE : Ent l w) :
    Calls Tryd.prog 28 #[.string ⟨p.toArray⟩] w (Ret fun v w' => ∃ ao c, v = .tuple #[.slice ao (splitL p).length c, .int .i64 (splitE p)] ∧ Ent (rowS ao c (splitL p) :: l) w') := by
  by_cases h0 : p = []
  · subst h0
    refine calls_of_marks Tryd.func28 rfl ?_
    simp only [Tryd.ntmps28, List.size_toArray, List.length_cons, List.length_nil, Nat.reduceAdd, Nat.reduceSub, Array.replicate_succ, Array.replicate_zero, List.push_toArray, List.append_toArray, List.nil_append, List.cons_append]
    go_wp2_with (first
      | go_skip
      | ((with_reducible (show Go.wpList _ _ _ (Go.Oper.mk _ (.alloc 23) _ _ _ _ :: _) _ _)); refine wpl_alloc hE rfl rfl (by simp [go_sem]; rfl) ?_; clear hE; intro b2 w hE1; simp only [Act.eval, Act.put, List.setIfInBounds_toArray, List.set_cons_zero, List.set_cons_succ, getD_lit, List.getD_cons_succ, List.getD_cons_zero, Value.cells] at hE1)
      | ((with_reducible (show Go.wpList _ _ _ (Go.Oper.mk _ (.alloc 29) _ _ _ _ :: _) _ _)); refine wpl_alloc hE1 rfl rfl (by simp [go_sem]; rfl) ?_; clear hE1; intro b3 w hE2; simp only [Act.eval, Act.put, List.setIfInBounds_toArray, List.set_cons_zero, List.set_cons_succ, getD_lit, List.getD_cons_succ, List.getD_cons_zero, Value.cells] at hE2)
      | ((with_reducible (show Go.wpList _ _ _ (Go.Oper.mk _ (.store 23 _ _) _ _ _ _ :: _) _ _)); refine wpl_store hE2 1 rfl rfl rfl rfl rfl (by simp [go_sem]; rfl) (by rfl) (by simp [Act.put, Value.cells, Value.oneCell', Act.eval]) (by simp) ?_; clear hE2; intro w hE3; simp only [Act.eval, getD_lit, List.getD_cons_succ, List.getD_cons_zero, Value.cells, List.set_cons_zero, List.set_cons_succ, List.take_succ_cons, List.take_zero, List.nil_append, List.cons_append, List.drop_succ_cons, List.drop_zero, List.length_cons, List.length_nil, Nat.reduceAdd, Nat.zero_add] at hE3)
      | ((with_reducible (show Go.wpList _ _ _ (Go.Oper.mk _ (.store 29 _ _) _ _ _ _ :: _) _ _)); refine wpl_store hE3 0 rfl rfl rfl rfl rfl (by simp [go_sem]; rfl) (by rfl) (by simp [Act.put, Value.cells, Value.oneCell', Act.eval]) (by simp) ?_; clear hE3; intro w hE4; simp only [Act.eval, getD_lit, List.getD_cons_succ, List.getD_cons_zero, Value.cells, List.set_cons_zero, List.set_cons_succ, List.take_succ_cons, List.take_zero, List.nil_append, List.cons_append, List.drop_succ_cons, List.drop_zero, List.length_cons, List.length_nil, Nat.reduceAdd, Nat.zero_add] at hE4))
    refine post_none rfl (results_2v rfl rfl rfl (by simp [go_sem]) (by simp [go_sem]) (hE4.cell 1 rfl 0) (hE4.cell 0 rfl 0)) ⟨_, rfl, none, 0, rfl, ?_⟩
    exact hE4.tail.tail.nil _ _
  · exact Split_some hp h0 hE
end Go.Proofs.YtjmllpgmbaoebaaDoor
namespace Go.Proofs.YtjmllpgmbaoebaaDoor
open Go.RowKit Go.SL
theorem str_cells {w : World} {b off n c : Nat} {xs : List (List UInt8)} (hr : reads (.slice (some ⟨b, off, none⟩) n c) n (xs.map strv) w) {i : Nat} (hi : i < xs.length) : w.cell? ⟨b, off + i, none⟩ = some (.string ⟨xs[i].toArray⟩) := by
  obtain ⟨ao, c', e, _, h2⟩ := hr
  cases e
  have := h2 _ rfl i (strv xs[i]) (by simp [List.getElem?_eq_getElem hi])
  rwa [Addr.add_lit] at this
theorem cell_below {w : World} {b o : Nat} {v : Value} (h : w.cell? ⟨b, o, none⟩ = some v) : b < w.heap.size := by
  by_cases hb : b < w.heap.size
  · exact hb
  · exfalso
    have e : w.heap[b]? = none := Array.getElem?_eq_none (by omega)
    simp [World.cell?, e] at h
set_option maxRecDepth 100000 in
theorem Join_any {xs : List (List UInt8)} (hn : xs.length ≤ 1000) (hx : ∀ x ∈ xs, x.length ≤ 600) {ao : Option Addr} {c : Nat} (hc : xs.length ≤ c) {l : List HProp} {w : World} (hE : Ent l w) (hk : Knows l (reads (.slice ao xs.length c) xs.length (xs.map strv))) :
    Calls Tryd.prog 33 #[.slice ao xs.length c] w (Ret fun v w' => v = .string ⟨(joinP xs).toArray⟩ ∧ Ent l w') := by
  have hj : Calls Tryd.prog 52 #[.slice ao xs.length c, .string ⟨#[47]⟩] w (Ret fun v w' => v = .string ⟨(joinP xs).toArray⟩ ∧ Ent l w') := by
    cases xs with
    | nil =>
      refine (join_none ao c _ w).mono ?_
      rintro e w' ⟨rfl, rfl⟩
      exact ⟨_, rfl, rfl, hE⟩
    | cons x t =>
      obtain ⟨b, o, rfl, _⟩ := reads_form (hk _ hE) (by simp) (by simp)
      have hcell := fun i (hi : i < (x :: t).length) => str_cells (hk _ hE) hi
      have e1 : ((x :: t).map fun s => (⟨s.toArray⟩ : ByteArray)).map (·.data.toList) = x :: t := by
        rw [List.map_map]
        conv => rhs; rw [← List.map_id (x :: t)]
        congr 1
      have e2 : ((x :: t).map fun s => (⟨s.toArray⟩ : ByteArray)).length = (x :: t).length := List.length_map _
      have hl := joinP_len (x :: t) hx
      have hN := Nat.mul_le_mul_right 601 hn
      have h := join_many b o c ((x :: t).map fun s => (⟨s.toArray⟩ : ByteArray)) ⟨#[47]⟩ w
        (fun j y hy => by
          rw [List.getElem?_map] at hy
          by_cases hj : j < (x :: t).length
          · rw [List.getElem?_eq_getElem hj] at hy
            cases hy
            exact hcell j hj
          · rw [List.getElem?_eq_none (by omega)] at hy; cases hy)
        (cell_below (hcell 0 (by simp))) (by rw [e2]; omega) (by rw [e2]; exact hc) (by rw [e1]; show (joinP (x :: t)).length ≤ _; omega)
      rw [e1, e2] at h
      refine h.mono ?_
      rintro e w' ⟨rfl, hb⟩
      exact ⟨_, rfl, rfl, hE.ofBelow hb⟩
  go_enter Tryd.func33, Tryd.ntmps33
  go_wp2_with (first
    | go_skip
    | (go_at_call 52; refine hj.mono ?_; clear hE; rintro e w2 ⟨v, rfl, rfl, hE⟩))
  go_ret
  exact ⟨_, rfl, rfl, hE⟩
def RjRel (xs : List (List UInt8)) (l : List HProp) (s i : Value) (wr : World) : Prop := ∃ k : Nat, k ≤ xs.length ∧ i = .int .i64 k ∧ s = .string ⟨(joinP (xs.take k)).toArray⟩ ∧ Ent l wr
theorem catB (a b : List UInt8) (h : a.length + b.length ≤ 1099511627776) : ∃ p : List UInt8, p = a ++ b ∧ (⟨a.toArray⟩ : ByteArray) ++ ⟨b.toArray⟩ = ⟨p.toArray⟩ ∧ ¬ (9223372036854775807 < a.length + b.length) :=
  ⟨a ++ b, rfl, bytes_join a b, by omega⟩
set_option maxRecDepth 100000 in
set_option maxHeartbeats 2000000 in
theorem rJoin_any {xs : List (List UInt8)} (hn : xs.length ≤ 1000) (hx : ∀ x ∈ xs, x.length ≤ 600) {ao : Option Addr} {c : Nat} {l : List HProp} {w : World} (hE : Ent l w) (hk : Knows l (reads (.slice ao xs.length c) xs.length (xs.map strv))) :
    Calls Tryd.prog 37 #[.slice ao xs.length c] w (Ret fun v w' => v = .string ⟨(joinP xs).toArray⟩ ∧ Ent l w') := by
  go_enter Tryd.func37, Tryd.ntmps37
  go_wp2
  go_loopw [3, 4] (fun s i wr => RjRel xs l s i wr) (fun _ i _ => xs.length - (intOf i).toNat)
  case atStart => exact ⟨0, Nat.zero_le _, rfl, rfl, hE⟩
  case round =>
    clear hE
    obtain ⟨k, hkl, rfl, rfl, hE⟩ := hrel
    by_cases hlt : k < xs.length
    · obtain ⟨b1, o1, rfl, hcl⟩ := reads_form (hk _ hE) (by omega) (by simp; omega)
      clear hcl
      have k0 := str_cells (hk _ hE) hlt
      have hb1 := joinP_len (xs.take k) (fun x hx' => hx x (List.mem_of_mem_take hx'))
      have hb2 : (xs.take k).length * 601 ≤ 1000 * 601 := Nat.mul_le_mul_right _ (by rw [List.length_take]; omega)
      have hb3 := hx _ (List.getElem_mem hlt)
      have ht := List.take_succ_eq_append_getElem hlt
      generalize xs[k] = x at *
      rcases Nat.eq_zero_or_pos k with rfl | hpos
      · have Hs := SL.hid (show joinP (xs.take (0 + 1)) = x by rw [ht]; simp [joinP_one])
        clear ht hb1 hb2
        rw [Nat.add_zero] at k0
        obtain ⟨p, hp, hj, hc⟩ := catB (joinP (xs.take 0)) x (by simp [joinP, Lib.join_nil]; omega)
        have Hp := SL.hid (show p = x by rw [hp]; simp [joinP, Lib.join_nil])
        clear hp
        generalize joinP (xs.take 0) = pre at *
        go_wp2
        go_roundw
        case rel => exact ⟨0 + 1, hlt, by first | rfl | simp, by rw [Hs.out, Hp.out], hE⟩
        case measure => simp [intOf] <;> omega
      · have Hs := SL.hid (show joinP (xs.take (k + 1)) = joinP (xs.take k) ++ 47 :: x by rw [ht]; exact joinP_snoc x _ (by intro e; have := congrArg List.length e; rw [List.length_take, List.length_nil] at this; omega))
        clear ht
        have hd : decide (0 < k) = true := decide_eq_true hpos
        generalize joinP (xs.take k) = pre at *
        obtain ⟨p1, hp1, hj1, hc1⟩ := catB pre [47] (by simp; omega)
        obtain ⟨p2, hp2, hj2, hc2⟩ := catB p1 x (by rw [hp1]; simp; omega)
        have Hp := SL.hid (show p2 = pre ++ 47 :: x by rw [hp2, hp1]; simp)
        clear hp1 hp2 hpos
        go_wp2
        go_roundw
        case rel => exact ⟨k + 1, hlt, by first | rfl | simp, by rw [Hs.out, Hp.out], hE⟩
        case measure => simp [intOf] <;> omega
    · have E2 : xs.take k = xs := by rw [show k = xs.length by omega, List.take_length]
      rw [E2]
      clear E2
      go_wp2
      go_ret
      exact ⟨_, rfl, rfl, hE⟩
theorem row_cap {l : List HProp} {w : World} (hE : Ent l w) (i : Nat) {ao : Option Addr} {c : Nat} {xs : List (List UInt8)} (hi : l[i]? = some (rowS ao c xs)) : xs.length ≤ c := by
  rcases Nat.eq_zero_or_pos xs.length with h | h
  · omega
  · obtain ⟨_, _, h2, _⟩ := hE.rowIs i hi h
    exact h2
end Go.Proofs.YtjmllpgmbaoebaaDoor
namespace Go.SL
open Go.RowKit
section
variable {P : Program}
theorem wpIn_rangeSLB {α β : Type} {g : Operand} {ps : Array Tmp} {assign body : Code} {Q : Exit → Act → World → Prop} {a : Act} {w : World} {gf : Nat} {lb : Array Value}
    (hg : a.eval g = .func (.func gf) #[] lb) (eg : ∀ args w, (callFunc gf args).run P w = .ok (.enter gf args) w)
    {encs : α → Array Value} {xs : List α} {st : List α → List HProp} (hseq : SeqSL P gf lb encs xs st) (hps : ∀ x, (encs x).size = ps.size)
    (I : List α → List HProp) (Ix : Code → List α → List HProp) (hE : Ent (st [] ++ I []) w) (a₁ : α → β → Act) (B : α → β → List HProp)
    (hassign : ∀ (lp : Nat) (x : α) (W : World) (L : List HProp) (K : Act → World → Prop), Ent L W → (∀ y W', Ent (B x y ++ L) W' → K (a₁ x y) W') →
      assign.wpIn (Fence.wide.inRound lp) 0 P (Exit.then K (fun _ _ _ => False)) { tmps := (ps.zip (encs x)).foldl (fun t (p, v) => t.setIfInBounds p v) a.tmps, defers := [] } W)
    (hbody : ∀ (lp : Nat) (pre : List α) (x : α) (y : β) (W : World) (L : List HProp), pre ++ [x] <+: xs → Ent (B x y ++ (I pre ++ L)) W → body.wpIn (Fence.wide.inRound lp) 0 P (roundSL I Ix L (pre ++ [x])) (a₁ x y) W)
    (hdone : ∀ (D : Nat) (W : World), Ent (pt D (.deferred (some [])) :: I xs) W → Q .normal { a with defers := { target := .collected D, args := #[] } :: a.defers } W)
    (hstop : ∀ (D : Nat) (c : Code) (pre : List α) (W : World), pre <+: xs → Ent (pt D (.deferred (some [])) :: Ix c pre) W → c.wpIn Fence.wide 0 P Q { a with defers := { target := .collected D, args := #[] } :: a.defers } W) :
    (Code.rangeFunc g ps assign body).wpIn Fence.wide 0 P Q a w := by
  refine wpIn_rangeFunc ?_
  intro fn hfn
  obtain ⟨d, hd⟩ : ∃ d, d = w.heap.size := ⟨_, rfl⟩
  obtain ⟨rc, hrc⟩ : ∃ rc : LoopState → Option Code → Loop, rc = fun s p => { state := s, pending := p, fn, tmps := a.tmps, params := ps, assign, body, defers := d } := ⟨_, rfl⟩
  have h1 : Ent (pt (d + 1) (.loop (rc .ready none)) :: pt d (.deferred (some [])) :: (st [] ++ I [])) ((w.alloc (.deferred (some []))).alloc (.loop (rc .ready none))) := by
    have := (hE.alloc (.deferred (some []))).alloc (.loop (rc .ready none))
    rwa [World.size_alloc, ← hd] at this
  generalize hW1 : (w.alloc (.deferred (some []))).alloc (.loop (rc .ready none)) = W1 at h1
  refine ⟨d + 1, [{ target := .collected d, args := #[] }], W1, { target := .fn (.func gf) lb, args := #[.func (.yield (d + 1)) #[] #[]] }, W1, gf, #[.func (.yield (d + 1)) #[] #[]] ++ lb, W1, ?_, ?_, fun _ _ => trivial, ?_, fun h => (by cases h), ?_⟩
  · rw [← hW1, hrc, hd]; exact run_enterLoop_outer _ _ _ _ _
  · simp only [resolve, hg]
    simp [go_sem]
  · simp [invoke, go_sem, eg]
  · refine (hseq (d + 1) (fun pre => I pre ++ [pt (d + 1) (.loop (rc .ready none)), pt d (.deferred (some []))]) (fun pre => [ex fun c => Ix c pre ++ [pt (d + 1) (.loop (rc .done (some c))), pt d (.deferred (some []))]]) W1 (h1.perm perm_2') ?_).mono ?_
    · rintro pre x W hpre hW
      replace hW := hW.perm perm_2
      have hy := run_yield (P := P) (args := encs x) hW.head (by rw [hrc]; exact hps x)
      rw [hrc] at hy
      refine ⟨fn, _, assign, body, hy, roundIn_of_wpIn trivial (hassign _ x W _ _ hW fun y W' hW' => ?_)⟩
      clear hy
      replace hW := hW'.perm List.perm_middle
      clear hW'
      refine ⟨_, run_beginRound hW.head (by rw [hrc]), ?_⟩
      have hb : Ent (pt (d + 1) (.loop { rc .ready none with state := .busy }) :: (B x y ++ (pt d (.deferred (some [])) :: (st pre ++ I pre)))) (W'.putObj (d + 1) (.loop { rc .ready none with state := .busy })) := hW.setMap 0 rfl
      replace hb := hb.perm (List.perm_middle (l₁ := B x y)).symm
      refine wpIn_mono (hbody _ pre x y _ (pt (d + 1) (.loop { rc .ready none with state := .busy }) :: pt d (.deferred (some [])) :: st pre) hpre (hb.perm (perm_3.symm.append_left _))) ?_
      rintro e a3 W3 hp
      cases e with
      | normal =>
        have h3 : Ent _ W3 := Ent.perm hp perm_3
        refine ⟨_, _, run_endRound none h3.head, .inl ⟨rfl, ?_⟩⟩
        have h4 := h3.setMap 0 (ob' := .loop { { rc .ready none with state := .busy } with state := if (none : Option Code).isNone then .ready else .done, pending := none }) rfl
        rw [hrc] at h4 ⊢
        exact Ent.perm h4 perm_2'
      | ret =>
        have h3 : Ent _ W3 := (Ent.perm hp perm_3)
        refine ⟨_, _, run_endRound (some .ret) h3.head, .inr ⟨rfl, ?_⟩⟩
        have h4 := h3.setMap 0 (ob' := .loop { { rc .ready none with state := .busy } with state := if (some Code.ret).isNone then .ready else .done, pending := some .ret }) rfl
        rw [hrc] at h4 ⊢
        exact Ent.pack (l := []) Code.ret (by rw [List.append_nil]; exact (Ent.perm h4 perm_2').drop)
      | exit id =>
        have h3 : Ent _ W3 := (Ent.perm hp perm_3)
        refine ⟨_, _, run_endRound (some (.exit id)) h3.head, .inr ⟨rfl, ?_⟩⟩
        have h4 := h3.setMap 0 (ob' := .loop { { rc .ready none with state := .busy } with state := if (some (Code.exit id)).isNone then .ready else .done, pending := some (.exit id) }) rfl
        rw [hrc] at h4 ⊢
        exact Ent.pack (l := []) (Code.exit id) (by rw [List.append_nil]; exact (Ent.perm h4 perm_2').drop)
      | goto t => exact hp.elim
      | panic ch => exact hp.elim
      | outgrown => exact hp.elim
    · rintro e W2 ⟨⟨v, rfl⟩, hJ | ⟨pre, hpre, hJ⟩⟩
      · have h3 := Ent.perm hJ (perm_2 (l := []))
        refine ⟨none, _, by have := run_endLoop (P := P) h3.head (by rw [hrc]; simp); rw [hrc] at this; exact this, ?_⟩
        have h4 := h3.setMap 0 (ob' := .loop { rc .ready none with state := .exhausted }) rfl
        rw [hrc] at h4
        exact hdone d _ h4.tail
      · obtain ⟨c, hJ⟩ := hJ.unpack
        rw [List.append_nil] at hJ
        have h3 := Ent.perm hJ (perm_2 (l := []))
        refine ⟨some c, _, by have := run_endLoop (P := P) h3.head (by rw [hrc]; simp); rw [hrc] at this; exact this, ?_⟩
        have h4 := h3.setMap 0 (ob' := .loop { rc .done (some c) with state := .exhausted }) rfl
        rw [hrc] at h4
        exact hstop d c pre _ hpre h4.tail


/-- of a region that only comes to its end -/
def onlyN (K : Act → World → Prop) : Exit → Act → World → Prop
  | .normal, a, w => K a w
  | _, _, _ => False
theorem wp_onlyN {c : Code} {Q : Exit → Act → World → Prop} {a : Act} {w : World} (h : c.wp P (onlyN (fun a w => Q .normal a w)) a w) : c.wp P Q a w :=
  wp_mono h (by
    intro e a w h
    cases e <;> first | exact h | exact h.elim)
theorem onlyN_n {Q : Exit → Act → World → Prop} {a : Act} {w : World} (h : Q .normal a w) : onlyN (fun a w => Q .normal a w) .normal a w := h

/-- an operation carried out in a round, as anywhere -/
theorem opIn_of_op {F : Fence} {n : Nat} {ops : Array Oper} {Q : Exit → Act → World → Prop} {K : Act → World → Prop} {i : Nat} {a : Act} {w : World} (hF : F.fn = fun _ => True) (hdp : F.depth = none) (hal : F.alive = false) (hnd : ∀ o, ops[i]? = some o → ∀ c, o.op ≠ .defer c) (hlo : ¬ ∃ a w, Q .outgrown a w)
    (h : wpOp P ops Q i K a w) : wpOpIn F n P ops Q i K a w := by
  have e1 : Machine.fenced P F = Machine.fenced P Fence.wide := by
    funext m
    simp only [Machine.fenced, hF, hdp, hal, Fence.room, Fence.wide]
  have hCI : ∀ {f args w R}, Calls P f args w R → CallsIn F (n - 1) P f args w R := fun {f args w R} h => by
    refine ⟨by rw [hF]; trivial, fun cs _ => ?_⟩
    obtain ⟨e, w', fr, r, s, x⟩ := (callsIn_wide (n := n - 1)).2 h |>.2 cs (room_wide _)
    exact ⟨e, w', fr, r, by rw [e1]; exact s, x⟩
  unfold wpOp at h
  unfold wpOpIn
  split at h
  · rename_i ho; simp only [ho]; exact h
  · rename_i o ho
    simp only [ho]
    split at h
    · rename_i hw
      rw [if_pos hw]
      replace h := h.resolve_right (fun hh => hlo hh.2)
      refine ⟨fun _ _ => by rw [hF]; trivial, ?_⟩
      have hs : o.semAt F.round a.eval = execOp a.eval o := by
        cases hr : F.round with
        | none => simp [Oper.semAt_none]
        | some l => exact Oper.semAt_some l _ o (hnd o ho)
      rw [hs]
      unfold Oper.wp at h
      generalize (execOp a.eval o).run P w = r at h
      unfold Oper.upon at h
      unfold Oper.uponIn
      split at h
      · exact h
      · exact h
      · exact h
      · refine ⟨fun hh => (by rw [hdp] at hh; cases hh), (hCI h).mono ?_⟩
        intro e w2 h2
        cases e with
        | returned v => exact h2
        | panicked ch => exact h2
        | outgrown => exact h2
      · refine ⟨fun hh => (by rw [hdp] at hh; cases hh), fun c cs _ => ?_⟩
        obtain ⟨v, w', r, s⟩ := h c cs
        exact ⟨v, w', r, by rw [e1]; exact stepsIn_wide.2 s⟩
      · exact h
      · exact h.elim
    · rename_i hw
      rw [if_neg hw]
      exact ⟨fun _ _ => by rw [hF]; trivial, h⟩
theorem anyIn_of_held {F : Fence} {n : Nat} {md : Region.Mode} {ops : Array Oper} {Q : Exit → Act → World → Prop} {S : World → Prop} (hF : F.fn = fun _ => True) (hdp : F.depth = none) (hal : F.alive = false) (hnd : ∀ (i : Nat) o, ops[i]? = some o → ∀ c, o.op ≠ .defer c) (hlo : ¬ ∃ a w, Q .outgrown a w) :
    ∀ (fuel : Nat) (listed : Array Bool) (a : Act) (w : World), wpAnyH P md ops Q S fuel listed a w → wpAnyIn F n P md ops Q fuel listed a w
  | 0, _, _, _, h => h
  | fuel + 1, _, _, _, h => ⟨h.1, fun i hi => wpOpIn_mono (fun a' w' h' => anyIn_of_held hF hdp hal hnd hlo fuel _ a' w' h'.2) (opIn_of_op hF hdp hal (hnd i) hlo (h.2 i hi))⟩

/-- A region that draws its order, in a round: walked as anywhere, and it comes to its end. -/
theorem wpIn_region_held_drew {F : Fence} {n : Nat} {ops : Array Oper} {Q : Exit → Act → World → Prop} {S : World → Prop} {id : Nat} {a : Act} {w : World} (hF : F.fn = fun _ => True) (hdp : F.depth = none) (hal : F.alive = false) (hnd : (ops.toList.all fun o => match o.op with | .defer _ => false | _ => true) = true)
    (hm : P.follows .mixedOrders = true) (hS : S w.drew) (h : S w.drew → wpAnyH P .any ops (onlyN (fun a w => Q .normal a w)) S ops.size (Array.replicate ops.size false) a w.drew) : (Code.region id ops true).wpIn F n P Q a w := by
  have hnd' : ∀ (i : Nat) o, ops[i]? = some o → ∀ c, o.op ≠ .defer c := fun i o ho c hc => by
    have hm : o ∈ ops.toList := by
      have h2 : ops.toList[i]? = some o := by simpa using ho
      exact List.mem_of_getElem? h2
    have := List.all_eq_true.1 hnd o hm
    rw [hc] at this
    cases this
  refine wpIn_mono (Q := onlyN (fun a w => Q .normal a w)) (wpIn_region_any hm (anyIn_of_held hF hdp hal hnd' (by rintro ⟨_, _, h⟩; exact h) _ _ _ _ (h hS))) ?_
  intro e a w h
  cases e <;> first | exact h | exact h.elim
end
end Go.SL
