/-
  Readers as functions of what is left and the error: numbers, texts, hashes and names, and that each reads back what was written. The opener's contracts in that form.
-/
import Derived.Test.YtdpfigkjkjjedaaDoorRecordsF1
import Derived.StillTailTactics
import Derived.Laws.BitsAllLaws
import Derived.Laws.OwnMore
import Derived.Lib.SliceRun
import Derived.Deep.RegionHeld3
import Derived.OrdersHeld
import Derived.KernelRfl
import Derived.MapKept
import Derived.Shelf.Lay
import Derived.Shelf.Strings.Repeat
import Derived.Test.YtdpfigkjkjjedaaDoorChecked
import Derived.Lib.LaidTab
namespace Go.Proofs.YtdpfigkjkjjedaaDoor
open Go.RowKit Go.SL

/-- what is left, and the error -/
structure St where
  bs : List UInt8
  err : Int

def tk (n : Int) (s : St) : St := ⟨tkB (wideN n) s.bs s.err, tkE (wideN n) s.bs s.err⟩
def tkV (n : Int) (s : St) : Nat := valT (tkOk (wideN n) s.bs s.err) s.bs (wideN n)
def tx (n : Int) (s : St) : St := ⟨tkB n s.bs s.err, tkE n s.bs s.err⟩
def txV (n : Int) (s : St) : List UInt8 := strT (tkOk n s.bs s.err) s.bs n
def hxV (s : St) : List UInt8 := hashT (tkOk 32 s.bs s.err) s.bs 32
def nm (s : St) : St := ⟨nameB s.bs s.err, nameE s.bs s.err⟩
def nmV (s : St) : List UInt8 := nameS s.bs s.err

theorem tkB_len (n : Int) (bs : List UInt8) (err : Int) : (tkB n bs err).length ≤ bs.length := by
  unfold tkB
  split
  · simp
  · exact Nat.le_refl _
theorem tk_len (n : Int) (s : St) : (tk n s).bs.length ≤ s.bs.length := tkB_len _ _ _
theorem tx_len (n : Int) (s : St) : (tx n s).bs.length ≤ s.bs.length := tkB_len _ _ _
theorem nm_len (s : St) : (nm s).bs.length ≤ s.bs.length := by
  unfold nm nameB
  simp only
  split
  · simp only [List.length_drop, List.length_tail]; omega
  · exact Nat.le_refl _
theorem hxV_len (s : St) : (hxV s).length = 32 := hashT_length _ _
theorem tkV_lt (n : Int) (s : St) : tkV n s < 18446744073709551616 := by
  unfold tkV valT
  split
  · exact beVal_lt _
  · omega
theorem beVal_one (c : UInt8) : beVal [c] = c.toNat := by
  simp only [beVal, List.foldl_cons, List.foldl_nil]
  have := c.toNat_lt
  omega
theorem tkV1_lt (s : St) : tkV 1 s < 256 := by
  unfold tkV valT
  split
  · rcases h : s.bs with _ | ⟨c, r⟩
    · show beVal (List.take (1 : Int).toNat []) < 256
      simp [beVal]
    · show beVal [c] < 256
      rw [beVal_one]; exact c.toNat_lt
  · omega
theorem txV_len (n : Int) (s : St) : (txV n s).length ≤ s.bs.length := by
  unfold txV strT
  split
  · simp only [List.length_take]; omega
  · simp
theorem nmV_len (s : St) : (nmV s).length ≤ s.bs.length := by
  unfold nmV nameS
  split
  · simp only [List.length_take, List.length_tail]; omega
  · simp

/-- the state behind a thing that was written -/
theorem tx_app (ys r : List UInt8) : tx ys.length ⟨ys ++ r, 0⟩ = ⟨r, 0⟩ ∧ txV ys.length ⟨ys ++ r, 0⟩ = ys := by
  have a1 : decide ((0 : Int) ≤ (ys.length : Int)) = true := decide_eq_true (by omega)
  have a2 : decide ((ys.length : Int) ≤ ((ys ++ r).length : Int)) = true := decide_eq_true (by simp; omega)
  have e1 : tkOk ys.length (ys ++ r) 0 = true := by unfold tkOk; rw [a1, a2]; rfl
  have e4 : tkE ys.length (ys ++ r) 0 = 0 := by unfold tkE; rw [a1, a2]; rfl
  refine ⟨?_, ?_⟩
  · simp only [tx, tkB, e1, if_true, e4, Int.toNat_natCast, List.drop_left' rfl]
  · simp only [txV, e1, strT, if_true, Int.toNat_natCast, List.take_left' rfl]
theorem hx_app (hs r : List UInt8) (h32 : hs.length = 32) : tx 32 ⟨hs ++ r, 0⟩ = ⟨r, 0⟩ ∧ hxV ⟨hs ++ r, 0⟩ = hs := by
  have h := tx_app hs r
  rw [h32] at h
  refine ⟨h.1, ?_⟩
  have h2 : strT (tkOk 32 (hs ++ r) 0) (hs ++ r) 32 = hs := h.2
  have e1 : tkOk 32 (hs ++ r) 0 = true := by simp [tkOk, h32]; omega
  simp only [hxV, e1, hashT, if_true]
  rw [e1] at h2
  exact h2
theorem foldl_be' (n : Nat) : ∀ (w a : Nat), a < 18446744073709551616 → (be w n).foldl (fun n c => (n * 256 + c.toNat) % 18446744073709551616) a = (a * 256 ^ w + n % 256 ^ w) % 18446744073709551616
  | 0, a, h => by simp [be, Nat.mod_one]; omega
  | w + 1, a, h => by
    rw [be, List.foldl_cons, foldl_be' n w _ (Nat.mod_lt _ (by omega))]
    have h1 : (UInt8.ofNat (n / 256 ^ w)).toNat = n / 256 ^ w % 256 := by simp
    have h2 : n % 256 ^ (w + 1) = n % 256 ^ w + 256 ^ w * (n / 256 ^ w % 256) := Nat.mod_pow_succ
    rw [h1, h2, Nat.pow_succ]
    generalize n / 256 ^ w % 256 = c
    generalize n % 256 ^ w = d
    generalize 256 ^ w = e
    rw [Nat.add_mod ((a * 256 + c) % 18446744073709551616 * e), Nat.mod_mul_mod, ← Nat.add_mod]
    congr 1
    rw [Nat.add_mul, Nat.mul_comm e c, Nat.mul_assoc, Nat.mul_comm 256 e]
    omega
theorem beVal_be' (n w : Nat) (h : n < 256 ^ w) (hn : n < 18446744073709551616) : beVal (be w n) = n := by
  unfold beVal
  rw [foldl_be' n w 0 (by omega), Nat.mod_eq_of_lt h]
  omega
theorem tk_app (w : Nat) (n : Nat) (r : List UInt8) (hw : wideB w = true) (h : n < 256 ^ w) (hn : n < 18446744073709551616) : tk w ⟨be w n ++ r, 0⟩ = ⟨r, 0⟩ ∧ tkV w ⟨be w n ++ r, 0⟩ = n := by
  have hl := be_length w n
  have e0 : wideN (w : Int) = w := by simp [wideN, hw]
  have ht := tx_app (be w n) r
  rw [hl] at ht
  refine ⟨?_, ?_⟩
  · rw [tk, e0]; exact ht.1
  · have e1 : tkOk (w : Int) (be w n ++ r) 0 = true := by
      have a1 : decide ((0 : Int) ≤ (w : Int)) = true := decide_eq_true (by omega)
      have a2 : decide ((w : Int) ≤ ((be w n ++ r).length : Int)) = true := decide_eq_true (by rw [List.length_append, hl]; omega)
      unfold tkOk; rw [a1, a2]; rfl
    simp only [tkV, e0, e1, valT, if_true, Int.toNat_natCast]
    rw [List.take_left' hl, beVal_be' n w h hn]
theorem tk1_app (n : Nat) (r : List UInt8) (h : n < 256) : tk 1 ⟨be 1 n ++ r, 0⟩ = ⟨r, 0⟩ ∧ tkV 1 ⟨be 1 n ++ r, 0⟩ = n := tk_app 1 n r rfl (by omega) (by omega)
theorem tk2_app (n : Nat) (r : List UInt8) (h : n < 65536) : tk 2 ⟨be 2 n ++ r, 0⟩ = ⟨r, 0⟩ ∧ tkV 2 ⟨be 2 n ++ r, 0⟩ = n := tk_app 2 n r rfl (by omega) (by omega)
theorem tk4_app (n : Nat) (r : List UInt8) (h : n < 4294967296) : tk 4 ⟨be 4 n ++ r, 0⟩ = ⟨r, 0⟩ ∧ tkV 4 ⟨be 4 n ++ r, 0⟩ = n := tk_app 4 n r rfl (by omega) (by omega)
theorem be_one (n : Nat) : be 1 n = [UInt8.ofNat n] := by simp [be]
theorem be_one' (c : UInt8) : be 1 c.toNat = [c] := by rw [be_one]; simp
theorem nm_app (ys r : List UInt8) (hl : ys.length < 256) : nm ⟨UInt8.ofNat ys.length :: ys ++ r, 0⟩ = ⟨r, 0⟩ ∧ nmV ⟨UInt8.ofNat ys.length :: ys ++ r, 0⟩ = ys := by
  have en : (UInt8.ofNat ys.length).toNat = ys.length := by simp; omega
  have e1 : nameOk (UInt8.ofNat ys.length :: ys ++ r) = true := by
    show decide ((UInt8.ofNat ys.length).toNat ≤ (ys ++ r).length) = true
    rw [en]; simp
  refine ⟨?_, ?_⟩
  · have e3 : nameB (UInt8.ofNat ys.length :: ys ++ r) 0 = r := by
      unfold nameB
      rw [e1]
      show (ys ++ r).drop (UInt8.ofNat ys.length).toNat = r
      rw [en]; exact List.drop_left' rfl
    have e4 : nameE (UInt8.ofNat ys.length :: ys ++ r) 0 = 0 := by
      unfold nameE
      rw [e1]; rfl
    rw [nm, e3, e4]
  · show nameS (UInt8.ofNat ys.length :: ys ++ r) 0 = ys
    unfold nameS
    rw [e1]
    show (ys ++ r).take (UInt8.ofNat ys.length).toNat = ys
    rw [en]; exact List.take_left' rfl

theorem sTake {l : List HProp} {w : World} {o : Nat} {s : St} (hE : Ent (opener o s.bs s.err :: l) w) (hb : s.bs.length ≤ 1099511627776) (n : Int) :
    Calls Tryd.prog 53 #[.pointer (some ⟨o, 0, none⟩), .int .i64 n] w (Ret fun v w' => v = .int .u64 (tkV n s) ∧ Ent (opener o (tk n s).bs (tk n s).err :: l) w') := oTake_any hE hb n
theorem sText {l : List HProp} {w : World} {o : Nat} {s : St} (hE : Ent (opener o s.bs s.err :: l) w) (hb : s.bs.length ≤ 1099511627776) (n : Int) :
    Calls Tryd.prog 54 #[.pointer (some ⟨o, 0, none⟩), .int .i64 n] w (Ret fun v w' => v = .string ⟨(txV n s).toArray⟩ ∧ Ent (opener o (tx n s).bs (tx n s).err :: l) w') := oText_any hE hb n
theorem sHash {l : List HProp} {w : World} {o : Nat} {s : St} (hE : Ent (opener o s.bs s.err :: l) w) :
    Calls Tryd.prog 108 #[.pointer (some ⟨o, 0, none⟩)] w (Ret fun v w' => v = .agg (bvals (hxV s)).toArray ∧ Ent (opener o (tx 32 s).bs (tx 32 s).err :: l) w') := oHash_any hE
theorem sName {l : List HProp} {w : World} {o : Nat} {s : St} (hE : Ent (opener o s.bs s.err :: l) w) (hb : s.bs.length ≤ 1099511627776) :
    Calls Tryd.prog 125 #[.pointer (some ⟨o, 0, none⟩)] w (Ret fun v w' => v = .string ⟨(nmV s).toArray⟩ ∧ Ent (opener o (nm s).bs (nm s).err :: l) w') := oName_any hE hb
end Go.Proofs.YtdpfigkjkjjedaaDoor
namespace Go.SL
section
variable {w : World} {l : List HProp}

theorem Ent.fromRow (hE : Ent l w) (i : Nat) {e : TypeId} {size n : Nat} {v : Value} {xs : List Value} (hi : l[i]? = some (row e size v n xs)) (h0 : 0 < n) :
    ∃ (g cap : Nat) (cur : Array Value), v = .slice (some ⟨g, 0, none⟩) n cap ∧ n ≤ cap ∧ cap ≤ maxLen ∧ cur.size = cap * size ∧ cur.toList.take (n * size) = xs ∧ Ent (l.set i (pt g (.cells cur e (0, 0)))) w := by
  have ho := hE.owns i hi
  rcases ho.2 with ⟨rfl, rfl⟩ | ⟨g, cap, cur, rfl, hb, hg, hn, hm, hs, ht⟩
  · exact absurd h0 (by omega)
  · refine ⟨g, cap, cur, rfl, hn, hm, hs, ht, Ent.put ((hE.front i hi).step (Bs := [pt g (.cells cur e (0, 0))]) (Same.refl w) (Nat.le_refl _) fun F hF => ⟨fun _ _ _ => rfl, F, on_single ?_, fun _ h => .inl h⟩) (List.getElem?_eq_some_iff.1 hi).1⟩
    unfold row at hF
    unfold pt
    exact ⟨hg, fun x => by rw [hF.2]; simp [Value.ownBlock, eq_comm]⟩

/-- a cell of a row of one-cell elements is written -/
theorem Ent.backRow (hE : Ent l w) (i : Nat) {g cap n k : Nat} {cur : Array Value} {e : TypeId} {u : Value} {xs : List Value} (hi : l[i]? = some (pt g (.cells (cur.setIfInBounds k u) e (0, 0))))
    (hn : n ≤ cap) (hm : cap ≤ maxLen) (hs : cur.size = cap * 1) (ht : cur.toList.take (n * 1) = xs) : Ent (l.set i (row e 1 (.slice (some ⟨g, 0, none⟩) n cap) n (xs.set k u))) w := by
  refine hE.toRow i hi ?_ hn hm (by simpa using hs) ?_
  · rw [List.length_set, ← ht, List.length_take, Array.length_toList, hs]
    omega
  · rw [Array.toList_setIfInBounds, ← ht, List.take_set]
end
end Go.SL
namespace Go.SL
theorem bytes_join (a b : List UInt8) : (⟨a.toArray⟩ : ByteArray) ++ ⟨b.toArray⟩ = ⟨(a ++ b).toArray⟩ := by
  apply ByteArray.ext
  simp [ByteArray.data_append]
theorem bytes_size (a : List UInt8) : (⟨a.toArray⟩ : ByteArray).size = a.length := by simp [ByteArray.size]
theorem wrap_id {n : Int} (h : 0 ≤ n ∧ n < 9223372036854775808) : IntKind.i64.wrap n = n := by
  simp only [IntKind.wrap, IntKind.bits, IntKind.signed]
  simp
  omega
theorem wrapU_id {n : Int} (h : 0 ≤ n ∧ n < 18446744073709551616) : IntKind.u64.wrap n = n := by
  simp only [IntKind.wrap, IntKind.bits, IntKind.signed]
  simp
  omega
theorem run_index_s {P : Program} {t : TypeId} (h : P.underlying t = some .string) {bs : List UInt8} {k : Nat} (hk : k < bs.length) (w : World) :
    (Instr.index t (.string ⟨bs.toArray⟩) (.int .i64 (k : Int))).run P w = .ok (.int .u8 ((bs.getD k 0).toNat : Int)) w := by
  have h1 : (⟨bs.toArray⟩ : ByteArray)[k]? = some (bs.getD k 0) := by
    rw [List.getD_eq_getElem?_getD, List.getElem?_eq_getElem hk]
    have : k < (⟨bs.toArray⟩ : ByteArray).size := by simpa [ByteArray.size] using hk
    rw [getElem?_pos (⟨bs.toArray⟩ : ByteArray) k this]
    simp [ByteArray.getElem_eq_getElem_data]
  simp [Instr.index, asIntOf, run_underlying h, h1]
theorem extract_mk (bs : List UInt8) (a b : Nat) : (⟨bs.toArray⟩ : ByteArray).extract a b = ⟨((bs.drop a).take (b - a)).toArray⟩ := by
  apply ByteArray.ext
  simp [ByteArray.data_extract]
theorem run_slice_sHi {P : Program} {t : TypeId} (h : P.underlying t = some .string) {bs : List UInt8} {k : Nat} (hk : k ≤ bs.length) (w : World) :
    (Instr.sliceAt t (.string ⟨bs.toArray⟩) none (some (.int .i64 (k : Int))) none).run P w = .ok (.string ⟨(bs.take k).toArray⟩) w := by
  have e := extract_mk bs 0 k
  simp only [List.drop_zero, Nat.sub_zero] at e
  have a1 : ((k : Int) ≤ ((⟨bs.toArray⟩ : ByteArray).size : Int)) := by rw [bytes_size]; omega
  have a2 : ¬ (⟨bs.toArray⟩ : ByteArray).size < k := by rw [bytes_size]; omega
  simp [Instr.sliceAt, Instr.slice, run_underlying h, Instr.sliceBounds, Instr.sliceBound, asIntOf, a1, a2, e]
theorem run_slice_s {P : Program} {t : TypeId} (h : P.underlying t = some .string) {bs : List UInt8} {a k : Nat} (ha : a ≤ k) (hk : k ≤ bs.length) (w : World) :
    (Instr.sliceAt t (.string ⟨bs.toArray⟩) (some (.int .i64 (a : Int))) (some (.int .i64 (k : Int))) none).run P w = .ok (.string ⟨((bs.drop a).take (k - a)).toArray⟩) w := by
  have e := extract_mk bs a k
  have a1 : ((k : Int) ≤ ((⟨bs.toArray⟩ : ByteArray).size : Int)) := by rw [bytes_size]; omega
  have a2 : ¬ (⟨bs.toArray⟩ : ByteArray).size < k := by rw [bytes_size]; omega
  have a3 : ¬ (k < a) := by omega
  simp [Instr.sliceAt, Instr.slice, run_underlying h, Instr.sliceBounds, Instr.sliceBound, asIntOf, a1, a2, a3, ha, e]
theorem run_slice_sLo {P : Program} {t : TypeId} (h : P.underlying t = some .string) {bs : List UInt8} {k : Nat} (hk : k ≤ bs.length) (w : World) :
    (Instr.sliceAt t (.string ⟨bs.toArray⟩) (some (.int .i64 (k : Int))) none none).run P w = .ok (.string ⟨(bs.drop k).toArray⟩) w := by
  have e := extract_mk bs k (⟨bs.toArray⟩ : ByteArray).size
  have e2 : ((bs.drop k).take ((⟨bs.toArray⟩ : ByteArray).size - k)) = bs.drop k := List.take_of_length_le (by rw [bytes_size]; simp)
  rw [e2] at e
  have a1 : ((k : Int) ≤ ((⟨bs.toArray⟩ : ByteArray).size : Int)) := by rw [bytes_size]; omega
  have a2 : ¬ (⟨bs.toArray⟩ : ByteArray).size < k := by rw [bytes_size]; omega
  simp [Instr.sliceAt, Instr.slice, run_underlying h, Instr.sliceBounds, Instr.sliceBound, asIntOf, a1, a2, e]
end Go.SL
namespace Go.SL
section
variable {P : Program} {ops : Array Oper} {rest : List Oper} {o : Oper} {a : Act} {Q : Exit → Act → World → Prop} {w : World} {l : List HProp}

/-- the number of cells of a type's zero value -/
def zeroSize (P : Program) (t : TypeId) : Option Nat := (P.info? t).bind fun i => i.zero.map (·.cells.size)

theorem run_zero {t : TypeId} {n : Nat} (h : zeroSize P t = some n) : ∃ v : Value, v.cells.size = n ∧ ∀ w : World, (zeroValue t).run P w = .ok v w := by
  unfold zeroSize at h
  cases hi : P.info? t with
  | none => simp [hi] at h
  | some i =>
    cases hz : i.zero with
    | none => simp [hi, hz] at h
    | some v => exact ⟨v, by simpa [hi, hz] using h, fun w => by simp [zeroValue, typeInfo, hi, hz]⟩

theorem wpl_allocN (hE : Ent l w) {t : TypeId} (ho : o.op = .alloc t) (hw : Region.wanted o (yielded ops a.tmps) = true) {n : Nat} (hz : zeroSize P t = some n)
    (h : ∀ b (cs : List Value) w', cs.length = n → Ent (pt b (.cells cs.toArray t) :: l) w' → wpList P ops Q rest (a.put o.dst (.pointer (some ⟨b, 0, none⟩))) w') : wpList P ops Q (o :: rest) a w := by
  obtain ⟨v, hv, hr⟩ := run_zero hz
  exact wpl_alloc hE ho hw hr fun b w' hE' => h b v.cells.toList w' (by simpa using hv) (by simpa using hE')

/-- a whole value written over the whole of a block -/
theorem wpl_storeN (hE : Ent l w) (i : Nat) {b : Nat} {cs : List Value} {T : TypeId} (hi : l[i]? = some (pt b (.cells cs.toArray T (0, 0))))
    {t : TypeId} {x y : Operand} (ho : o.op = .store t x y) (hw : Region.wanted o (yielded ops a.tmps) = true)
    (hx : a.eval x = .pointer (some ⟨b, 0, none⟩)) {xs : List Value} (hy : a.eval y = .agg xs.toArray) {n : Nat} (hn : ∀ w, (Go.sizeOf t).run P w = .ok n w) (hc : xs.length = n)
    (h1 : ∀ u ∈ xs, u.oneCell' = true) (hfit : cs.length = n)
    (h : ∀ w', Ent (l.set i (pt b (.cells xs.toArray T (0, 0)))) w' → wpList P ops Q rest (a.put o.dst undef) w') : wpList P ops Q (o :: rest) a w := by
  refine wpl_store hE i hi ho hw hx hy hn (by simpa [Value.cells] using hc) (by simpa [Value.cells] using h1) (by simp; omega) fun w' hE' => h w' ?_
  have e : (cs.toArray.toList.take 0 ++ (Value.agg xs.toArray).cells.toList ++ cs.toArray.toList.drop (0 + (Value.agg xs.toArray).cells.toList.length)).toArray = xs.toArray := by
    simp [Value.cells, hc, ← hfit]
  rw [e] at hE'
  exact hE'

theorem Ent.rowIs (hE : Ent l w) (i : Nat) {e : TypeId} {size n c : Nat} {ao : Option Addr} {xs : List Value} (hi : l[i]? = some (row e size (.slice ao n c) n xs)) (h0 : 0 < n) :
    ∃ g, ao = some ⟨g, 0, none⟩ ∧ n ≤ c ∧ c ≤ maxLen := by
  obtain ⟨g, cap, cur, hv, h1, h2, _⟩ := hE.fromRow i hi h0
  cases hv
  exact ⟨g, rfl, h1, h2⟩

theorem Ent.rowCell (hE : Ent l w) (i : Nat) {e : TypeId} {size n c g : Nat} {xs : List Value} (hi : l[i]? = some (row e size (.slice (some ⟨g, 0, none⟩) n c) n xs)) {j : Nat} {u : Value} (hu : xs[j]? = some u) : w.cell? ⟨g, j, none⟩ = some u := by
  obtain ⟨ao, c', e1, _, h⟩ := reads_row hE i hi
  cases e1
  have := h _ rfl j u hu
  rwa [Addr.add_lit, Nat.zero_add] at this

/-- the cells of a row, a part of them written anew -/
def splice (xs : List Value) (off : Nat) (ys : List Value) : List Value := xs.take off ++ ys ++ xs.drop (off + ys.length)

theorem splice_length (xs : List Value) (off : Nat) (ys : List Value) (h : off + ys.length ≤ xs.length) : (splice xs off ys).length = xs.length := by
  simp only [splice, List.length_append, List.length_take, List.length_drop]
  omega

theorem take_put (cs : List Value) (m off : Nat) (ys : List Value) (h : off + ys.length ≤ m) (hm : m ≤ cs.length) : (splice cs off ys).take m = splice (cs.take m) off ys := by
  unfold splice
  apply List.ext_getElem?
  intro j
  have l1 : (cs.take off).length = off := by rw [List.length_take]; omega
  have l3 : (cs.take off ++ ys).length = off + ys.length := by rw [List.length_append, l1]
  have e1 : (cs.take m).take off = cs.take off := by rw [List.take_take, Nat.min_eq_left (by omega)]
  have A : ∀ zs : List Value, (cs.take off ++ ys ++ zs)[j]? = if j < off + ys.length then (cs.take off ++ ys)[j]? else zs[j - (off + ys.length)]? := by
    intro zs
    split
    · rw [List.getElem?_append_left (by omega)]
    · rw [List.getElem?_append_right (by omega), l3]
  rw [List.getElem?_take, e1, A, A]
  by_cases hj : j < off + ys.length
  · rw [if_pos (by omega), if_pos hj, if_pos hj]
  · rw [if_neg hj, if_neg hj, List.getElem?_drop, List.getElem?_drop, List.getElem?_take]
    rw [show off + ys.length + (j - (off + ys.length)) = j by omega]

/-- the elements' cells of a row of things of so many cells, where each is so long -/
theorem flatMap_at' {α : Type} (f : α → List Value) (k : Nat) : ∀ (xs : List α), (∀ x ∈ xs, (f x).length = k) → ∀ (i j : Nat) (x : α) (u : Value), xs[i]? = some x → (f x)[j]? = some u → (xs.flatMap f)[i * k + j]? = some u
  | [], _, _, _, _, _, hx, _ => by simp at hx
  | y :: ys, hk, i, j, x, u, hx, hu => by
    have hxm : x ∈ y :: ys := List.mem_of_getElem? hx
    have hj : j < k := by rw [← hk x hxm]; exact (List.getElem?_eq_some_iff.1 hu).1
    rw [List.flatMap_cons]
    cases i with
    | zero =>
      simp at hx
      subst hx
      rw [List.getElem?_append_left (by rw [hk y (by simp)]; omega)]
      simpa using hu
    | succ i =>
      rw [List.getElem?_append_right (by rw [hk y (by simp), Nat.succ_mul]; omega), hk y (by simp), show (i + 1) * k + j - k = i * k + j by rw [Nat.succ_mul]; omega]
      exact flatMap_at' f k ys (fun z hz => hk z (by simp [hz])) i j x u (by simpa using hx) hu

theorem flatMap_len' {α : Type} (f : α → List Value) (k : Nat) : ∀ xs : List α, (∀ x ∈ xs, (f x).length = k) → (xs.flatMap f).length = xs.length * k
  | [], _ => by simp
  | x :: xs, h => by rw [List.flatMap_cons, List.length_append, h x (by simp), flatMap_len' f k xs (fun y hy => h y (by simp [hy])), List.length_cons, Nat.succ_mul, Nat.add_comm]

theorem flatMap_set' {α : Type} (f : α → List Value) (k : Nat) : ∀ (xs : List α) (i : Nat) (y : α), (∀ x ∈ xs, (f x).length = k) → (f y).length = k → i < xs.length →
    (xs.set i y).flatMap f = (xs.flatMap f).take (i * k) ++ f y ++ (xs.flatMap f).drop (i * k + k)
  | [], i, y, _, _, h => by simp at h
  | x :: xs, 0, y, hk, hy, _ => by
    have hx := hk x (by simp)
    simp only [List.set_cons_zero, List.flatMap_cons, Nat.zero_mul, List.take_zero, List.nil_append, Nat.zero_add]
    rw [List.drop_append, hx, List.drop_eq_nil_of_le (by omega)]
    simp
  | x :: xs, i + 1, y, hk, hy, h => by
    have hx := hk x (by simp)
    simp only [List.set_cons_succ, List.flatMap_cons]
    rw [flatMap_set' f k xs i y (fun z hz => hk z (by simp [hz])) hy (by simpa using h)]
    rw [show (i + 1) * k = (f x).length + i * k by rw [hx, Nat.succ_mul, Nat.add_comm], List.take_length_add_append, Nat.add_assoc, List.drop_length_add_append]
    simp

theorem splice_flatMap {α : Type} (f : α → List Value) (k : Nat) (xs : List α) (i : Nat) (y : α) (h : ∀ x ∈ xs, (f x).length = k) (hy : (f y).length = k) (hi : i < xs.length) : splice (xs.flatMap f) (i * k) (f y) = (xs.set i y).flatMap f := by
  rw [flatMap_set' f k xs i y h hy hi, splice, hy]

theorem and_one (x m : Nat) (hx : x < 256) : (bits .and .u8 ((x : Int) / 2 ^ m) 1 == 1) = (x / 2 ^ m % 2 == 1) := by
  have h1 : ((x : Int) / 2 ^ m) = ((x / 2 ^ m : Nat) : Int) := by push_cast; rfl
  have h2 : x / 2 ^ m < 256 := Nat.lt_of_le_of_lt (Nat.div_le_self _ _) hx
  rw [h1, show (1 : Int) = ((1 : Nat) : Int) from rfl, u8_and_nat _ _ h2 (by omega), Nat.and_one_is_mod]
  rw [Bool.eq_iff_iff]
  simp only [beq_iff_eq]
  omega

theorem Ent.storeRow (hE : Ent l w) (i : Nat) {e : TypeId} {size n c g off : Nat} {xs ys : List Value} (hi : l[i]? = some (row e size (.slice (some ⟨g, 0, none⟩) n c) n xs)) {t : TypeId} {v : Value} {k : Nat}
    (hn : ∀ w, (Go.sizeOf t).run P w = .ok k w) (hv : v.cells.toList = ys) (hk : ys.length = k) (h1 : ∀ u ∈ ys, u.oneCell' = true) (hfit : off + k ≤ n * size) :
    ∃ w', (Instr.storeAt t (.pointer (some ⟨g, off, none⟩)) v).run P w = .ok () w' ∧ Ent (l.set i (row e size (.slice (some ⟨g, 0, none⟩) n c) n (splice xs off ys))) w' := by
  have hl : i < l.length := (List.getElem?_eq_some_iff.1 hi).1
  have h0 : 0 < n ∨ n = 0 := by omega
  have hxs : xs.length = n * size := (hE.owns i hi).1
  obtain ⟨g', cap, cur, hv', hn1, hm1, hs1, ht1, hE1⟩ : ∃ (g' cap : Nat) (cur : Array Value), Value.slice (some ⟨g, 0, none⟩) n c = .slice (some ⟨g', 0, none⟩) n cap ∧ n ≤ cap ∧ cap ≤ maxLen ∧ cur.size = cap * size ∧ cur.toList.take (n * size) = xs ∧ Ent (l.set i (pt g' (.cells cur e (0, 0)))) w := by
    have ho := hE.owns i hi
    rcases ho.2 with ⟨h, _⟩ | ⟨g', cap, cur, hv, hb, hg, hn, hm, hs, ht⟩
    · cases h
    · refine ⟨g', cap, cur, hv, hn, hm, hs, ht, Ent.put ((hE.front i hi).step (Bs := [pt g' (.cells cur e (0, 0))]) (Same.refl w) (Nat.le_refl _) fun F hF => ⟨fun _ _ _ => rfl, F, on_single ?_, fun _ h => .inl h⟩) hl⟩
      unfold row at hF
      unfold pt
      refine ⟨hg, fun x => ?_⟩
      rw [hF.2]
      cases hv
      simp [Value.ownBlock, eq_comm]
  cases hv'
  have hcs : off + k ≤ cur.size := by rw [hs1]; exact Nat.le_trans hfit (Nat.mul_le_mul_right _ hn1)
  have hr := run_storeV (P := P) hE1 i (b := g) (cs := cur) (T := e) (by simp [hl]) hn (v := v) (off := off) (by rw [← hk, ← hv]; simp) (by rw [hv]; exact h1) hcs
  refine ⟨_, hr, ?_⟩
  have hE2 := hE1.setRow i (b := g) (cs := cur) (T := e) (fz := (0, 0)) (by simp [hl]) (splice cur.toList off ys).toArray
  rw [List.set_set] at hE2
  have hE3 := hE2.toRow i (b := g) (cs := (splice cur.toList off ys).toArray) (e := e) (by simp [hl]) (size := size) (n := n) (cap := c) (xs := splice xs off ys) (by rw [splice_length _ _ _ (by rw [hxs, hk]; exact hfit), hxs]) hn1 hm1
    (by simp only [List.size_toArray]; rw [splice_length _ _ _ (by rw [hk]; simpa using hcs)]; simpa using hs1)
    (by rw [← ht1]; exact take_put _ _ _ _ (by rw [hk]; exact hfit) (by simp only [Array.length_toList]; rw [hs1]; exact Nat.mul_le_mul_right _ hn1))
  rw [List.set_set] at hE3
  rw [hv]
  exact hE3

theorem wpl_storeRow (hE : Ent l w) (i : Nat) {e : TypeId} {size n c g off : Nat} {xs ys : List Value} (hi : l[i]? = some (row e size (.slice (some ⟨g, 0, none⟩) n c) n xs)) {t : TypeId} {x y : Operand} {v : Value} {k : Nat}
    (ho : o.op = .store t x y) (hw : Region.wanted o (yielded ops a.tmps) = true) (hx : a.eval x = .pointer (some ⟨g, off, none⟩)) (hy : a.eval y = v)
    (hn : ∀ w, (Go.sizeOf t).run P w = .ok k w) (hv : v.cells.toList = ys) (hk : ys.length = k) (h1 : ∀ u ∈ ys, u.oneCell' = true) (hfit : off + k ≤ n * size)
    (h : ∀ w', Ent (l.set i (row e size (.slice (some ⟨g, 0, none⟩) n c) n (splice xs off ys))) w' → wpList P ops Q rest (a.put o.dst undef) w') : wpList P ops Q (o :: rest) a w := by
  obtain ⟨w', hr, hE'⟩ := hE.storeRow (P := P) i hi hn hv hk h1 hfit
  refine wpl_run_skip hw (w' := w') ?_ (h w' hE')
  simp [execOp, ho, hx, hy, hr]

theorem wpl_storeRowA (hE : Ent l w) (i : Nat) {e : TypeId} {size n c g off : Nat} {xs : List Value} (ys : List Value) (hi : l[i]? = some (row e size (.slice (some ⟨g, 0, none⟩) n c) n xs)) {t : TypeId} {x y : Operand} {k : Nat}
    (ho : o.op = .store t x y) (hw : Region.wanted o (yielded ops a.tmps) = true) (hx : a.eval x = .pointer (some ⟨g, off, none⟩)) (hy : a.eval y = .agg ys.toArray)
    (hn : ∀ w, (Go.sizeOf t).run P w = .ok k w) (hk : ys.length = k) (h1 : ∀ u ∈ ys, u.oneCell' = true) (hfit : off + k ≤ n * size)
    (h : ∀ w', Ent (l.set i (row e size (.slice (some ⟨g, 0, none⟩) n c) n (splice xs off ys))) w' → wpList P ops Q rest (a.put o.dst undef) w') : wpList P ops Q (o :: rest) a w :=
  wpl_storeRow hE i hi ho hw hx hy hn (by simp [Value.cells]) hk h1 hfit h

theorem still_run {a : Act} {K : Act → Prop} {v : Value} {E : Prop} (hw : Region.wanted o (yielded ops a.tmps) = true) (hr : (execOp a.eval o).run P w = .ok (.value v) w) (h : K (a.put o.dst v)) : if Region.wanted o (yielded ops a.tmps) = true then o.still P a w K else E := by
  rw [if_pos hw]
  unfold Oper.still
  rw [hr, Oper.stillUpon_value]
  exact h

theorem still_loadW (hE : Ent l w) (i : Nat) {b : Nat} {xs : List Value} {T : TypeId} {fz : Nat × Nat} (hi : l[i]? = some (pt b (.cells xs.toArray T fz))) {a : Act} {K : Act → Prop} {E : Prop}
    {t : TypeId} {x : Operand} (ho : o.op = .load t x) (hw : Region.wanted o (yielded ops a.tmps) = true)
    (hx : a.eval x = .pointer (some ⟨b, 0, none⟩)) (hA : ∀ w, (isAgg t).run P w = .ok true w) {n : Nat} (hn : ∀ w, (Go.sizeOf t).run P w = .ok n w) (ys : List Value) (hys : ys.length = n) (hl : ∀ j, j < n → xs[j]? = ys[j]?)
    (h : K (a.put o.dst (.agg ys.toArray))) : if Region.wanted o (yielded ops a.tmps) = true then o.still P a w K else E := by
  refine still_run hw ?_ h
  simp [execOp, ho, hx, run_loadA hE i hi hA hn hys (off := 0) (fun j hj => by simpa using hl j hj)]

theorem run_loadR {t : TypeId} (hA : ∀ w, (isAgg t).run P w = .ok true w) {n : Nat} (hn : ∀ w, (Go.sizeOf t).run P w = .ok n w) {ad : Addr} {vs : List Value} (hl : vs.length = n) (hc : ∀ j v, vs[j]? = some v → w.cell? (ad.add j) = some v) :
    (Instr.loadAt t (.pointer (some ad))).run P w = .ok (.agg vs.toArray) w := by
  have hr := run_loadCells_list (P := P) w ad vs hc
  subst hl
  simp [Instr.loadAt, Instr.sureAddr, loadVar, hA, hn, hr]

theorem splice_get (xs : List Value) (off : Nat) (ys : List Value) (j : Nat) (h : off ≤ xs.length) : (splice xs off ys)[j]? = if j < off then xs[j]? else if j < off + ys.length then ys[j - off]? else xs[j]? := by
  have l1 : (xs.take off).length = off := by rw [List.length_take]; omega
  unfold splice
  rw [List.append_assoc]
  by_cases h1 : j < off
  · rw [if_pos h1, List.getElem?_append_left (by omega), List.getElem?_take, if_pos h1]
  · rw [if_neg h1, List.getElem?_append_right (by omega), l1]
    by_cases h2 : j < off + ys.length
    · rw [if_pos h2, List.getElem?_append_left (by omega)]
    · rw [if_neg h2, List.getElem?_append_right (by omega), List.getElem?_drop]
      congr 1
      omega

theorem foldl_set (off : Nat) : ∀ (vs : List Value) (k : Nat) (cs : Array Value), off + k + vs.length ≤ cs.size →
    ((vs.zipIdx k).foldl (fun cs x => cs.setIfInBounds (off + x.2) x.1) cs).toList = splice cs.toList (off + k) vs
  | [], k, cs, _ => by simp [splice]
  | v :: vs, k, cs, h => by
    rw [List.zipIdx_cons, List.foldl_cons, foldl_set off vs (k + 1) _ (by simp only [List.length_cons] at h; simp; omega)]
    simp only [List.length_cons] at h
    apply List.ext_getElem?
    intro j
    simp only [Array.toList_setIfInBounds]
    rw [splice_get _ _ _ _ (by simp; omega), splice_get _ _ _ _ (by simp; omega), List.length_cons]
    by_cases h1 : j < off + k
    · rw [if_pos (by omega), if_pos h1, List.getElem?_set_ne (by omega)]
    · rw [if_neg h1]
      by_cases h2 : j = off + k
      · subst h2
        rw [if_pos (by omega), if_pos (by omega), List.getElem?_set_self (by simp; omega)]
        simp
      · rw [if_neg (by omega)]
        by_cases h3 : j < off + (k + 1) + vs.length
        · rw [if_pos h3, if_pos (by omega), show j - (off + k) = (j - (off + (k + 1))) + 1 by omega, List.getElem?_cons_succ]
        · rw [if_neg h3, if_neg (by omega), List.getElem?_set_ne (by omega)]

theorem foldl_all (vs : List Value) (cs : Array Value) (h : vs.length = cs.size) : (vs.toArray.zipIdx.foldl (fun cs (x : Value × Nat) => cs.setIfInBounds (0 + x.2) x.1) cs) = vs.toArray := by
  have h1 := foldl_set 0 vs 0 cs (by omega)
  apply Array.ext'
  rw [← Array.foldl_toList]
  simp only [Array.toList_zipIdx]
  rw [h1]
  simp [splice, h]

theorem run_buildSlice1 {t e : TypeId} {size : Nat} (ht : P.underlying t = some (.slice e)) (hI : zeroSize P e = some size) (hn : ∀ w, (Go.sizeOf e).run P w = .ok size w) (h0 : 0 < size) (h24 : size ≤ 16777216) (xs : List Value) (hx : xs.length = size) :
    (Instr.buildSlice t 1 #[(0, .agg xs.toArray)]).run P w = .ok (.slice (some ⟨w.heap.size, 0, none⟩) 1 1) (w.alloc (.cells xs.toArray e)) := by
  obtain ⟨z, hz, hzr⟩ := run_zero hI
  have hf := foldl_all xs ((Array.range size).map (fun i => z.cells[i % z.cells.size]!)) (by simp [hx])
  have hc : (Value.agg xs.toArray).cells = xs.toArray := rfl
  simp [Instr.buildSlice, run_underlying ht, hn, hzr, Instr.fill, hc, hx, Nat.not_lt.2 h24, Nat.pos_iff_ne_zero.1 h0, newRow]
  simp at hf
  rw [hf]

theorem fill_step {place : Nat → Option (Nat × Nat)} (cells : Array Value) (i : Nat) (u : Value) (vs : List Value) (off : Nat) (rest : List (Nat × Value)) (hu : u.cells = vs.toArray) (hp : place i = some (off, vs.length)) (h : off + vs.length ≤ cells.size) :
    ∃ c1 : Array Value, c1.toList = splice cells.toList off vs ∧ Instr.fill place cells ((i, u) :: rest) = Instr.fill place c1 rest := by
  refine ⟨vs.toArray.zipIdx.foldl (fun cs (x : Value × Nat) => cs.setIfInBounds (off + x.2) x.1) cells, ?_, ?_⟩
  · rw [← Array.foldl_toList]
    simp only [Array.toList_zipIdx]
    exact foldl_set off vs 0 cells (by omega)
  · simp only [Instr.fill, hp, hu]
    rw [if_neg (by simp; omega)]

/-- two parts that fill a struct -/
theorem fill_two {place : Nat → Option (Nat × Nat)} (z : Array Value) (xs ys : List Value) (u v : Value) (hu : u.cells = xs.toArray) (hv : v.cells = ys.toArray) (h0 : place 0 = some (0, xs.length)) (h1 : place 1 = some (xs.length, ys.length)) (hz : z.size = xs.length + ys.length) :
    Instr.fill place z [(0, u), (1, v)] = some (xs ++ ys).toArray := by
  obtain ⟨c1, e1, f1⟩ := fill_step z 0 u xs 0 [(1, v)] hu h0 (by omega)
  have s1 : c1.size = z.size := by rw [← Array.length_toList, e1, splice_length _ _ _ (by simp; omega), Array.length_toList]
  obtain ⟨c2, e2, f2⟩ := fill_step c1 1 v ys xs.length [] hv h1 (by omega)
  rw [f1, f2, Instr.fill]
  congr 1
  apply Array.ext'
  rw [e2, e1]
  simp only [splice, List.take_zero, List.nil_append, Nat.zero_add]
  rw [List.take_left, List.drop_append, List.drop_eq_nil_of_le (by omega), List.drop_drop, List.drop_eq_nil_of_le (by simp; omega)]
  simp

/-- what an append asks of the type of the elements: zero value's cells, cells, bytes -/
def elemInfo (P : Program) (e : TypeId) : Option (Option Nat × Nat × Nat) := (P.info? e).map fun i => (i.zero.map (·.cells.size), i.size, i.bytes)

theorem elemInfo_parts {e : TypeId} {size bytes : Nat} (h : elemInfo P e = some (some size, size, bytes)) : ∃ i z, P.info? e = some i ∧ i.zero = some z ∧ i.size = size ∧ i.bytes = bytes ∧ z.cells.size = size := by
  unfold elemInfo at h
  cases hi : P.info? e with
  | none => simp [hi] at h
  | some i =>
    simp only [hi, Option.map_some, Option.some.injEq, Prod.mk.injEq] at h
    obtain ⟨h1, h2, h3⟩ := h
    cases hz : i.zero with
    | none => simp [hz] at h1
    | some z => exact ⟨i, z, rfl, hz, h2, h3, by simpa [hz] using h1⟩

theorem Ent.appendG {e : TypeId} {size bytes : Nat} {t : TypeId} (ty : TypeId) (hE : Ent l w) (k : Nat) {v : Value} {n : Nat} {xs : List Value} (hk : l[k]? = some (row e size v n xs))
    (ht : P.underlying t = some (.slice e)) (hI : elemInfo P e = some (some size, size, bytes)) (hsz : 0 < size)
    {x : Value} {m : Nat} {news : List Value} (hx : reads x m news w) (hl : news.length = m * size) (h1 : ∀ u ∈ news, u.oneCell' = true) (hbytes : (n + m) * bytes ≤ 140737488355328) (h63 : n + m ≤ 140737488355328) :
    ∃ ao' c' w', (Builtin.append_ #[t, t] ty #[v, x]).run P w = .ok (.slice ao' (n + m) c') w' ∧ Ent (l.set k (row e size (.slice ao' (n + m) c') (n + m) (xs ++ news))) w' := by
  obtain ⟨i, z, hi, hz, hs, hb, hzs⟩ := elemInfo_parts hI
  exact hE.append ty k hk ht hi hz hs hb hzs hsz hx hl h1 (by unfold maxLen; omega) hbytes

theorem wpl_appendG {e : TypeId} {size bytes : Nat} {t : TypeId} (hE : Ent l w) (k : Nat) {v : Value} {n : Nat} {xs : List Value} (hk : l[k]? = some (row e size v n xs))
    {s y : Operand} (ho : o.op = .call { callee := .builtin .append, args := #[s, y], argTypes := #[t, t] }) (hw : Region.wanted o (yielded ops a.tmps) = true)
    (hs : a.eval s = v) {x : Value} (hy : a.eval y = x)
    (ht : P.underlying t = some (.slice e)) (hI : elemInfo P e = some (some size, size, bytes)) (hsz : 0 < size)
    {m : Nat} {news : List Value} (hx : reads x m news w) (hl : news.length = m * size) (h1 : ∀ u ∈ news, u.oneCell' = true) (hbytes : (n + m) * bytes ≤ 140737488355328) (h63 : n + m ≤ 140737488355328)
    (h : ∀ ao' c' w', Ent (l.set k (row e size (.slice ao' (n + m) c') (n + m) (xs ++ news))) w' → wpList P ops Q rest (a.put o.dst (.slice ao' (n + m) c')) w') : wpList P ops Q (o :: rest) a w := by
  obtain ⟨ao', c', w', hr, hE'⟩ := hE.appendG (P := P) o.type k hk ht hI hsz hx hl h1 hbytes h63
  refine wpl_run hw (w' := w') (v := .slice ao' (n + m) c') ?_ (h ao' c' w' hE')
  simp [execOp, ho, resolve, invoke, builtin, hs, hy, hr]

theorem step_appendG {e : TypeId} {size bytes : Nat} {t : TypeId} {K : Act → World → Prop} {E : Prop} (hE : Ent l w) (k : Nat) {v : Value} {n : Nat} {xs : List Value} (hk : l[k]? = some (row e size v n xs))
    {s y : Operand} (ho : o.op = .call { callee := .builtin .append, args := #[s, y], argTypes := #[t, t] }) (hw : Region.wanted o (yielded ops a.tmps) = true)
    (hs : a.eval s = v) {x : Value} (hy : a.eval y = x)
    (ht : P.underlying t = some (.slice e)) (hI : elemInfo P e = some (some size, size, bytes)) (hsz : 0 < size)
    {m : Nat} {news : List Value} (hx : reads x m news w) (hl : news.length = m * size) (h1 : ∀ u ∈ news, u.oneCell' = true) (hbytes : (n + m) * bytes ≤ 140737488355328) (h63 : n + m ≤ 140737488355328)
    (h : ∀ ao' c' w', Ent (l.set k (row e size (.slice ao' (n + m) c') (n + m) (xs ++ news))) w' → K (a.put o.dst (.slice ao' (n + m) c')) w') : if Region.wanted o (yielded ops a.tmps) = true then Oper.wp P o a w K Q else E := by
  rw [if_pos hw]
  obtain ⟨ao', c', w', hr, hE'⟩ := hE.appendG (P := P) o.type k hk ht hI hsz hx hl h1 hbytes h63
  unfold Oper.wp execOp
  simp only [ho, resolve, invoke, builtin, Sem.run_bind, Sem.run_pure, Result.andThen_ok, List.map_toArray, List.map_cons, List.map_nil, hs, hy, hr]
  exact h ao' c' w' hE'
end
attribute [irreducible] splice
end Go.SL
namespace Go.SL
section
variable {P : Program} {ops : Array Oper} {rest : List Oper} {o : Oper} {a : Act} {Q : Exit → Act → World → Prop} {w : World} {l : List HProp}

/-- a type's zero value's cells, its size, its bytes -/
def zeroList (P : Program) (e : TypeId) : Option (List Value × Nat × Nat) := (P.info? e).bind fun i => i.zero.map fun z => (z.cells.toList, i.size, i.bytes)

theorem zeroList_parts {e : TypeId} {zs : List Value} {size bytes : Nat} (h : zeroList P e = some (zs, size, bytes)) : ∃ i z, P.info? e = some i ∧ i.zero = some z ∧ i.size = size ∧ i.bytes = bytes ∧ z.cells.toList = zs := by
  unfold zeroList at h
  cases hi : P.info? e with
  | none => simp [hi] at h
  | some i =>
    cases hz : i.zero with
    | none => simp [hi, hz] at h
    | some z =>
      simp only [hi, hz, Option.bind_some, Option.map_some, Option.some.injEq, Prod.mk.injEq] at h
      exact ⟨i, z, rfl, hz, h.2.1, h.2.2, h.1⟩

theorem made_flat (z : Array Value) (n : Nat) (h0 : 0 < z.size) : (madeCells z (n * z.size)).toList = (List.replicate n z.toList).flatten := by
  have hl : ((List.replicate n z.toList).flatMap id).length = n * z.size := by
    rw [flatMap_len' id z.size _ (fun x hx => by rw [(List.mem_replicate.1 hx).2]; simp)]
    simp
  rw [show (List.replicate n z.toList).flatten = (List.replicate n z.toList).flatMap id by simp [List.flatMap]]
  apply List.ext_getElem?
  intro j
  by_cases hj : j < n * z.size
  · have hjd : j / z.size < n := (Nat.div_lt_iff_lt_mul h0).2 hj
    have hjm : j % z.size < z.size := Nat.mod_lt _ h0
    have h1 := flatMap_at' id z.size (List.replicate n z.toList) (fun x hx => by rw [(List.mem_replicate.1 hx).2]; simp) (j / z.size) (j % z.size) z.toList z.toList[j % z.size] (by simp [hjd]) (by simp)
    rw [Nat.mul_comm, Nat.div_add_mod] at h1
    rw [h1]
    simp [madeCells, hj, hjm]
  · rw [List.getElem?_eq_none (l := (List.replicate n z.toList).flatMap id) (by omega)]
    simp [madeCells, hj]

theorem Ent.makeN (hE : Ent l w) {t e : TypeId} (ht : P.underlying t = some (.slice e)) {zs : List Value} {size bytes : Nat} (hz : zeroList P e = some (zs, size, bytes)) (hs : zs.length = size) (h0 : 0 < size) (kl kc : IntKind) (n : Nat) (hb : n * bytes ≤ 281474976710656) (h63 : n ≤ 281474976710656) :
    ∃ g w', (Instr.makeSlice t (.int kl (n : Int)) (.int kc (n : Int))).run P w = .ok (.slice (some ⟨g, 0, none⟩) n n) w' ∧ Ent (row e size (.slice (some ⟨g, 0, none⟩) n n) n (List.replicate n zs).flatten :: l) w' := by
  obtain ⟨i, z, hi, hzz, h2, h3, h4⟩ := zeroList_parts hz
  subst h3
  have hsz : z.cells.size = size := by rw [← hs, ← h4]; simp
  obtain ⟨w', hr, ho, hg⟩ := run_make_full (P := P) w 0 t e i z size ht hi hzz h2 kl kc n (by rw [Nat.mul_comm]; exact hb) (by unfold maxLen; omega) (Nat.zero_le _)
  rw [← hsz, made_flat z.cells n (by omega), h4, hsz] at ho
  refine ⟨_, w', hr, hE.step0 (Bs := [row e size (.slice (some ⟨w.heap.size, 0, none⟩) n n) n (List.replicate n zs).flatten]) ⟨hg.os, hg.tape, hg.output⟩ hg.size (fun b hb => hg.block b hb (by simp)) ⟨fun b => b = w.heap.size, on_single ?_, fun b hb => by omega⟩⟩
  unfold row
  exact ⟨ho, fun b => by simp [Value.ownBlock, eq_comm]⟩

theorem wpl_make (hE : Ent l w) {t e : TypeId} {x y : Operand} (ho : o.op = .makeSlice t x y) (hw : Region.wanted o (yielded ops a.tmps) = true) (ht : P.underlying t = some (.slice e)) {zs : List Value} {size bytes : Nat} (hz : zeroList P e = some (zs, size, bytes)) (hs : zs.length = size) (h0 : 0 < size) {kl kc : IntKind} (n : Nat)
    (hx : a.eval x = .int kl (n : Int)) (hy : a.eval y = .int kc (n : Int)) (hb : n * bytes ≤ 281474976710656) (h63 : n ≤ 281474976710656)
    (h : ∀ g w', Ent (row e size (.slice (some ⟨g, 0, none⟩) n n) n (List.replicate n zs).flatten :: l) w' → wpList P ops Q rest (a.put o.dst (.slice (some ⟨g, 0, none⟩) n n)) w') : wpList P ops Q (o :: rest) a w := by
  obtain ⟨g, w', hr, hE'⟩ := hE.makeN (P := P) ht hz hs h0 kl kc n hb h63
  refine wpl_run hw (w' := w') (v := .slice (some ⟨g, 0, none⟩) n n) ?_ (h g w' hE')
  simp [execOp, ho, hx, hy, hr]

/-- a block as a slice that is only read -/
theorem Ent.ptView (hE : Ent l w) (i : Nat) {b n c : Nat} {cs : Array Value} {T : TypeId} {fz : Nat × Nat} {xs : List Value} (hi : l[i]? = some (pt b (.cells cs T fz))) (h : ∀ (j : Nat) (u : Value), xs[j]? = some u → cs[j]? = some u) : Ent (l.set i (view (.slice (some ⟨b, 0, none⟩) n c) n xs)) w := by
  have hr : reads (.slice (some ⟨b, 0, none⟩) n c) n xs w := reads_pt hE i hi (off := 0) (fun j u hu => by rw [Nat.zero_add]; exact h j u hu)
  have hs := hE.size i hi
  refine Ent.put ((hE.front i hi).step (Bs := [view (.slice (some ⟨b, 0, none⟩) n c) n xs]) (Same.refl w) (Nat.le_refl _) fun F hF => ⟨fun _ _ _ => rfl, F, on_single ?_, fun _ h => .inl h⟩) (List.getElem?_eq_some_iff.1 hi).1
  unfold pt at hF
  unfold view
  refine ⟨hr, fun x hx => ?_, fun x => ?_⟩
  · simp [Value.ownBlock] at hx; omega
  · rw [hF.2]; simp [Value.ownBlock, eq_comm]

/-- two results, the first one in a block of its own -/
theorem results_cell2 {fn : Func} {k j : Tmp} {t : TypeId} (h : fn.results = #[.cell k t, .tmp j]) {tmps : Array Value} (hE : Ent l w) (i : Nat) {b : Nat} {xs : List Value} {T : TypeId} {fz : Nat × Nat} (hi : l[i]? = some (pt b (.cells xs.toArray T fz)))
    (hp : tmps.getD k undef = .pointer (some ⟨b, 0, none⟩)) (hA : ∀ w, (isAgg t).run P w = .ok true w) {n : Nat} (hn : ∀ w, (Go.sizeOf t).run P w = .ok n w) (hl : xs.length = n) {v : Value} (hv : tmps.getD j undef = v) : (results fn tmps).run P w = .ok (.tuple #[.agg xs.toArray, v]) w := by
  have hp' : tmps[k]?.getD undef = .pointer (some ⟨b, 0, none⟩) := by simpa using hp
  have hv' : tmps[j]?.getD undef = v := by simpa using hv
  simp only [results, h]
  simp [hp', hv', asAddr, run_resultA hE i hi hA hn hl]

theorem still_loadR {K : Act → Prop} {E : Prop} {t : TypeId} {x : Operand} (ho : o.op = .load t x) (hw : Region.wanted o (yielded ops a.tmps) = true) {ad : Addr}
    (hx : a.eval x = .pointer (some ad)) (hA : ∀ w, (isAgg t).run P w = .ok true w) {n : Nat} (hn : ∀ w, (Go.sizeOf t).run P w = .ok n w) (vs : List Value) (hl : vs.length = n) (hc : ∀ j v, vs[j]? = some v → w.cell? (ad.add j) = some v)
    (h : K (a.put o.dst (.agg vs.toArray))) : if Region.wanted o (yielded ops a.tmps) = true then o.still P a w K else E := by
  refine still_run hw ?_ h
  simp [execOp, ho, hx, run_loadR hA hn hl hc]

/-- what is new stands among what is only read -/
theorem Ent.keepNew {A : HProp} {F R : List HProp} (hE : Ent (A :: (F ++ R)) w) : Ent (F ++ A :: R) w := hE.perm List.perm_middle.symm
theorem Ent.tails {F R : List HProp} (hE : Ent (F ++ R) w) : Ent R w := hE.drop

/-- a fact on the state that a piece of code leaves at its regular end alone -/
def Meet (Φ : Act → World → Prop) : Exit → Act → World → Prop
  | .normal, a, w => Φ a w
  | _, _, _ => False

/-- a piece of code whose ways meet again in one fact on the state that it leaves -/
theorem wp_meet {code : Code} {Q : Exit → Act → World → Prop} {a : Act} {w : World} (Φ : Act → Act → World → Prop) (h1 : code.wp P (Meet (Φ a)) a w) (h2 : ∀ a' w', Φ a a' w' → Q .normal a' w') : code.wp P Q a w :=
  Code.wp_mono (fun e a' w' h => by cases e <;> first | exact h2 a' w' h | exact (h : False).elim) h1
end
end Go.SL
namespace Go.Proofs.YtdpfigkjkjjedaaDoor
open Go.RowKit Go.SL

def ValRel (bs : List UInt8) (n i : Value) : Prop := ∃ k : Nat, k ≤ bs.length ∧ i = .int .i64 k ∧ n = .int .u64 (beVal (bs.take k))

theorem val_step {bs : List UInt8} {k : Nat} (hk : k < bs.length) : IntKind.u64.wrap (IntKind.u64.wrap ((beVal (bs.take k) : Int) * 256) + IntKind.u64.wrap ((bs.getD k 0).toNat : Int)) = (beVal (bs.take (k + 1)) : Int) := by
  rw [List.take_succ_eq_append_getElem hk, beVal_snoc]
  have e : bs.getD k 0 = bs[k] := by simp [List.getD_eq_getElem?_getD, hk]
  rw [e]
  have hc := bs[k].toNat_lt
  generalize bs[k].toNat = c at *
  generalize beVal (bs.take k) = n
  simp only [IntKind.wrap, IntKind.bits, IntKind.signed, Bool.false_and, Bool.false_eq_true, if_false]
  omega

set_option maxRecDepth 100000 in
theorem Value_any (bs : List UInt8) (w : World) (hb : bs.length ≤ 1099511627776) :
    Calls Tryd.prog 57 #[.string ⟨bs.toArray⟩] w (fun e w' => e = .returned (.int .u64 (beVal bs)) ∧ w = w') := by
  go_enter Tryd.func57, Tryd.ntmps57
  go_wp2
  go_loop [3, 4] (fun n i => ValRel bs n i) (fun _ i => bs.length - (intOf i).toNat)
  case atStart => exact ⟨0, Nat.zero_le _, rfl, rfl⟩
  case round =>
    obtain ⟨k, hk, rfl, rfl⟩ := hrel
    by_cases hlt : k < bs.length
    · have ix := fun w => run_index_s (P := Tryd.prog) Tryd.underlying9 hlt w
      have hs := val_step hlt
      generalize hg : (bs.getD k 0).toNat = c at *
      clear hg
      generalize hm : beVal (bs.take (k + 1)) = m at *
      generalize beVal (bs.take k) = n at *
      have Hm := SL.hid hm
      clear hm
      go_wp2
      go_round
      case rel => exact ⟨k + 1, hlt, by simp, by rw [Hm.out]⟩
      case measure => simp [intOf]; omega
    · have E1 := SL.hid (show k = bs.length by omega)
      go_wp2
      go_ret
      have hk := E1.out
      subst hk
      rw [List.take_length]
      exact ⟨rfl, rfl⟩

end Go.Proofs.YtdpfigkjkjjedaaDoor
namespace Go.Proofs.YtdpfigkjkjjedaaDoor


variable {P : Program} {md : Region.Mode} {ops : Array Oper} {Q : Exit → Act → World → Prop} {S : World → Prop}
theorem takeW (i : Nat) (oi : Oper) (v : Value) {fuel : Nat} {listed : Array Bool} {a : Act} {w : World} (hy : YieldsIf P ops S oi v a) (hS : S w) (h : wpAnyH P md ops Q S fuel (listed.setIfInBounds i true) (a.put oi.dst v) w)
    (hi : ops[i]? = some oi := by rfl) (hs : Region.noSelect ops = true := by kernel_rfl) (hf : Region.free md ops listed i = true := by kernel_rfl) (hr : (Region.ready md ops listed).contains i = true := by kernel_rfl)
    (hQ : ∀ c a w, Q (.panic c) (a.put oi.dst v) w → Q (.panic c) a w := by exact fun _ _ _ h => h) : wpAnyH P md ops Q S (fuel + 1) listed a w :=
  wpAnyH_take hi hs hf hr hQ hy hS h
theorem sz {α : Type} (a : α) (xs : List α) (n : Nat) (x : α) : (a :: xs).set (n + 1) x = a :: xs.set n x := rfl
theorem s0 {α : Type} (a : α) (xs : List α) (x : α) : (a :: xs).set 0 x = x :: xs := rfl
theorem sb {α : Type} (xs : List α) (n : Nat) (x : α) : xs.toArray.setIfInBounds n x = (xs.set n x).toArray := by simp
end Go.Proofs.YtdpfigkjkjjedaaDoor
namespace Go.SL
section
variable {P : Program} {ops : Array Oper} {rest : List Oper} {o : Oper} {a : Act} {Q : Exit → Act → World → Prop} {w : World} {l : List HProp}

abbrev mEnt (k v : Value) (b : Nat) : MapEntry := { key := k, val := v, born := b }
/-- an empty map is made -/
theorem wpl_makeMap (hE : Ent l w) {t : TypeId} (ho : o.op = .makeMap t none) (hw : Region.wanted o (yielded ops a.tmps) = true)
    (h : ∀ r w', Ent (pt r (.map #[] 0) :: l) w' → wpList P ops Q rest (a.put o.dst (.map (some r))) w') : wpList P ops Q (o :: rest) a w := by
  refine wpl_run hw (w' := w.alloc (.map #[] 0)) (v := .map (some w.heap.size)) ?_ (h _ _ (hE.alloc _))
  simp [execOp, ho, Instr.makeMap, newObj, Sem.run]

theorem Ent.setMap (hE : Ent l w) (i : Nat) {r : Nat} {ob ob' : Obj} (hi : l[i]? = some (pt r ob)) : Ent (l.set i (pt r ob')) { w with heap := w.heap.setIfInBounds r ob' } := by
  refine hE.turn i hi ⟨rfl, rfl, rfl⟩ (by simp) ?_ (fun k _ hk => ?_)
  · have := hE.size i hi
    simp [this]
  · simp [Array.getElem?_setIfInBounds, Ne.symm hk]

/-- an entry with a new key is put -/
theorem wpl_insert (hE : Ent l w) (i : Nat) {r : Nat} {es : List MapEntry} {clock : Nat} (hi : l[i]? = some (pt r (.map es.toArray clock)))
    {t kt et : TypeId} {x y z : Operand} (ho : o.op = .insert t x y z) (hw : Region.wanted o (yielded ops a.tmps) = true) (hx : a.eval x = .map (some r)) {ik : IntKind} {n : Int} (hy : a.eval y = .int ik n) {v : Value} (hz : a.eval z = v)
    (ht : P.underlying t = some (.map kt et)) (hk : P.underlying kt = some (.int ik)) (hnew : Instr.findNow (.int ik) (.int ik n) es 0 = some none)
    (h : ∀ w', Ent (l.set i (pt r (.map (es ++ [mEnt (.int ik n) v clock]).toArray (clock + 1)))) w' → wpList P ops Q rest (a.put o.dst undef) w') : wpList P ops Q (o :: rest) a w := by
  have hb := hE.at i hi
  have hc : ∀ m, (Instr.checkKey false (m + 1) kt (.int ik n)).run P w = .ok () w := fun m => by
    unfold Instr.checkKey
    simp [run_underlying hk]
  have hf : (Instr.findKey kt (.int ik n) es).run P w = .ok none w := by
    unfold Instr.findKey
    simp [run_underlying hk, hnew]
  refine wpl_run_skip hw (w' := { w with heap := w.heap.setIfInBounds r (.map (es ++ [mEnt (.int ik n) v clock]).toArray (clock + 1)) }) ?_ (h _ (hE.setMap i hi))
  have hg := MapKept.run_getObj_map (P := P) hb
  have hs := MapKept.run_setObj_map (P := P) (.map (es.toArray.push (mEnt (.int ik n) v clock)) (clock + 1)) hb
  have e : es.toArray.push (mEnt (.int ik n) v clock) = (es ++ [mEnt (.int ik n) v clock]).toArray := by simp
  rw [e] at hs
  simp [execOp, ho, hx, hy, hz, Instr.mapUpdate, run_underlying ht, hg, hc 9999, hf, e, hs]

/-- a key is looked up -/
theorem wpl_lookup (hE : Ent l w) (i : Nat) {r : Nat} {es : List MapEntry} {clock : Nat} (hi : l[i]? = some (pt r (.map es.toArray clock)))
    {t kt et : TypeId} {x y : Operand} (ho : o.op = .lookup t x y false) (hw : Region.wanted o (yielded ops a.tmps) = true) (hx : a.eval x = .map (some r)) {ik : IntKind} {n : Int} (hy : a.eval y = .int ik n)
    (ht : P.underlying t = some (.map kt et)) (hk : P.underlying kt = some (.int ik)) {v : Value} {j : Nat} (hfind : Instr.findNow (.int ik) (.int ik n) es 0 = some (some (j, v)))
    (h : wpList P ops Q rest (a.put o.dst v) w) : wpList P ops Q (o :: rest) a w := by
  have hb := hE.at i hi
  have hc : ∀ e m, (Instr.checkKey e (m + 1) kt (.int ik n)).run P w = .ok () w := fun e m => by
    unfold Instr.checkKey
    simp [run_underlying hk]
  have hf : (Instr.findKey kt (.int ik n) es).run P w = .ok (some (j, v)) w := by
    unfold Instr.findKey
    simp [run_underlying hk, hfind]
  have hg := MapKept.run_getObj_map (P := P) hb
  refine wpl_run hw (w' := w) (v := v) ?_ h
  simp [execOp, ho, hx, hy, Instr.lookup, run_underlying ht, hg, hc _ 9999, hf]
/-- a key that is not there -/
theorem wpl_lookupNot (hE : Ent l w) (i : Nat) {r : Nat} {es : List MapEntry} {clock : Nat} (hi : l[i]? = some (pt r (.map es.toArray clock)))
    {t kt et : TypeId} {x y : Operand} (ho : o.op = .lookup t x y false) (hw : Region.wanted o (yielded ops a.tmps) = true) (hx : a.eval x = .map (some r)) {ik : IntKind} {n : Int} (hy : a.eval y = .int ik n)
    (ht : P.underlying t = some (.map kt et)) (hk : P.underlying kt = some (.int ik)) {v : Value} (hz : ∀ w, (zeroValue et).run P w = .ok v w) (hfind : Instr.findNow (.int ik) (.int ik n) es 0 = some none)
    (h : wpList P ops Q rest (a.put o.dst v) w) : wpList P ops Q (o :: rest) a w := by
  have hb := hE.at i hi
  have hc : ∀ e m, (Instr.checkKey e (m + 1) kt (.int ik n)).run P w = .ok () w := fun e m => by
    unfold Instr.checkKey
    simp [run_underlying hk]
  have hf : (Instr.findKey kt (.int ik n) es).run P w = .ok none w := by
    unfold Instr.findKey
    simp [run_underlying hk, hfind]
  have hg := MapKept.run_getObj_map (P := P) hb
  refine wpl_run hw (w' := w) (v := v) ?_ h
  simp [execOp, ho, hx, hy, Instr.lookup, run_underlying ht, hg, hc _ 9999, hf, hz]

theorem run_buildSlice2 {t e : TypeId} {size : Nat} (ht : P.underlying t = some (.slice e)) (hI : zeroSize P e = some size) (hn : ∀ w, (Go.sizeOf e).run P w = .ok size w) (h0 : 0 < size) (h24 : 2 * size ≤ 16777216) (xs ys : List Value) (hx : xs.length = size) (hy : ys.length = size) :
    (Instr.buildSlice t 2 #[(0, .agg xs.toArray), (1, .agg ys.toArray)]).run P w = .ok (.slice (some ⟨w.heap.size, 0, none⟩) 2 2) (w.alloc (.cells (xs ++ ys).toArray e)) := by
  obtain ⟨z, hz, hzr⟩ := run_zero hI
  have hf := fill_two (place := fun i => some (i * size, size)) ((Array.range (2 * size)).map (fun i => z.cells[i % z.cells.size]!)) xs ys (.agg xs.toArray) (.agg ys.toArray) rfl rfl (by simp [hx]) (by simp [hx, hy]) (by simp [hx, hy]; omega)
  have h2 : ¬ 2 * size = 0 := by omega
  have h3 : ¬ 2 ^ 24 < 2 * size := by omega
  simp only [Instr.buildSlice, Sem.run_bind, run_underlying ht, Result.andThen_ok, hn, hzr, if_neg h2, gt_iff_lt, if_neg h3, Sem.run_pure, hf, newRow]
  simp

/-- a slice of two structs -/
theorem wpl_build2 (hE : Ent l w) {t e : TypeId} {x y : Operand} (ho : o.op = .buildSlice t 2 #[(0, x), (1, y)]) (hw : Region.wanted o (yielded ops a.tmps) = true) {xs ys : List Value} (hx : a.eval x = .agg xs.toArray) (hy : a.eval y = .agg ys.toArray)
    (ht : P.underlying t = some (.slice e)) {size : Nat} (hI : zeroSize P e = some size) (hn : ∀ w, (Go.sizeOf e).run P w = .ok size w) (h0 : 0 < size) (h24 : 2 * size ≤ 16777216) (hxl : xs.length = size) (hyl : ys.length = size)
    (h : ∀ b w', Ent (pt b (.cells (xs ++ ys).toArray e) :: l) w' → wpList P ops Q rest (a.put o.dst (.slice (some ⟨b, 0, none⟩) 2 2)) w') : wpList P ops Q (o :: rest) a w := by
  refine wpl_run hw (w' := w.alloc (.cells (xs ++ ys).toArray e)) (v := .slice (some ⟨w.heap.size, 0, none⟩) 2 2) ?_ (h _ _ (hE.alloc _))
  have hr := run_buildSlice2 (P := P) (w := w) ht hI hn h0 h24 xs ys hxl hyl
  simp [execOp, ho, hx, hy, hr]
/-- a slice of one struct -/
theorem wpl_build1 (hE : Ent l w) {t e : TypeId} {x : Operand} (ho : o.op = .buildSlice t 1 #[(0, x)]) (hw : Region.wanted o (yielded ops a.tmps) = true) {xs : List Value} (hx : a.eval x = .agg xs.toArray)
    (ht : P.underlying t = some (.slice e)) {size : Nat} (hI : zeroSize P e = some size) (hn : ∀ w, (Go.sizeOf e).run P w = .ok size w) (h0 : 0 < size) (h24 : size ≤ 16777216) (hxl : xs.length = size)
    (h : ∀ b w', Ent (pt b (.cells xs.toArray e) :: l) w' → wpList P ops Q rest (a.put o.dst (.slice (some ⟨b, 0, none⟩) 1 1)) w') : wpList P ops Q (o :: rest) a w := by
  refine wpl_run hw (w' := w.alloc (.cells xs.toArray e)) (v := .slice (some ⟨w.heap.size, 0, none⟩) 1 1) ?_ (h _ _ (hE.alloc _))
  have hr := run_buildSlice1 (P := P) (w := w) ht hI hn h0 h24 xs hxl
  simp [execOp, ho, hx, hr]
end
end Go.SL
namespace Go.SL
section
variable {P : Program} {ops : Array Oper} {rest : List Oper} {o : Oper} {a : Act} {Q : Exit → Act → World → Prop} {w : World} {l : List HProp}

/-- entries with these keys and values -/
def entsOf (ik : IntKind) (kvs : List (Int × Value)) (es : List MapEntry) : Prop := es.map (fun e => (e.key, e.val)) = kvs.map fun p => (.int ik p.1, p.2)
def mapI (r : Nat) (ik : IntKind) (kvs : List (Int × Value)) : HProp := ex fun x : { x : List MapEntry × Nat // entsOf ik kvs x.1 } => [pt r (.map x.1.1.toArray x.1.2)]
def lookI (kvs : List (Int × Value)) (n : Int) (z : Value) : Value := match kvs.find? (fun p => n == p.1) with | some p => p.2 | none => z

theorem findNow_new (ik : IntKind) (n : Int) : ∀ (kvs : List (Int × Value)) (es : List MapEntry) (i : Nat), entsOf ik kvs es → (kvs.all fun p => !(n == p.1)) = true → Instr.findNow (.int ik) (.int ik n) es i = some none
  | [], es, i, h, _ => by
    have : es = [] := by simpa [entsOf] using h
    subst this
    rfl
  | p :: kvs, [], i, h, _ => by simp [entsOf] at h
  | p :: kvs, e :: es, i, h, hn => by
    simp only [entsOf, List.map_cons, List.cons.injEq, Prod.mk.injEq] at h
    simp only [List.all_cons, Bool.and_eq_true, Bool.not_eq_true'] at hn
    unfold Instr.findNow
    rw [h.1.1]
    simp only [Instr.sameNow, if_true, hn.1]
    exact findNow_new ik n kvs es (i + 1) h.2 hn.2
theorem findNow_old (ik : IntKind) (n : Int) : ∀ (kvs : List (Int × Value)) (es : List MapEntry) (i : Nat) (p : Int × Value), entsOf ik kvs es → kvs.find? (fun p => n == p.1) = some p → ∃ j, Instr.findNow (.int ik) (.int ik n) es i = some (some (j, p.2))
  | [], es, i, p, h, hf => by simp at hf
  | q :: kvs, [], i, p, h, _ => by simp [entsOf] at h
  | q :: kvs, e :: es, i, p, h, hf => by
    simp only [entsOf, List.map_cons, List.cons.injEq, Prod.mk.injEq] at h
    unfold Instr.findNow
    rw [h.1.1]
    simp only [Instr.sameNow, if_true]
    cases hq : (n == q.1) with
    | true =>
      simp only [List.find?_cons, hq] at hf
      cases hf
      exact ⟨i, by rw [h.1.2]⟩
    | false =>
      simp only [List.find?_cons, hq] at hf
      exact findNow_old ik n kvs es (i + 1) p h.2 hf

theorem wpl_makeMapI (hE : Ent l w) {t : TypeId} (ik : IntKind) (ho : o.op = .makeMap t none) (hw : Region.wanted o (yielded ops a.tmps) = true)
    (h : ∀ r w', Ent (mapI r ik [] :: l) w' → wpList P ops Q rest (a.put o.dst (.map (some r))) w') : wpList P ops Q (o :: rest) a w :=
  wpl_makeMap hE ho hw fun r w' hE' => h r w' (Ent.pack ⟨([], 0), rfl⟩ hE')

theorem wpl_insertI (hE : Ent l w) (i : Nat) {r : Nat} {ik : IntKind} {kvs : List (Int × Value)} (hi : l[i]? = some (mapI r ik kvs))
    {t kt et : TypeId} {x y z : Operand} (ho : o.op = .insert t x y z) (hw : Region.wanted o (yielded ops a.tmps) = true) (hx : a.eval x = .map (some r)) {n : Int} (hy : a.eval y = .int ik n) {v : Value} (hz : a.eval z = v)
    (ht : P.underlying t = some (.map kt et)) (hk : P.underlying kt = some (.int ik)) (hnew : (kvs.all fun p => !(n == p.1)) = true)
    (h : ∀ w', Ent (l.set i (mapI r ik (kvs ++ [(n, v)]))) w' → wpList P ops Q rest (a.put o.dst undef) w') : wpList P ops Q (o :: rest) a w := by
  obtain ⟨⟨⟨es, c⟩, he⟩, hE1⟩ := Ent.unpack (hE.front i hi)
  refine wpl_insert hE1 0 rfl ho hw hx hy hz ht hk (findNow_new ik n kvs es 0 he hnew) fun w' hE' => h w' ?_
  refine Ent.put ?_ (List.getElem?_eq_some_iff.1 hi).1
  refine Ent.pack ⟨(es ++ [mEnt (.int ik n) v c], c + 1), ?_⟩ hE'
  unfold entsOf at he ⊢
  simp only [List.map_append, he, List.map_cons, List.map_nil]

theorem wpl_lookupI (hE : Ent l w) (i : Nat) {r : Nat} {ik : IntKind} {kvs : List (Int × Value)} (hi : l[i]? = some (mapI r ik kvs))
    {t kt et : TypeId} {x y : Operand} (ho : o.op = .lookup t x y false) (hw : Region.wanted o (yielded ops a.tmps) = true) (hx : a.eval x = .map (some r)) {n : Int} (hy : a.eval y = .int ik n)
    (ht : P.underlying t = some (.map kt et)) (hk : P.underlying kt = some (.int ik)) {z : Value} (hz : ∀ w, (zeroValue et).run P w = .ok z w)
    (h : wpList P ops Q rest (a.put o.dst (lookI kvs n z)) w) : wpList P ops Q (o :: rest) a w := by
  obtain ⟨⟨⟨es, c⟩, he⟩, hE1⟩ := Ent.unpack (hE.front i hi)
  unfold lookI at h
  cases hf : kvs.find? (fun p => n == p.1) with
  | some p =>
    rw [hf] at h
    obtain ⟨j, hj⟩ := findNow_old ik n kvs es 0 p he hf
    exact wpl_lookup hE1 0 rfl ho hw hx hy ht hk hj h
  | none =>
    rw [hf] at h
    refine wpl_lookupNot hE1 0 rfl ho hw hx hy ht hk hz (findNow_new ik n kvs es 0 he ?_) h
    rw [List.all_eq_true]
    intro p hp
    have := List.find?_eq_none.1 hf p hp
    simpa using this
end
attribute [irreducible] mapI
end Go.SL
namespace Go.SL
section
variable {P : Program} {w : World} {l : List HProp}

theorem run_copyAt (dT sT ty elem : TypeId) (g off dLen dCap : Nat) (ys : List UInt8) (cur : Array Value) (t : TypeId)
    (hu : P.underlying dT = some (.slice elem)) (hs : (P.info? elem).map (·.size) = some 1) (hg : w.heap[g]? = some (.cells cur t (0, 0))) (hy : ys.length ≤ dLen) (hfit : off + dLen ≤ cur.size) :
    (Builtin.copy_ #[dT, sT] ty #[.slice (some ⟨g, off, none⟩) dLen dCap, .string ⟨ys.toArray⟩]).run P w =
      .ok (goInt (ys.length : Nat)) (w.setRow g (cur.toList.take off ++ (ys.map fun b => Value.int .u8 b.toNat) ++ cur.toList.drop (off + ys.length)).toArray) := by
  have h1 : ∀ u ∈ (ys.map fun b => Value.int .u8 (b.toNat : Int)), u.oneCell' = true := by
    intro v hv
    simp only [List.mem_map] at hv
    obtain ⟨b, _, rfl⟩ := hv
    rfl
  have hst := run_storeCells_at P g off t (ys.map fun b => Value.int .u8 (b.toNat : Int)) 0 cur w hg (by rw [List.length_map]; omega) h1
  rw [List.length_map] at hst
  simp only [Nat.add_zero] at hst
  have hsz : (ByteArray.mk ys.toArray).size = ys.length := by simp [ByteArray.size]
  have hmin : Nat.min ys.length dLen = ys.length := Nat.min_eq_left hy
  cases hq : P.info? elem with
  | none => simp [hq] at hs
  | some i =>
    have htk : List.take ys.length (List.map (fun b : UInt8 => Value.int IntKind.u8 (b.toNat : Int)) ys) = ys.map fun b => Value.int .u8 (b.toNat : Int) := List.take_of_length_le (by simp)
    simp [Builtin.copy_, run_underlying hu, Builtin.lenOf, Builtin.firstCells, sizeOf, typeInfo, hq, hsz, hmin]
    rw [htk, hst]
    simp [Result.andThen]

theorem wpl_copyAt {ops : Array Oper} {rest : List Oper} {o : Oper} {a : Act} {Q : Exit → Act → World → Prop} (hE : Ent l w) (i : Nat) {g off : Nat} {cur : List Value} {T : TypeId} (hi : l[i]? = some (pt g (.cells cur.toArray T (0, 0))))
    {d s : Operand} {dT sT elem : TypeId} (ho : o.op = .call { callee := .builtin .copy, args := #[d, s], argTypes := #[dT, sT] }) (hw : Region.wanted o (yielded ops a.tmps) = true)
    {dLen dCap : Nat} (hd : a.eval d = .slice (some ⟨g, off, none⟩) dLen dCap) {ys : List UInt8} (hy : a.eval s = .string ⟨ys.toArray⟩)
    (hu : P.underlying dT = some (.slice elem)) (hs : (P.info? elem).map (·.size) = some 1) (hle : ys.length ≤ dLen) (hfit : off + dLen ≤ cur.length)
    {xs : List Value} (hx : cur.take off ++ (ys.map fun b => Value.int .u8 b.toNat) ++ cur.drop (off + ys.length) = xs)
    (h : ∀ w', Ent (l.set i (pt g (.cells xs.toArray T (0, 0)))) w' → wpList P ops Q rest (a.put o.dst (goInt ys.length)) w') : wpList P ops Q (o :: rest) a w := by
  have hr := run_copyAt (P := P) (w := w) dT sT o.type elem g off dLen dCap ys cur.toArray T hu hs (hE.at i hi) hle (by simpa using hfit)
  simp only [List.toList_toArray, hx] at hr
  refine wpl_run hw (w' := w.setRow g xs.toArray) (v := goInt ys.length) ?_ (h _ (hE.setRow i hi _))
  simp [execOp, ho, resolve, invoke, builtin, hd, hy, hr]
end
end Go.SL
namespace Go.SL
section
variable {P : Program} {w : World} {l : List HProp}

/-- a cell's value -/
theorem cellM {b : Nat} {cs : Array Value} {T : TypeId} {fz : Nat × Nat} (h : Ent l w) (hm : pt b (.cells cs T fz) ∈ l) (off : Nat) : w.cell? ⟨b, off, none⟩ = cs[off]? := by
  obtain ⟨i, hi⟩ := List.getElem?_of_mem hm
  exact h.cell i hi off
theorem cellV {b : Nat} {cs : Array Value} {T : TypeId} {fz : Nat × Nat} (h : Ent l w) (hm : pt b (.cells cs T fz) ∈ l) {off : Nat} {v : Value} (hv : cs[off]? = some v) : w.cell? ⟨b, off, none⟩ = some v := (cellM h hm off).trans hv
theorem frozenM {b : Nat} {cs : Array Value} {T : TypeId} (h : Ent l w) (hm : pt b (.cells cs T (0, 0)) ∈ l) (off : Nat) : w.frozen? ⟨b, off, none⟩ = false := by
  obtain ⟨i, hi⟩ := List.getElem?_of_mem hm
  exact h.frozen i hi off
theorem atVm {b : Nat} {cs : Array Value} {T : TypeId} {fz : Nat × Nat} (h : Ent l w) (hm : pt b (.cells cs T fz) ∈ l) {t : TypeId} (hA : ∀ w, (isAgg t).run P w = .ok false w) {off : Nat} {v : Value} (hv : cs[off]? = some v) :
    (Instr.loadAt t (.pointer (some ⟨b, off, none⟩))).run P w = .ok v w := by
  obtain ⟨i, hi⟩ := List.getElem?_of_mem hm
  exact run_load1 h i hi hA hv
theorem atAm {b : Nat} {cs : Array Value} {T : TypeId} {fz : Nat × Nat} (h : Ent l w) (hm : pt b (.cells cs T fz) ∈ l) {t : TypeId} (hA : ∀ w, (isAgg t).run P w = .ok true w) {n : Nat} (hn : ∀ w, (Go.sizeOf t).run P w = .ok n w) {off : Nat} {vs : List Value} (hl : vs.length = n) (hv : ∀ j, j < n → cs[off + j]? = vs[j]?) :
    (Instr.loadAt t (.pointer (some ⟨b, off, none⟩))).run P w = .ok (.agg vs.toArray) w := by
  obtain ⟨i, hi⟩ := List.getElem?_of_mem hm
  exact run_loadA h i hi hA hn hl hv
/-- the whole of a block -/
theorem atWm {b : Nat} {vs : List Value} {T : TypeId} {fz : Nat × Nat} (h : Ent l w) (hm : pt b (.cells vs.toArray T fz) ∈ l) {t : TypeId} (hA : ∀ w, (isAgg t).run P w = .ok true w) {n : Nat} (hn : ∀ w, (Go.sizeOf t).run P w = .ok n w) (hl : vs.length = n) :
    (Instr.loadAt t (.pointer (some ⟨b, 0, none⟩))).run P w = .ok (.agg vs.toArray) w := atAm h hm hA hn hl (fun j _ => by simp)
/-- one cell of memory that is known by a fact on cells -/
theorem atCell {ad : Addr} {v : Value} (h : w.cell? ad = some v) {t : TypeId} (hA : ∀ w, (isAgg t).run P w = .ok false w) : (Instr.loadAt t (.pointer (some ad))).run P w = .ok v w := by
  simp [Instr.loadAt, Instr.sureAddr, loadVar, hA, h]
/-- some cells of memory that are known by facts on cells -/
theorem atCells {t : TypeId} (hA : ∀ w, (isAgg t).run P w = .ok true w) {n : Nat} (hn : ∀ w, (Go.sizeOf t).run P w = .ok n w) {ad : Addr} (vs : List Value) (hl : vs.length = n) (hc : ∀ j v, vs[j]? = some v → w.cell? (ad.add j) = some v) :
    (Instr.loadAt t (.pointer (some ad))).run P w = .ok (.agg vs.toArray) w := by
  have hr := run_loadCells_list (P := P) w ad vs hc
  subst hl
  simp [Instr.loadAt, Instr.sureAddr, loadVar, hA, hn, hr]
/-- what stands behind -/
theorem Ent.suf {l' : List HProp} (h : Ent l w) (hs : l' <:+ l) : Ent l' w := by
  obtain ⟨m, rfl⟩ := hs
  exact h.drop
theorem Knows.suf {l' : List HProp} {p : World → Prop} (h : Knows l' p) (hs : l' <:+ l) : Knows l p := fun _ hw => h _ (hw.suf hs)
section
variable {ops : Array Oper} {o : Oper} {a : Act} {K : Act → World → Prop} {Q : Exit → Act → World → Prop} {E : Prop}
/-- a cell loaded, as one step of a region that draws -/
theorem step_load1 (hE : Ent l w) (i : Nat) {b : Nat} {cs : Array Value} {T : TypeId} {fz : Nat × Nat} (hi : l[i]? = some (pt b (.cells cs T fz))) {t : TypeId} {x : Operand} (ho : o.op = .load t x) (hw : Region.wanted o (yielded ops a.tmps) = true)
    {off : Nat} (hx : a.eval x = .pointer (some ⟨b, off, none⟩)) (hA : ∀ w, (isAgg t).run P w = .ok false w) {v : Value} (hv : cs[off]? = some v) (h : K (a.put o.dst v) w) : if Region.wanted o (yielded ops a.tmps) = true then Oper.wp P o a w K Q else E := by
  rw [if_pos hw]
  have hr : (execOp a.eval o).run P w = .ok (.value v) w := by simp [execOp, ho, hx, run_load1 hE i hi hA hv]
  simp only [Oper.wp, hr, Oper.upon]
  exact h
/-- a whole value written over the whole of a block, as one step of a region that draws -/
theorem step_storeW (hE : Ent l w) (i : Nat) {b : Nat} {cs : Array Value} {T : TypeId} (hi : l[i]? = some (pt b (.cells cs T (0, 0))))
    {t : TypeId} {x y : Operand} (ho : o.op = .store t x y) (hw : Region.wanted o (yielded ops a.tmps) = true)
    (hx : a.eval x = .pointer (some ⟨b, 0, none⟩)) {xs : List Value} (hy : a.eval y = .agg xs.toArray) {n : Nat} (hn : ∀ w, (Go.sizeOf t).run P w = .ok n w) (hc : xs.length = n)
    (h1 : ∀ u ∈ xs, u.oneCell' = true) (hfit : cs.size = n)
    (h : ∀ w', Ent (l.set i (pt b (.cells xs.toArray T (0, 0)))) w' → K (a.put o.dst undef) w') : if Region.wanted o (yielded ops a.tmps) = true then Oper.wp P o a w K Q else E := by
  rw [if_pos hw]
  have hr := run_storeV (P := P) hE i hi (t := t) (v := .agg xs.toArray) hn (by simpa [Value.cells] using hc) (by simpa [Value.cells] using h1) (off := 0) (by omega)
  have e : (cs.toList.take 0 ++ (Value.agg xs.toArray).cells.toList ++ cs.toList.drop (0 + (Value.agg xs.toArray).cells.toList.length)).toArray = xs.toArray := by
    simp [Value.cells, hc, ← hfit]
  rw [e] at hr
  have hx2 : (execOp a.eval o).run P w = .ok .skip (w.setRow b xs.toArray) := by simp [execOp, ho, hx, hy, hr]
  simp only [Oper.wp, hx2, Oper.upon]
  exact h _ (hE.setRow i hi xs.toArray)
end
/-- a counter of a loop -/
def CntRel (n : Nat) (l : List HProp) (i : Value) (wr : World) : Prop := ∃ k : Nat, k ≤ n ∧ i = .int .i64 k ∧ Ent l wr
theorem cat2 (a b : List UInt8) (h : a.length + b.length ≤ 1099511627776) : ∃ p : List UInt8, p = a ++ b ∧ (⟨a.toArray⟩ : ByteArray) ++ ⟨b.toArray⟩ = ⟨p.toArray⟩ ∧ ¬ (9223372036854775807 < a.length + b.length) :=
  ⟨a ++ b, rfl, bytes_join a b, by omega⟩
end
end Go.SL
namespace Go.SL
theorem Ent.ofBelowQ {l : List HProp} {w w' : World} (h : Ent l w) (hb : RowKit.Below w.heap.size w w') : Ent l w' := by
  have := h.step0 (Bs := []) ⟨hb.os, hb.tape, hb.output⟩ hb.size hb.block ⟨fun _ => False, fun _ h => h, fun _ h => h.elim⟩
  exact this
end Go.SL
namespace Go.Proofs
open Go.Shelf
shelf_lay Lays.n105 Nm 105 at Tryd as Tryd.lays105
theorem Tryd.Builder_Extra_105 : Builder.Extra Tryd.prog Tryd.lays105_ren where
  sizeBuilder := by kernel_rfl
  liesBuilder := by kernel_rfl
  t5 := Tryd.underlying5
  a5 := Tryd.isAgg5
  z5 := Tryd.sizeOf5
  v5 := Tryd.zeroValue5
  infoByte := by kernel_rfl
  cellsByte := by kernel_rfl
  sizeByte := by kernel_rfl
  neB5 := by decide
end Go.Proofs
namespace Go.Proofs.YtdpfigkjkjjedaaDoor
open Go.RowKit Go.SL

theorem repeat_zero : ∀ n : Nat, Lib.repeatL [0] n = List.replicate n 0
  | 0 => rfl
  | n + 1 => by rw [Lib.repeatL, repeat_zero n]; rfl
theorem Repeat_zeros (n : Nat) (hn : n ≤ 1000000) {l : List HProp} {w : World} (hE : Ent l w) :
    Calls Tryd.prog 48 #[.string ⟨#[0]⟩, .int .i64 n] w (Ret fun v w' => v = .string ⟨(List.replicate n 0).toArray⟩ ∧ Ent l w') := by
  have h : Calls Tryd.prog 48 #[.string ⟨#[0]⟩, .int .i64 n] w fun e w' => e = .returned (.string ⟨(Lib.repeatL [0] n).toArray⟩) ∧ Below w.heap.size w w' :=
    Any.strings_Repeat Tryd.lays105 Tryd.Builder_Extra_105 ⟨#[0]⟩ n w (by omega) (by show 1 * n ≤ _; omega)
  rw [repeat_zero] at h
  refine h.mono ?_
  rintro e w' ⟨rfl, hb⟩
  exact ⟨_, rfl, rfl, hE.ofBelowQ hb⟩

theorem pPut1 {p n : Nat} (hn : n < 256) {l : List HProp} {w : World} {bs : List UInt8} {err : Int} (hE : Ent (packer p bs err :: l) w) (hb : bs.length ≤ 1000000) :
    Calls Tryd.prog 46 #[.pointer (some ⟨p, 0, none⟩), .int .i64 1, .int .u64 n] w (Ret fun v w' => v = .pointer (some ⟨p, 0, none⟩) ∧ Ent (packer p (bs ++ be 1 n) err :: l) w') := by
  have h := Put_any p n 1 hE (by omega)
  have e : numOk 1 n = true := by simp [numOk, wideB]; omega
  rw [e] at h
  exact h
theorem pPut2 {p n : Nat} (hn : n < 65536) {l : List HProp} {w : World} {bs : List UInt8} {err : Int} (hE : Ent (packer p bs err :: l) w) (hb : bs.length ≤ 1000000) :
    Calls Tryd.prog 46 #[.pointer (some ⟨p, 0, none⟩), .int .i64 2, .int .u64 n] w (Ret fun v w' => v = .pointer (some ⟨p, 0, none⟩) ∧ Ent (packer p (bs ++ be 2 n) err :: l) w') := by
  have h := Put_any p n 2 hE (by omega)
  have e : numOk 2 n = true := by simp [numOk, wideB]; omega
  rw [e] at h
  exact h
theorem pPut4 {p n : Nat} (hn : n < 4294967296) {l : List HProp} {w : World} {bs : List UInt8} {err : Int} (hE : Ent (packer p bs err :: l) w) (hb : bs.length ≤ 1000000) :
    Calls Tryd.prog 46 #[.pointer (some ⟨p, 0, none⟩), .int .i64 4, .int .u64 n] w (Ret fun v w' => v = .pointer (some ⟨p, 0, none⟩) ∧ Ent (packer p (bs ++ be 4 n) err :: l) w') := by
  have h := Put_any p n 4 hE (by omega)
  have e : numOk 4 n = true := by simp [numOk, wideB]; omega
  rw [e] at h
  exact h
theorem pPut8 {p n : Nat} {l : List HProp} {w : World} {bs : List UInt8} {err : Int} (hE : Ent (packer p bs err :: l) w) (hb : bs.length ≤ 1000000) :
    Calls Tryd.prog 46 #[.pointer (some ⟨p, 0, none⟩), .int .i64 8, .int .u64 n] w (Ret fun v w' => v = .pointer (some ⟨p, 0, none⟩) ∧ Ent (packer p (bs ++ be 8 n) err :: l) w') := by
  have h := Put_any p n 8 hE (by omega)
  have e : numOk 8 n = true := by simp [numOk, wideB]
  rw [e] at h
  exact h

theorem mk_beq (a b : List UInt8) : ((⟨a.toArray⟩ : ByteArray) == ⟨b.toArray⟩) = (a == b) := by
  rw [beq_toListBytes, ByteArray.toList_eq, ByteArray.toList_eq]
/-- two rows of bytes compared -/
theorem Equal_any {a b : List UInt8} {ao bo : Option Addr} {c d : Nat} {w : World} (ha : reads (.slice ao a.length c) a.length (bvals a) w) (hb : reads (.slice bo b.length d) b.length (bvals b) w) :
    Calls Tryd.prog 56 #[.slice ao a.length c, .slice bo b.length d] w (fun e w' => e = .returned (.bool (a == b)) ∧ w = w') := by
  have c1 := bytesToString_reads (P := Tryd.prog) Tryd.underlying26 Tryd.underlying5 Tryd.underlying9 (bs := a) ha rfl
  have c2 := bytesToString_reads (P := Tryd.prog) Tryd.underlying26 Tryd.underlying5 Tryd.underlying9 (bs := b) hb rfl
  go_enter Tryd.func56, Tryd.ntmps56
  go_wp2
  go_ret
  exact ⟨rfl, rfl⟩
end Go.Proofs.YtdpfigkjkjjedaaDoor
namespace Go.Proofs.YtdpfigkjkjjedaaDoor
open Go.RowKit Go.SL

def halves : List Nat := [0, 274646895, 549293790, 820201905, 1098587580, 1361435347, 1640403810, 1905808397, 2197175160, 2460548119, 2722870694, 2987750089, 3280807620, 3553878443, 3811616794, 4084100981]
def tab (i : Nat) : Nat := halves.getD i 0
def half (n : Nat) : Nat := tab (n &&& 15) ^^^ (n / 16)
def crc1 (n : Nat) (c : UInt8) : Nat := half (half (n ^^^ c.toNat))
def crcN (bs : List UInt8) : Nat := bs.foldl crc1 4294967295
def crcV (bs : List UInt8) : Nat := 4294967295 - crcN bs

def Table (w : World) : Prop := ∀ i, i < 16 → w.cell? ⟨0, i, none⟩ = some (.int .u32 ((tab i : Nat) : Int))

theorem halves_lt (i : Nat) : tab i < 4294967296 := by
  unfold tab
  by_cases h : i < 16
  · have : ∀ i, i < 16 → halves.getD i 0 < 4294967296 := by decide
    exact this i h
  · have : halves.getD i 0 = 0 := by
      rw [List.getD_eq_getElem?_getD, List.getElem?_eq_none (by simp [halves]; omega)]; rfl
    omega

theorem half_lt {n : Nat} (h : n < 4294967296) : half n < 4294967296 := by
  unfold half
  have := halves_lt (n &&& 15)
  exact Nat.xor_lt_two_pow (n := 32) (by omega) (by omega)

theorem xor_lt {n : Nat} (h : n < 4294967296) (c : UInt8) : n ^^^ c.toNat < 4294967296 := Nat.xor_lt_two_pow (n := 32) (by omega) (by have := c.toNat_lt; omega)

theorem crc1_lt {n : Nat} (h : n < 4294967296) (c : UInt8) : crc1 n c < 4294967296 := half_lt (half_lt (xor_lt h c))

theorem crcN_lt (bs : List UInt8) : crcN bs < 4294967296 := by
  unfold crcN
  rcases List.eq_nil_or_concat bs with rfl | ⟨l, c, rfl⟩
  · decide
  · have : ∀ (l : List UInt8) (n : Nat), n < 4294967296 → l.foldl crc1 n < 4294967296 := by
      intro l
      induction l with
      | nil => intro n h; exact h
      | cons c l ih => intro n h; exact ih _ (crc1_lt h c)
    exact this _ _ (by omega)

theorem crcN_snoc (l : List UInt8) (c : UInt8) : crcN (l ++ [c]) = crc1 (crcN l) c := by simp [crcN]

def SumRel (bs : List UInt8) (i n : Value) : Prop := ∃ k : Nat, k ≤ bs.length ∧ i = .int .i64 k ∧ n = .int .u32 (crcN (bs.take k) : Nat)
def HalfRel (m : Nat) (i n : Value) : Prop := (i = .int .i64 0 ∧ n = .int .u32 (m : Nat)) ∨ (i = .int .i64 1 ∧ n = .int .u32 (half m : Nat)) ∨ (i = .int .i64 2 ∧ n = .int .u32 (half (half m) : Nat))

theorem half_and (m : Nat) (h : m < 4294967296) : bits .and .u32 (m : Int) 15 = ((m &&& 15 : Nat) : Int) := u32_and_nat m 15 h (by omega)
theorem half_small (m : Nat) : m &&& 15 < 16 := Nat.lt_of_le_of_lt Nat.and_le_right (by omega)
theorem half_xor (m : Nat) (h : m < 4294967296) : bits .xor .u32 ((tab (m &&& 15) : Nat) : Int) ((m : Int) / 16) = ((half m : Nat) : Int) := by
  have := u32_xor_nat (tab (m &&& 15)) (m / 16) (halves_lt _) (by omega)
  simpa [half] using this
theorem crc_xor (m : Nat) (h : m < 4294967296) (c : UInt8) : bits .xor .u32 (m : Int) ((c.toNat : Int) % 4294967296) = ((m ^^^ c.toNat : Nat) : Int) := by
  have hc := c.toNat_lt
  rw [show (c.toNat : Int) % 4294967296 = ((c.toNat : Nat) : Int) by omega]
  exact u32_xor_nat m c.toNat h (by omega)

theorem crc_not (n : Nat) (h : n < 4294967296) : bits .xor .u32 IntKind.u32.max (n : Int) = ((4294967295 - n : Nat) : Int) := by
  have h1 := u32_xor_nat 4294967295 n (by omega) h
  have h2 : 4294967295 ^^^ n = 4294967295 - n := by
    have h3 : (BitVec.allOnes 32 ^^^ BitVec.ofNat 32 n).toNat = 2 ^ 32 - 1 - (BitVec.ofNat 32 n).toNat := by
      rw [BitVec.allOnes_xor, BitVec.toNat_not]
    rw [BitVec.toNat_xor, BitVec.toNat_allOnes, BitVec.toNat_ofNat, Nat.mod_eq_of_lt (by omega)] at h3
    exact h3
  rw [← h2]
  exact h1

set_option maxRecDepth 100000 in
theorem Sum_row {w : World} {bs : List UInt8} {b off c : Nat} (ht : Table w) (hc : ∀ j u, (bs.map fun b => Value.int .u8 b.toNat)[j]? = some u → w.cell? ⟨b, off + j, none⟩ = some u) (hb : bs.length ≤ 1099511627776) :
    Calls Tryd.prog 28 #[.slice (some ⟨b, off, none⟩) bs.length c] w (fun e w' => e = .returned (.int .u32 (crcV bs : Nat)) ∧ w = w') := by
  go_enter Tryd.func28, Tryd.ntmps28
  go_wp2
  go_loop [8, 3] (fun i n => SumRel bs i n) (fun i _ => bs.length - (intOf i).toNat)
  case atStart => exact ⟨0, Nat.zero_le _, rfl, rfl⟩
  case round =>
    obtain ⟨k, hk, rfl, rfl⟩ := hrel
    by_cases hlt : k < bs.length
    · have hck : w.cell? ⟨b, off + k, none⟩ = some (.int .u8 (bs[k].toNat : Int)) := hc k _ (by simp [hlt])
      clear hc
      have Ht := SL.hid ht
      clear ht
      have hx := crc_xor (crcN (bs.take k)) (crcN_lt _) bs[k]
      have hm := xor_lt (crcN_lt (bs.take k)) bs[k]
      have Hs := SL.hid (show crcN (bs.take (k + 1)) = half (half (crcN (bs.take k) ^^^ bs[k].toNat)) by rw [List.take_succ_eq_append_getElem hlt, crcN_snoc]; rfl)
      go_wp2
      generalize crcN (bs.take k) ^^^ bs[k].toNat = m at *
      clear hx
      go_loop [16, 3] (fun i n => HalfRel m i n) (fun i _ => 2 - (intOf i).toNat)
      case atStart => exact .inl ⟨rfl, rfl⟩
      case round =>
        rcases hrel with ⟨rfl, rfl⟩ | ⟨rfl, rfl⟩ | ⟨rfl, rfl⟩
        · have h1 := half_and m hm
          have h2 := half_small m
          have h3 := half_xor m hm
          have h4 := Ht.out _ h2
          go_wp2
          go_round
          case rel => exact .inr (.inl ⟨rfl, rfl⟩)
          case measure => simp [intOf]
        · have hm2 := half_lt hm
          have h1 := half_and _ hm2
          have h2 := half_small (half m)
          have h3 := half_xor _ hm2
          have h4 := Ht.out _ h2
          go_wp2
          go_round
          case rel => exact .inr (.inr ⟨rfl, rfl⟩)
          case measure => simp [intOf]
        · go_wp2
          go_round
          case rel => exact ⟨k + 1, hlt, by simp, by rw [Hs.out]⟩
          case measure => simp [intOf]; omega
    · have E1 := SL.hid (show k = bs.length by omega)
      go_wp2
      go_ret
      have hk := E1.out
      subst hk
      rw [List.take_length]
      exact ⟨by unfold crcV; rw [← crc_not _ (crcN_lt bs)]; rfl, rfl⟩

theorem Sum_nil (c : Nat) (w : World) : Calls Tryd.prog 28 #[.slice none 0 c] w (fun e w' => e = .returned (.int .u32 0) ∧ w = w') := by
  go_enter Tryd.func28, Tryd.ntmps28
  go_wp2
  go_loop [8, 3] (fun i n => i = .int .i64 0 ∧ n = .int .u32 4294967295) (fun _ _ => 0)
  case atStart => exact ⟨rfl, rfl⟩
  case round =>
    obtain ⟨rfl, rfl⟩ := hrel
    go_wp2
    go_ret
    exact ⟨rfl, rfl⟩

theorem Sum_empty (ad : Addr) (c : Nat) (w : World) : Calls Tryd.prog 28 #[.slice (some ad) 0 c] w (fun e w' => e = .returned (.int .u32 0) ∧ w = w') := by
  go_enter Tryd.func28, Tryd.ntmps28
  go_wp2
  go_loop [8, 3] (fun i n => i = .int .i64 0 ∧ n = .int .u32 4294967295) (fun _ _ => 0)
  case atStart => exact ⟨rfl, rfl⟩
  case round =>
    obtain ⟨rfl, rfl⟩ := hrel
    go_wp2
    go_ret
    exact ⟨rfl, rfl⟩

theorem Sum_any {w : World} {bs : List UInt8} {ao : Option Addr} {c : Nat} (ht : Table w) (hr : reads (.slice ao bs.length c) bs.length (bs.map fun b => Value.int .u8 b.toNat) w) (hb : bs.length ≤ 1099511627776) :
    Calls Tryd.prog 28 #[.slice ao bs.length c] w (fun e w' => e = .returned (.int .u32 (crcV bs : Nat)) ∧ w = w') := by
  rcases Nat.eq_zero_or_pos bs.length with h0 | h0
  · obtain rfl := List.eq_nil_of_length_eq_zero h0
    cases ao with
    | none => exact Sum_nil c w
    | some ad =>
      exact Sum_empty ad c w
  · obtain ⟨b, off, rfl, hc⟩ := reads_form hr h0 (by simpa using h0)
    exact Sum_row ht hc hb
end Go.Proofs.YtdpfigkjkjjedaaDoor
namespace Go.Proofs.YtdpfigkjkjjedaaDoor
open Go.RowKit Go.SL

/-- a step for one bit -/
def bit (m : Nat) : Nat := m / 2 ^^^ (if m % 2 = 1 then 2197175160 else 0)

theorem bit_lin (q r : Nat) : bit (2 * q ^^^ r) = q ^^^ bit r := by
  unfold bit
  have h1 : (2 * q ^^^ r) / 2 = q ^^^ r / 2 := by
    have := Nat.xor_div_two_pow (a := 2 * q) (b := r) (n := 1)
    simpa using this
  have h2 : (2 * q ^^^ r) % 2 = r % 2 := by
    have := Nat.xor_mod_two_pow (a := 2 * q) (b := r) (n := 1)
    simpa using this
  rw [h1, h2, Nat.xor_assoc]

theorem bit4 (m : Nat) : bit (bit (bit (bit m))) = half m := by
  have hm : m = 2 * (2 * (2 * (2 * (m / 16)))) ^^^ m % 16 := by
    have h1 := Nat.xor_div_two_pow (a := 2 * (2 * (2 * (2 * (m / 16))))) (b := m % 16) (n := 4)
    have h2 := Nat.xor_mod_two_pow (a := 2 * (2 * (2 * (2 * (m / 16))))) (b := m % 16) (n := 4)
    simp only [Nat.reducePow] at h1 h2
    have e1 : 2 * (2 * (2 * (2 * (m / 16)))) / 16 = m / 16 := by omega
    have e2 : m % 16 / 16 = 0 := by omega
    have e3 : 2 * (2 * (2 * (2 * (m / 16)))) % 16 = 0 := by omega
    rw [e1, e2, Nat.xor_zero] at h1
    rw [e3, Nat.zero_xor] at h2
    omega
  have ht : ∀ r, r < 16 → bit (bit (bit (bit r))) = tab r := by decide
  unfold half
  rw [show m &&& 15 = m % 16 from Nat.and_two_pow_sub_one_eq_mod m 4]
  conv => lhs; rw [hm]
  rw [bit_lin, bit_lin, bit_lin, bit_lin, ht _ (Nat.mod_lt _ (by omega)), Nat.xor_comm]

/-- the document's step: the checksum's number and what is left of the byte -/
def rbit (x : Nat × Nat) : Nat × Nat := (if (x.1 % 2 + x.2 % 2) % 2 = 1 then x.1 / 2 ^^^ 2197175160 else x.1 / 2, x.2 / 2)
def rbits : Nat → Nat × Nat → Nat × Nat
  | 0, x => x
  | k + 1, x => rbit (rbits k x)

theorem rbit_xor (x : Nat × Nat) : (rbit x).1 ^^^ (rbit x).2 = bit (x.1 ^^^ x.2) := by
  obtain ⟨n, c⟩ := x
  unfold rbit bit
  have h1 : (n ^^^ c) / 2 = n / 2 ^^^ c / 2 := by
    have := Nat.xor_div_two_pow (a := n) (b := c) (n := 1)
    simpa using this
  have h2 : (n ^^^ c) % 2 = (n % 2 + c % 2) % 2 := by
    have := Nat.xor_mod_two_pow (a := n) (b := c) (n := 1)
    simp only [Nat.pow_one] at this
    rw [this]
    rcases Nat.mod_two_eq_zero_or_one n with h | h <;> rcases Nat.mod_two_eq_zero_or_one c with h' | h' <;> simp [h, h']
  simp only [h1, h2]
  split
  · rw [Nat.xor_assoc, Nat.xor_comm 2197175160, ← Nat.xor_assoc]
  · rw [Nat.xor_zero]

theorem rbit_lt {x : Nat × Nat} (h : x.1 < 4294967296) : (rbit x).1 < 4294967296 := by
  unfold rbit
  split
  · exact Nat.xor_lt_two_pow (n := 32) (by omega) (by omega)
  · simp only; omega

theorem rbits_lt (k : Nat) {x : Nat × Nat} (h : x.1 < 4294967296) : (rbits k x).1 < 4294967296 := by
  induction k with
  | zero => exact h
  | succ k ih => exact rbit_lt ih

theorem rbits_right (k : Nat) (x : Nat × Nat) : (rbits k x).2 = x.2 / 2 ^ k := by
  induction k with
  | zero => simp [rbits]
  | succ k ih => rw [rbits, rbit, ih, Nat.pow_succ, Nat.div_div_eq_div_mul]

theorem rbits8 (n : Nat) (c : UInt8) : (rbits 8 (n, c.toNat)).1 = crc1 n c := by
  have h0 : (rbits 8 (n, c.toNat)).2 = 0 := by
    rw [rbits_right]
    have := c.toNat_lt
    simp only
    omega
  have h : (rbits 8 (n, c.toNat)).1 ^^^ (rbits 8 (n, c.toNat)).2 = crc1 n c := by
    unfold crc1
    rw [← bit4, ← bit4]
    simp only [rbits, rbit_xor]
  rwa [h0, Nat.xor_zero] at h

theorem tmod2 {m b : Nat} (h : m % 2 = b) : (m : Int).tmod 2 = (b : Int) := by
  rw [Int.tmod_eq_emod_of_nonneg (Int.natCast_nonneg _)]
  omega

def RefRel (bs : List UInt8) (i n : Value) : Prop := ∃ k : Nat, k ≤ bs.length ∧ i = .int .i64 k ∧ n = .int .u32 (crcN (bs.take k) : Nat)
def BitRel (n c : Nat) (i nv cv : Value) : Prop := ∃ j : Nat, j ≤ 8 ∧ i = .int .i64 j ∧ nv = .int .u32 ((rbits j (n, c)).1 : Nat) ∧ cv = .int .u8 ((rbits j (n, c)).2 : Nat)

set_option maxRecDepth 100000 in
theorem refSum_any (bs : List UInt8) (w : World) (hb : bs.length ≤ 1099511627776) :
    Calls Tryd.prog 22 #[.string ⟨bs.toArray⟩] w (fun e w' => e = .returned (.int .u32 (crcV bs : Nat)) ∧ w = w') := by
  go_enter Tryd.func22, Tryd.ntmps22
  go_wp2
  go_loop [4, 3] (fun i n => RefRel bs i n) (fun i _ => bs.length - (intOf i).toNat)
  case atStart => exact ⟨0, Nat.zero_le _, rfl, rfl⟩
  case round =>
    obtain ⟨k, hk, rfl, rfl⟩ := hrel
    by_cases hlt : k < bs.length
    · have hc0 : (ByteArray.mk bs.toArray)[k]'(by simpa [ByteArray.size] using hlt) = bs[k] := rfl
      have Hs := SL.hid (show crcN (bs.take (k + 1)) = (rbits 8 (crcN (bs.take k), bs[k].toNat)).1 by rw [List.take_succ_eq_append_getElem hlt, crcN_snoc, rbits8])
      have hn := crcN_lt (bs.take k)
      have hcl := bs[k].toNat_lt
      go_wp2
      generalize crcN (bs.take k) = n at *
      generalize hcc : bs[k].toNat = c at *
      clear hc0 hcc
      go_loop [6, 3, 5] (fun i nv cv => BitRel n c i nv cv) (fun i _ _ => 8 - (intOf i).toNat)
      case atStart => exact ⟨0, by omega, rfl, rfl, rfl⟩
      case round =>
        obtain ⟨j, hj, rfl, rfl, rfl⟩ := hrel
        by_cases hlt8 : j < 8
        · have hx := rbits_lt j (x := (n, c)) hn
          have hy : (rbits j (n, c)).2 < 256 := by rw [rbits_right]; exact Nat.lt_of_le_of_lt (Nat.div_le_self _ _) (by simpa using hcl)
          have Hn := SL.hid (show rbits (j + 1) (n, c) = rbit (rbits j (n, c)) from rfl)
          have hrel : BitRel n c (.int .i64 ((j : Int) + 1)) (.int .u32 ((rbit (rbits j (n, c))).1 : Nat)) (.int .u8 ((rbit (rbits j (n, c))).2 : Nat)) := ⟨j + 1, hlt8, by simp, rfl, rfl⟩
          clear Hn
          generalize rbits j (n, c) = x at *
          have e1 : (rbit x).2 = x.2 / 2 := rfl
          rcases Nat.mod_two_eq_zero_or_one x.1 with h | h <;> rcases Nat.mod_two_eq_zero_or_one x.2 with h' | h'
          all_goals
            have t1 := tmod2 h
            have t2 := tmod2 h'
          · have e2 := SL.hid (show rbit x = (x.1 / 2, x.2 / 2) by unfold rbit; rw [h, h']; rfl)
            go_wp2
            go_round
            case rel => rw [e2.out] at hrel; simpa using hrel
            case measure => simp [intOf]; omega
          · have e2 := SL.hid (show rbit x = (x.1 / 2 ^^^ 2197175160, x.2 / 2) by unfold rbit; rw [h, h']; rfl)
            have e3 := SL.hid (u32_xor_nat (x.1 / 2) 2197175160 (by omega) (by omega))
            go_wp2
            go_round
            case rel =>
              rw [e2.out] at hrel
              simp only [← e3.out] at hrel
              simpa using hrel
            case measure => simp [intOf]; omega
          · have e2 := SL.hid (show rbit x = (x.1 / 2 ^^^ 2197175160, x.2 / 2) by unfold rbit; rw [h, h']; rfl)
            have e3 := SL.hid (u32_xor_nat (x.1 / 2) 2197175160 (by omega) (by omega))
            go_wp2
            go_round
            case rel =>
              rw [e2.out] at hrel
              simp only [← e3.out] at hrel
              simpa using hrel
            case measure => simp [intOf]; omega
          · have e2 := SL.hid (show rbit x = (x.1 / 2, x.2 / 2) by unfold rbit; rw [h, h']; rfl)
            go_wp2
            go_round
            case rel => rw [e2.out] at hrel; simpa using hrel
            case measure => simp [intOf]; omega
        · have ej : j = 8 := by omega
          subst ej
          go_wp2
          go_round
          case rel => exact ⟨k + 1, hlt, by simp, by rw [Hs.out]⟩
          case measure => simp [intOf]; omega
    · have E1 := SL.hid (show k = bs.length by omega)
      have hn := crcN_lt bs
      go_wp2
      go_ret
      have hk := E1.out
      subst hk
      rw [List.take_length]
      have e : ((4294967295 - (crcN bs : Int)) % 4294967296) = ((crcV bs : Nat) : Int) := by unfold crcV; omega
      exact ⟨by rw [← e]; rfl, rfl⟩
end Go.Proofs.YtdpfigkjkjjedaaDoor
namespace Go.Proofs.YtdpfigkjkjjedaaDoor

/-- a byte's bits, the lowest first -/
def byteBits (c : Nat) : List Bool := (List.range 8).map fun i => c.testBit i
def bitsOf (bs : List UInt8) : List Bool := bs.flatMap fun c => byteBits c.toNat
def stepB (m : Nat) (e : Bool) : Nat := bit (m ^^^ e.toNat)

theorem bit_zero : bit 0 = 0 := by decide
theorem bit_lt {m : Nat} (h : m < 4294967296) : bit m < 4294967296 := by
  unfold bit
  split
  · exact Nat.xor_lt_two_pow (n := 32) (by omega) (by omega)
  · simp; omega

theorem bit_inj {a b : Nat} (ha : a < 4294967296) (hb : b < 4294967296) (h : bit a = bit b) : a = b := by
  unfold bit at h
  have hP : ∀ x : Nat, x < 2147483648 → (x ^^^ 2197175160).testBit 31 = true := by
    intro x hx
    rw [Nat.testBit_xor, Nat.testBit_lt_two_pow (by omega)]
    rfl
  have hN : ∀ x : Nat, x < 2147483648 → (x ^^^ 0).testBit 31 = false := by
    intro x hx
    rw [Nat.xor_zero, Nat.testBit_lt_two_pow (by omega)]
  rcases Nat.mod_two_eq_zero_or_one a with h1 | h1 <;> rcases Nat.mod_two_eq_zero_or_one b with h2 | h2
  · rw [h1, h2] at h
    simp at h
    omega
  · rw [h1, h2, if_neg (by decide), if_pos rfl] at h
    have := congrArg (fun n => Nat.testBit n 31) h
    simp only [hP _ (show b / 2 < 2147483648 by omega), hN _ (show a / 2 < 2147483648 by omega)] at this
    cases this
  · rw [h1, h2, if_pos rfl, if_neg (by decide)] at h
    have := congrArg (fun n => Nat.testBit n 31) h
    simp only [hP _ (show a / 2 < 2147483648 by omega), hN _ (show b / 2 < 2147483648 by omega)] at this
    cases this
  · rw [h1, h2, if_pos rfl] at h
    have h3 : a / 2 = b / 2 := by
      have := congrArg (· ^^^ 2197175160) h
      simpa [Nat.xor_assoc] using this
    omega

theorem xor_bit_lt {m : Nat} (h : m < 4294967296) (e : Bool) : m ^^^ e.toNat < 4294967296 := Nat.xor_lt_two_pow (n := 32) (by omega) (by cases e <;> decide)
theorem stepB_lt {m : Nat} (h : m < 4294967296) (e : Bool) : stepB m e < 4294967296 := bit_lt (xor_bit_lt h e)
theorem foldB_lt (l : List Bool) : ∀ {m : Nat}, m < 4294967296 → l.foldl stepB m < 4294967296 := by
  induction l with
  | nil => intro m h; exact h
  | cons e l ih => intro m h; exact ih (stepB_lt h e)

/-- the same bits from two states: the states are told apart -/
theorem foldB_inj (l : List Bool) : ∀ {a b : Nat}, a < 4294967296 → b < 4294967296 → l.foldl stepB a = l.foldl stepB b → a = b := by
  induction l with
  | nil => intro a b _ _ h; exact h
  | cons e l ih =>
    intro a b ha hb h
    have h1 := bit_inj (xor_bit_lt ha e) (xor_bit_lt hb e) (ih (stepB_lt ha e) (stepB_lt hb e) h)
    have := congrArg (· ^^^ e.toNat) h1
    simpa [Nat.xor_assoc] using this

def bitN : Nat → Nat → Nat
  | 0, m => m
  | t + 1, m => bit (bitN t m)

theorem bitN_lin : ∀ (t q r : Nat), bitN t (2 ^ t * q ^^^ r) = q ^^^ bitN t r
  | 0, q, r => by simp [bitN]
  | t + 1, q, r => by
    rw [bitN, show 2 ^ (t + 1) * q = 2 ^ t * (2 * q) by rw [Nat.pow_succ, Nat.mul_assoc], bitN_lin t (2 * q) r, bit_lin, bitN]

theorem bitN_lt (t : Nat) {m : Nat} (h : m < 4294967296) : bitN t m < 4294967296 := by
  induction t with
  | zero => exact h
  | succ t ih => exact bit_lt ih

theorem bitN_inj (t : Nat) {a b : Nat} (ha : a < 4294967296) (hb : b < 4294967296) (h : bitN t a = bitN t b) : a = b := by
  induction t with
  | zero => exact h
  | succ t ih => exact ih (bit_inj (bitN_lt t ha) (bitN_lt t hb) h)

/-- the number of bits, the lowest first -/
def numOf : List Bool → Nat
  | [] => 0
  | e :: l => 2 * numOf l + e.toNat

theorem numOf_lt (l : List Bool) : numOf l < 2 ^ l.length := by
  induction l with
  | nil => simp [numOf]
  | cons e l ih =>
    simp only [numOf, List.length_cons, Nat.pow_succ]
    have : e.toNat ≤ 1 := by cases e <;> decide
    omega

theorem numOf_inj : ∀ {a b : List Bool}, a.length = b.length → numOf a = numOf b → a = b
  | [], [], _, _ => rfl
  | x :: a, y :: b, hl, h => by
    simp only [numOf] at h
    have hx : x.toNat ≤ 1 := by cases x <;> decide
    have hy : y.toNat ≤ 1 := by cases y <;> decide
    have h1 : numOf a = numOf b := by omega
    have h2 : x.toNat = y.toNat := by omega
    rw [numOf_inj (by simpa using hl) h1]
    congr 1
    cases x <;> cases y <;> simp_all

/-- bits taken in one behind the other are their number taken in at once -/
theorem foldB_num : ∀ (l : List Bool) (z : Nat), l.foldl stepB z = bitN l.length (z ^^^ numOf l) := by
  intro l
  induction l with
  | nil => intro z; simp [bitN, numOf]
  | cons e l ih =>
    intro z
    rw [List.foldl_cons, ih, List.length_cons]
    have hcomm : ∀ (t m : Nat), bitN t (bit m) = bit (bitN t m) := by
      intro t m
      induction t with
      | zero => rfl
      | succ t ih => rw [bitN, ih, bitN]
    rw [bitN, ← hcomm, stepB]
    congr 1
    have hn : numOf (e :: l) = 2 * numOf l ^^^ e.toNat := by
      simp only [numOf]
      have h1 := Nat.xor_div_two_pow (a := 2 * numOf l) (b := e.toNat) (n := 1)
      have h2 := Nat.xor_mod_two_pow (a := 2 * numOf l) (b := e.toNat) (n := 1)
      simp only [Nat.pow_one] at h1 h2
      have e1 : 2 * numOf l / 2 = numOf l := by omega
      have e2 : e.toNat / 2 = 0 := by cases e <;> decide
      have e3 : 2 * numOf l % 2 = 0 := by omega
      have e4 : e.toNat % 2 = e.toNat := by cases e <;> decide
      rw [e1, e2, Nat.xor_zero] at h1
      rw [e3, e4, Nat.zero_xor] at h2
      omega
    rw [hn]
    have h3 : z ^^^ (2 * numOf l ^^^ e.toNat) = 2 * numOf l ^^^ (z ^^^ e.toNat) := by
      rw [← Nat.xor_assoc, Nat.xor_comm z, Nat.xor_assoc]
    rw [h3, bit_lin, Nat.xor_comm]

theorem window {z : Nat} (hz : z < 4294967296) {a b : List Bool} (hl : a.length = b.length) (h32 : a.length ≤ 32) (h : a.foldl stepB z = b.foldl stepB z) : a = b := by
  rw [foldB_num, foldB_num, ← hl] at h
  have hp : 2 ^ a.length ≤ 2 ^ 32 := Nat.pow_le_pow_right (by omega) h32
  have ha : z ^^^ numOf a < 4294967296 := Nat.xor_lt_two_pow (n := 32) (by omega) (by have := numOf_lt a; omega)
  have hb : z ^^^ numOf b < 4294967296 := Nat.xor_lt_two_pow (n := 32) (by omega) (by have := numOf_lt b; rw [← hl] at this; omega)
  have h1 := bitN_inj _ ha hb h
  have h2 : numOf a = numOf b := by
    have := congrArg (z ^^^ ·) h1
    simpa [← Nat.xor_assoc] using this
  exact numOf_inj hl h2

/-- two rows of bits that differ in a window of at most 32 bits alone -/
theorem burst {z : Nat} (hz : z < 4294967296) {p a b s : List Bool} (hl : a.length = b.length) (h32 : a.length ≤ 32) (h : (p ++ a ++ s).foldl stepB z = (p ++ b ++ s).foldl stepB z) : a = b := by
  simp only [List.foldl_append] at h
  have h1 := foldB_inj s (foldB_lt a (foldB_lt p hz)) (foldB_lt b (foldB_lt p hz)) h
  exact window (foldB_lt p hz) hl h32 h1
end Go.Proofs.YtdpfigkjkjjedaaDoor
namespace Go.Proofs.YtdpfigkjkjjedaaDoor

theorem byteBits_num : ∀ c, c < 256 → numOf (byteBits c) = c := by decide +kernel
theorem byteBits_length (c : Nat) : (byteBits c).length = 8 := by simp [byteBits]

theorem crc1_bits (n : Nat) (c : UInt8) : crc1 n c = (byteBits c.toNat).foldl stepB n := by
  rw [foldB_num, byteBits_length, byteBits_num _ (by have := c.toNat_lt; omega)]
  unfold crc1
  rw [← bit4, ← bit4]
  rfl

theorem bitsOf_append (a b : List UInt8) : bitsOf (a ++ b) = bitsOf a ++ bitsOf b := by simp [bitsOf]
theorem bitsOf_length (bs : List UInt8) : (bitsOf bs).length = 8 * bs.length := by
  induction bs with
  | nil => rfl
  | cons c bs ih => rw [show bitsOf (c :: bs) = byteBits c.toNat ++ bitsOf bs from rfl, List.length_append, ih, byteBits_length, List.length_cons]; omega

theorem crc_fold (bs : List UInt8) : ∀ n, bs.foldl crc1 n = (bitsOf bs).foldl stepB n := by
  induction bs with
  | nil => intro n; rfl
  | cons c bs ih =>
    intro n
    rw [List.foldl_cons, ih, crc1_bits, show bitsOf (c :: bs) = byteBits c.toNat ++ bitsOf bs from rfl, List.foldl_append]

theorem crcN_bits (bs : List UInt8) : crcN bs = (bitsOf bs).foldl stepB 4294967295 := crc_fold bs _

theorem byteBits_inj {a b : UInt8} (h : byteBits a.toNat = byteBits b.toNat) : a = b := by
  have := congrArg numOf h
  rw [byteBits_num _ (by have := a.toNat_lt; omega), byteBits_num _ (by have := b.toNat_lt; omega)] at this
  exact UInt8.toNat_inj.1 this

theorem bitsOf_inj : ∀ {a b : List UInt8}, a.length = b.length → bitsOf a = bitsOf b → a = b
  | [], [], _, _ => rfl
  | x :: a, y :: b, hl, h => by
    have h' : byteBits x.toNat ++ bitsOf a = byteBits y.toNat ++ bitsOf b := h
    obtain ⟨h1, h2⟩ := List.append_inj h' (by rw [byteBits_length, byteBits_length])
    rw [byteBits_inj h1, bitsOf_inj (by simpa using hl) h2]

/-- two texts that differ in a window of 32 bits alone -/
def Near (s : Nat) (a b : List UInt8) : Prop := a.length = b.length ∧ (bitsOf a).take s = (bitsOf b).take s ∧ (bitsOf a).drop (s + 32) = (bitsOf b).drop (s + 32)

theorem Near.refl (s : Nat) (a : List UInt8) : Near s a a := ⟨rfl, rfl, rfl⟩

theorem parts (l : List Bool) (s : Nat) : l = l.take s ++ (l.drop s).take 32 ++ l.drop (s + 32) := by
  rw [List.append_assoc, ← List.drop_drop, List.take_append_drop, List.take_append_drop]

theorem Near.tells {s : Nat} {a b : List UInt8} (h : Near s a b) : (crcV a == crcV b) = (a == b) := by
  obtain ⟨hl, ht, hd⟩ := h
  rw [Bool.eq_iff_iff]
  simp only [beq_iff_eq]
  constructor
  · intro hc
    have ha := crcN_lt a
    have hb := crcN_lt b
    have hn : crcN a = crcN b := by unfold crcV at hc; omega
    rw [crcN_bits, crcN_bits, parts (bitsOf a) s, parts (bitsOf b) s, ht, hd] at hn
    have hll : ((bitsOf a).drop s).length = ((bitsOf b).drop s).length := by rw [List.length_drop, List.length_drop, bitsOf_length, bitsOf_length, hl]
    have hw := burst (z := 4294967295) (by omega) (a := ((bitsOf a).drop s).take 32) (b := ((bitsOf b).drop s).take 32) (by rw [List.length_take, List.length_take, hll]) (by rw [List.length_take]; omega) hn
    apply bitsOf_inj hl
    rw [parts (bitsOf a) s, parts (bitsOf b) s, ht, hd, hw]
  · rintro rfl
    rfl

/-- a bit turned -/
def flip1 (bs : List UInt8) (k : Nat) : List UInt8 := bs.set (k / 8) (bs.getD (k / 8) 0 ^^^ UInt8.ofNat (2 ^ (k % 8)))

theorem byteBits_flip : ∀ c, c < 256 → ∀ j, j < 8 → byteBits (c ^^^ 2 ^ j) = (byteBits c).set j (!(c.testBit j)) := by decide +kernel

theorem bitsOf_flip : ∀ (bs : List UInt8) (k : Nat), k < 8 * bs.length → ∃ x, bitsOf (flip1 bs k) = (bitsOf bs).set k x
  | [], k, h => by simp at h
  | c :: bs, k, h => by
    by_cases hk : k < 8
    · have e1 : k / 8 = 0 := by omega
      have e2 : k % 8 = k := by omega
      refine ⟨!(c.toNat.testBit k), ?_⟩
      unfold flip1
      rw [e1, e2]
      have hp : (UInt8.ofNat (2 ^ k)).toNat = 2 ^ k := by
        have : ∀ k, k < 8 → (UInt8.ofNat (2 ^ k)).toNat = 2 ^ k := by decide
        exact this k hk
      have hc : (c ^^^ UInt8.ofNat (2 ^ k)).toNat = c.toNat ^^^ 2 ^ k := by rw [UInt8.toNat_xor, hp]
      show byteBits (c ^^^ UInt8.ofNat (2 ^ k)).toNat ++ bitsOf bs = (byteBits c.toNat ++ bitsOf bs).set k _
      rw [hc, byteBits_flip _ (by have := c.toNat_lt; omega) _ hk, List.set_append_left _ _ (by rw [byteBits_length]; omega)]
    · obtain ⟨x, hx⟩ := bitsOf_flip bs (k - 8) (by simp at h; omega)
      refine ⟨x, ?_⟩
      have e1 : k / 8 = (k - 8) / 8 + 1 := by omega
      have e2 : k % 8 = (k - 8) % 8 := by omega
      have hf : flip1 (c :: bs) k = c :: flip1 bs (k - 8) := by
        unfold flip1
        rw [e1, e2]
        rfl
      rw [hf]
      show byteBits c.toNat ++ bitsOf (flip1 bs (k - 8)) = (byteBits c.toNat ++ bitsOf bs).set k x
      rw [hx, List.set_append_right _ _ (by rw [byteBits_length]; omega), byteBits_length]

theorem flip1_length (bs : List UInt8) (k : Nat) : (flip1 bs k).length = bs.length := by simp [flip1]

theorem Near.flip {s : Nat} {a b : List UInt8} (h : Near s a b) {k : Nat} (h1 : s ≤ k) (h2 : k < s + 32) (hk : k < 8 * a.length) : Near s (flip1 a k) b := by
  obtain ⟨hl, ht, hd⟩ := h
  obtain ⟨x, hx⟩ := bitsOf_flip a k hk
  refine ⟨by rw [flip1_length, hl], ?_, ?_⟩
  · rw [hx, List.take_set_of_le h1, ht]
  · rw [hx, List.drop_set_of_lt h2, hd]

/-- a number's four bytes, the lowest first -/
def le4 (s : Nat) : List UInt8 := [UInt8.ofNat s, UInt8.ofNat (s / 256), UInt8.ofNat (s / 65536), UInt8.ofNat (s / 16777216)]

theorem numOf_append : ∀ (a b : List Bool), numOf (a ++ b) = numOf a + 2 ^ a.length * numOf b
  | [], b => by simp [numOf]
  | e :: a, b => by
    simp only [List.cons_append, numOf, numOf_append a b, List.length_cons, Nat.pow_succ]
    generalize 2 ^ a.length = p
    rw [Nat.mul_comm p 2, Nat.mul_assoc]
    omega

theorem numOf_le4 (s : Nat) (h : s < 4294967296) : numOf (bitsOf (le4 s)) = s := by
  have e : bitsOf (le4 s) = byteBits (s % 256) ++ (byteBits (s / 256 % 256) ++ (byteBits (s / 65536 % 256) ++ byteBits (s / 16777216 % 256))) := by
    simp [bitsOf, le4]
  rw [e]
  simp only [numOf_append, byteBits_length]
  rw [byteBits_num _ (Nat.mod_lt _ (by omega)), byteBits_num _ (Nat.mod_lt _ (by omega)), byteBits_num _ (Nat.mod_lt _ (by omega)), byteBits_num _ (Nat.mod_lt _ (by omega))]
  omega

theorem xor_not (n : Nat) (h : n < 4294967296) : n ^^^ (4294967295 - n) = 4294967295 := by
  have h3 : (BitVec.ofNat 32 n ^^^ ~~~ BitVec.ofNat 32 n) = BitVec.allOnes 32 := by
    rw [← BitVec.allOnes_xor, BitVec.xor_comm (BitVec.allOnes 32), ← BitVec.xor_assoc, BitVec.xor_self, BitVec.zero_xor]
  have h4 := congrArg BitVec.toNat h3
  rw [BitVec.toNat_xor, BitVec.toNat_not, BitVec.toNat_allOnes, BitVec.toNat_ofNat, Nat.mod_eq_of_lt (by omega)] at h4
  exact h4

theorem residue (bs : List UInt8) : crcV (bs ++ le4 (crcV bs)) = 1214729159 := by
  have hN := crcN_lt bs
  have h1 : crcN (bs ++ le4 (crcV bs)) = bitN 32 4294967295 := by
    rw [crcN_bits, bitsOf_append, List.foldl_append, ← crcN_bits, foldB_num, numOf_le4 _ (by unfold crcV; omega)]
    rw [show (bitsOf (le4 (crcV bs))).length = 32 by rw [bitsOf_length]; rfl]
    unfold crcV
    rw [xor_not _ hN]
  unfold crcV at h1 ⊢
  rw [h1]
  decide +kernel
end Go.Proofs.YtdpfigkjkjjedaaDoor
namespace Go.Proofs.YtdpfigkjkjjedaaDoor
open Go.RowKit Go.SL

theorem alloc_at {n : Nat} {w : World} {l : List HProp} (hn : n = w.heap.size) (hE : Ent l w) (o : Obj) : Ent (pt n o :: l) (w.alloc o) := hn ▸ hE.alloc o

theorem Ok_any {w : World} {bs : List UInt8} {ao : Option Addr} {c : Nat} (n : Int) (ht : Table w) (hr : reads (.slice ao bs.length c) bs.length (bs.map fun b => Value.int .u8 b.toNat) w) (hb : bs.length ≤ 1099511627776) :
    Calls Tryd.prog 29 #[.slice ao bs.length c, .int .u32 n] w (fun e w' => e = .returned (.bool ((crcV bs : Int) == n)) ∧ w = w') := by
  go_enter Tryd.func29, Tryd.ntmps29
  go_wp2_with ((go_at_call 28; refine (Sum_any ht hr hb).mono ?_; rintro e w2 ⟨rfl, rfl⟩))
  go_ret
  exact ⟨rfl, rfl⟩

def halvesI : List Int := [0, 274646895, 549293790, 820201905, 1098587580, 1361435347, 1640403810, 1905808397, 2197175160, 2460548119, 2722870694, 2987750089, 3280807620, 3553878443, 3811616794, 4084100981]
theorem halves_same : ∀ i, i < 16 → halvesI.getD i 0 = ((tab i : Nat) : Int) := by decide

theorem table_of {W : World} (h : Lib.TabIs Tryd.prog W "armarium/crc.halves" .u32 halvesI) (hg : Tryd.prog.globalNamed "armarium/crc.halves" = some 0) : Table W := fun i hi => by
  have := h.cell hg i (by simpa [halvesI] using hi)
  rwa [halves_same i hi] at this

theorem knows_table {W : World} (h : Table W) : Knows [rest W fun _ => False] Table := fun w hE i hi => by
  rw [(hE.below 0 rfl).cell (cell_lt (h i hi))]
  exact h i hi
end Go.Proofs.YtdpfigkjkjjedaaDoor
namespace Go.Proofs.YtdpfigkjkjjedaaDoor
open Go.RowKit Go.SL

/-- a sheet's bytes ahead of its sum -/
def shH (seq : Nat) (last : Bool) (t : List UInt8) : List UInt8 := be 8 seq ++ (be 1 (if last then 2 else 1) ++ (be 2 t.length ++ (t ++ List.replicate (497 - t.length) 0)))
/-- a sheet's sector -/
def shP (seq : Nat) (last : Bool) (t : List UInt8) : List UInt8 := shH seq last t ++ le4 (crcV (shH seq last t))
theorem shH_len {seq : Nat} {last : Bool} {t : List UInt8} (h : t.length ≤ 497) : (shH seq last t).length = 508 := by
  simp only [shH, List.length_append, be_length, List.length_replicate]; omega
theorem shP_len {seq : Nat} {last : Bool} {t : List UInt8} (h : t.length ≤ 497) : (shP seq last t).length = 512 := by
  rw [shP, List.length_append, shH_len h]; rfl
/-- a sheet in parts -/
structure Sht where
  seq : Nat
  last : Bool
  text : List UInt8
/-- what the program reads -/
def rd1 (b : List UInt8) : St := tk 8 ⟨b, 0⟩
def rd2 (b : List UInt8) : St := tk 1 (rd1 b)
def rd3 (b : List UInt8) : St := tk 2 (rd2 b)
def rd4 (b : List UInt8) : St := tx (tkV 2 (rd2 b)) (rd3 b)
def rdS (b : List UInt8) : Sht := ⟨tkV 8 ⟨b, 0⟩, tkV 1 (rd1 b) == 2, txV (tkV 2 (rd2 b)) (rd3 b)⟩
def rdOk (b : List UInt8) : Bool := (rd4 b).err == 0 && (decide ((rdS b).text.length ≤ 497) && (shP (rdS b).seq (rdS b).last (rdS b).text == b))
/-- what the document reads -/
def dcN (b : List UInt8) : Nat := beVal ((b.drop 9).take 2)
def dcS (b : List UInt8) : Sht := ⟨beVal (b.take 8), b.getD 8 0 == 2, (b.drop 11).take (dcN b)⟩
def dcOk (b : List UInt8) : Bool := b.length == 512 && (decide (dcN b ≤ 497) && ((b.getD 8 0 == 1 || b.getD 8 0 == 2) && (shP (dcS b).seq (dcS b).last (dcS b).text == b)))

theorem rd_shP {seq : Nat} {last : Bool} {t : List UInt8} (hs : seq < 18446744073709551616) (h : t.length ≤ 497) : rdS (shP seq last t) = ⟨seq, last, t⟩ ∧ (rd4 (shP seq last t)).err = 0 := by
  have e : shP seq last t = be 8 seq ++ (be 1 (if last then 2 else 1) ++ (be 2 t.length ++ (t ++ (List.replicate (497 - t.length) 0 ++ le4 (crcV (shH seq last t)))))) := by
    simp only [shP, shH, List.append_assoc]
  generalize List.replicate (497 - t.length) 0 ++ le4 (crcV (shH seq last t)) = r at e
  rw [e]
  obtain ⟨a1, a2⟩ := tk_app 8 seq (be 1 (if last then 2 else 1) ++ (be 2 t.length ++ (t ++ r))) rfl hs hs
  obtain ⟨b1, b2⟩ := tk1_app (if last then 2 else 1) (be 2 t.length ++ (t ++ r)) (by split <;> omega)
  obtain ⟨c1, c2⟩ := tk2_app t.length (t ++ r) (by omega)
  obtain ⟨d1, d2⟩ := tx_app t r
  have x1 : rd1 (be 8 seq ++ (be 1 (if last then 2 else 1) ++ (be 2 t.length ++ (t ++ r)))) = ⟨be 1 (if last then 2 else 1) ++ (be 2 t.length ++ (t ++ r)), 0⟩ := a1
  have x2 : rd2 (be 8 seq ++ (be 1 (if last then 2 else 1) ++ (be 2 t.length ++ (t ++ r)))) = ⟨be 2 t.length ++ (t ++ r), 0⟩ := by rw [rd2, x1, b1]
  have x3 : rd3 (be 8 seq ++ (be 1 (if last then 2 else 1) ++ (be 2 t.length ++ (t ++ r)))) = ⟨t ++ r, 0⟩ := by rw [rd3, x2, c1]
  constructor
  · rw [rdS, x1, x2, x3, b2, c2, d2]
    have : tkV 8 ⟨be 8 seq ++ (be 1 (if last then 2 else 1) ++ (be 2 t.length ++ (t ++ r))), 0⟩ = seq := a2
    rw [this]
    cases last <;> rfl
  · rw [rd4, x2, x3, c2, d1]

theorem dc_shP {seq : Nat} {last : Bool} {t : List UInt8} (hs : seq < 18446744073709551616) (h : t.length ≤ 497) : dcS (shP seq last t) = ⟨seq, last, t⟩ ∧ dcN (shP seq last t) = t.length ∧ ((shP seq last t).getD 8 0 == 1 || (shP seq last t).getD 8 0 == 2) = true := by
  have e : shP seq last t = be 8 seq ++ (be 1 (if last then 2 else 1) ++ (be 2 t.length ++ (t ++ (List.replicate (497 - t.length) 0 ++ le4 (crcV (shH seq last t)))))) := by
    simp only [shP, shH, List.append_assoc]
  generalize List.replicate (497 - t.length) 0 ++ le4 (crcV (shH seq last t)) = r at e
  rw [e, be_one]
  have l8 : (be 8 seq).length = 8 := be_length _ _
  have l2 : (be 2 t.length).length = 2 := be_length _ _
  have v2 : beVal (be 2 t.length) = t.length := beVal_be' _ 2 (by omega) (by omega)
  have v8 : beVal (be 8 seq) = seq := beVal_be' _ 8 hs hs
  have g8 : (be 8 seq ++ ([UInt8.ofNat (if last then 2 else 1)] ++ (be 2 t.length ++ (t ++ r)))).getD 8 0 = UInt8.ofNat (if last then 2 else 1) := by
    rw [List.getD_eq_getElem?_getD, List.getElem?_append_right (by omega), l8]; rfl
  have d9 : (be 8 seq ++ ([UInt8.ofNat (if last then 2 else 1)] ++ (be 2 t.length ++ (t ++ r)))).drop 9 = be 2 t.length ++ (t ++ r) := by
    rw [← List.append_assoc, List.drop_left' (by rw [List.length_append, l8]; rfl)]
  have d11 : (be 8 seq ++ ([UInt8.ofNat (if last then 2 else 1)] ++ (be 2 t.length ++ (t ++ r)))).drop 11 = t ++ r := by
    rw [← List.append_assoc, ← List.append_assoc, List.drop_left' (by rw [List.length_append, List.length_append, l8, l2]; rfl)]
  have t8 : (be 8 seq ++ ([UInt8.ofNat (if last then 2 else 1)] ++ (be 2 t.length ++ (t ++ r)))).take 8 = be 8 seq := List.take_left' l8
  have n : dcN (be 8 seq ++ ([UInt8.ofNat (if last then 2 else 1)] ++ (be 2 t.length ++ (t ++ r)))) = t.length := by
    rw [dcN, d9, List.take_left' l2, v2]
  refine ⟨?_, n, ?_⟩
  · rw [dcS, n, d11, t8, v8, g8, List.take_left' rfl]
    cases last <;> rfl
  · rw [g8]; cases last <;> rfl

theorem rdS_seq (b : List UInt8) : (rdS b).seq < 18446744073709551616 := tkV_lt _ _
theorem dcS_seq (b : List UInt8) : (dcS b).seq < 18446744073709551616 := by
  show beVal _ < _
  rw [beVal]
  have : ∀ (l : List UInt8) (a : Nat), a < 18446744073709551616 → l.foldl (fun n c => (n * 256 + c.toNat) % 18446744073709551616) a < 18446744073709551616 := by
    intro l
    induction l with
    | nil => exact fun a h => h
    | cons c l ih => exact fun a _ => ih _ (Nat.mod_lt _ (by omega))
  exact this _ _ (by omega)
/-- both read the same -/
theorem rd_dc (b : List UInt8) : rdOk b = dcOk b ∧ (rdOk b = true → rdS b = dcS b) := by
  have one : rdOk b = true → dcOk b = true ∧ rdS b = dcS b := fun h => by
    simp only [rdOk, Bool.and_eq_true, beq_iff_eq, decide_eq_true_eq] at h
    obtain ⟨h1, h2, h3⟩ := h
    obtain ⟨e1, e2, e3⟩ := dc_shP (last := (rdS b).last) (rdS_seq b) h2
    have hl := shP_len (seq := (rdS b).seq) (last := (rdS b).last) h2
    rw [h3] at e1 e2 e3 hl
    refine ⟨?_, e1.symm⟩
    simp only [dcOk, Bool.and_eq_true, beq_iff_eq, decide_eq_true_eq]
    refine ⟨hl, by omega, e3, ?_⟩
    rw [e1]
    exact h3
  have two : dcOk b = true → rdOk b = true := fun h => by
    simp only [dcOk, Bool.and_eq_true, beq_iff_eq, decide_eq_true_eq] at h
    obtain ⟨h1, h2, h3, h4⟩ := h
    have h5 : (dcS b).text.length ≤ 497 := by
      show (List.take _ _).length ≤ _
      rw [List.length_take]; omega
    obtain ⟨e1, e2⟩ := rd_shP (last := (dcS b).last) (dcS_seq b) h5
    rw [h4] at e1 e2
    simp only [rdOk, Bool.and_eq_true, beq_iff_eq, decide_eq_true_eq]
    rw [e1]
    exact ⟨e2, h5, h4⟩
  refine ⟨?_, fun h => (one h).2⟩
  cases h1 : rdOk b with
  | true => exact (one h1).1.symm
  | false =>
    cases h2 : dcOk b with
    | false => rfl
    | true => rw [two h2] at h1; cases h1
end Go.Proofs.YtdpfigkjkjjedaaDoor
namespace Go.Proofs.YtdpfigkjkjjedaaDoor
open Go.RowKit Go.SL

deriving instance DecidableEq for Sht
/-- how many sheets so many bytes take -/
def needN (n : Nat) : Nat := max 1 ((n + 496) / 497)
def pieceAt (seq : Nat) (t : List UInt8) (i : Nat) : Sht := ⟨(seq + i) % 18446744073709551616, decide (i + 1 = needN t.length), (t.drop (497 * i)).take 497⟩
def cutL (seq : Nat) (t : List UInt8) : List Sht := (List.range (needN t.length)).map (pieceAt seq t)
theorem needN_pos (n : Nat) : 1 ≤ needN n := by unfold needN; omega
theorem need_more {n k : Nat} (h : k < needN n) : k + 1 < needN n ↔ 497 < n - 497 * k := by unfold needN at *; omega
theorem need_in {n k : Nat} (h : k < needN n) : 497 * k ≤ n := by unfold needN at *; omega
theorem cutL_len (seq : Nat) (t : List UInt8) : (cutL seq t).length = needN t.length := by simp [cutL]
theorem cutL_at {seq : Nat} {t : List UInt8} {k : Nat} (h : k < (cutL seq t).length) : (cutL seq t)[k] = pieceAt seq t k := by simp [cutL]
theorem cutL_get {seq : Nat} {t : List UInt8} {k : Nat} (h : k < needN t.length) : (cutL seq t)[k]? = some (pieceAt seq t k) := by
  rw [List.getElem?_eq_getElem (by rw [cutL_len]; exact h), cutL_at]
theorem piece_more {seq : Nat} {t : List UInt8} {k : Nat} (h : k + 1 < needN t.length) : pieceAt seq t k = ⟨(seq + k) % 18446744073709551616, false, (t.drop (497 * k)).take 497⟩ := by
  rw [pieceAt, decide_eq_false (by omega)]
theorem piece_last {seq : Nat} {t : List UInt8} {k : Nat} (h : k + 1 = needN t.length) : pieceAt seq t k = ⟨(seq + k) % 18446744073709551616, true, t.drop (497 * k)⟩ := by
  rw [pieceAt, decide_eq_true h, List.take_of_length_le]
  have := need_more (n := t.length) (k := k) (by omega)
  rw [List.length_drop]; omega
theorem piece_len (seq : Nat) (t : List UInt8) (k : Nat) : (pieceAt seq t k).text.length ≤ 497 := by
  show (List.take _ _).length ≤ _
  rw [List.length_take]; omega
theorem piece_seq (seq : Nat) (t : List UInt8) (k : Nat) : (pieceAt seq t k).seq < 18446744073709551616 := Nat.mod_lt _ (by omega)
/-- the texts of sheets, one behind the other -/
def allT (l : List Sht) : List UInt8 := l.flatMap (·.text)
theorem allT_append (a b : List Sht) : allT (a ++ b) = allT a ++ allT b := by simp [allT]
theorem allT_pieces (seq : Nat) (t : List UInt8) : ∀ k, k ≤ needN t.length → allT ((List.range k).map (pieceAt seq t)) = t.take (497 * k)
  | 0, _ => by simp [allT]
  | k + 1, h => by
    rw [List.range_succ, List.map_append, allT_append, allT_pieces seq t k (by omega)]
    show _ ++ (((t.drop (497 * k)).take 497) ++ []) = _
    rw [List.append_nil, show 497 * (k + 1) = 497 * k + 497 by omega, List.take_add]
theorem allT_cut (seq : Nat) (t : List UInt8) : allT (cutL seq t) = t := by
  rw [cutL, allT_pieces seq t _ (Nat.le_refl _), List.take_of_length_le]
  unfold needN; omega
/-- may these be joined? -/
def joinB : List Sht → Bool
  | [] => false
  | x :: l => cutL x.seq (allT (x :: l)) == x :: l
def joinT (l : List Sht) : List UInt8 := if joinB l then allT l else []
theorem cutL_cons {seq : Nat} {t : List UInt8} : ∃ l, cutL seq t = pieceAt seq t 0 :: l := by
  obtain ⟨n, hn⟩ : ∃ n, needN t.length = n + 1 := ⟨needN t.length - 1, by have := needN_pos t.length; omega⟩
  rw [cutL, hn, List.range_succ_eq_map]
  exact ⟨_, rfl⟩
theorem cut_cut {seq : Nat} {t : List UInt8} (hs : seq < 18446744073709551616) : cutL (pieceAt seq t 0).seq t = cutL seq t := by
  show cutL ((seq + 0) % 18446744073709551616) t = _
  rw [Nat.add_zero, Nat.mod_eq_of_lt hs]
theorem join_cut {seq : Nat} {t : List UInt8} (hs : seq < 18446744073709551616) : joinB (cutL seq t) = true ∧ joinT (cutL seq t) = t := by
  have h : joinB (cutL seq t) = true := by
    obtain ⟨l, hl⟩ := cutL_cons (seq := seq) (t := t)
    have h1 := allT_cut seq t
    have h2 := cut_cut (t := t) hs
    rw [hl] at h1 ⊢
    rw [joinB, h1, h2, hl, beq_self_eq_true]
  exact ⟨h, by rw [joinT, h, if_pos rfl, allT_cut]⟩
/-- without the last sheet they are not joined -/
theorem join_short {seq : Nat} {t : List UInt8} : joinB (cutL seq t).dropLast = false := by
  cases hd : (cutL seq t).dropLast with
  | nil => rfl
  | cons x l =>
    rw [joinB, ← hd]
    rw [beq_eq_false_iff_ne]
    intro h
    -- the last of what is cut says that it is the last; of what was cut ahead of the last one, none does
    have hlen : (cutL seq t).dropLast.length = needN t.length - 1 := by rw [List.length_dropLast, cutL_len]
    have hpos : 0 < (cutL seq t).dropLast.length := by rw [hd]; simp
    have hk : needN t.length - 2 < (cutL seq t).dropLast.length := by omega
    have h1 : (cutL seq t).dropLast[needN t.length - 2]'hk = pieceAt seq t (needN t.length - 2) := by
      rw [List.getElem_dropLast, cutL_at]
    have h2 : (cutL seq t).dropLast[needN t.length - 2]? = some (pieceAt seq t (needN t.length - 2)) := by rw [List.getElem?_eq_getElem hk, h1]
    have h3 : needN (allT (cutL seq t).dropLast).length = needN t.length - 1 := by
      have := congrArg List.length h
      rw [cutL_len, hlen] at this
      exact this
    rw [← h, cutL_get (by omega)] at h2
    have h4 := congrArg Sht.last (Option.some.inj h2)
    simp only [pieceAt, h3] at h4
    rw [decide_eq_true (by omega), decide_eq_false (by omega)] at h4
    cases h4
end Go.Proofs.YtdpfigkjkjjedaaDoor
namespace Go.Proofs.YtdpfigkjkjjedaaDoor
open Go.RowKit Go.SL

theorem rdOk_shP {seq : Nat} {last : Bool} {t : List UInt8} (hs : seq < 18446744073709551616) (h : t.length ≤ 497) : rdOk (shP seq last t) = true := by
  obtain ⟨e1, e2⟩ := rd_shP (last := last) hs h
  simp only [rdOk, Bool.and_eq_true, beq_iff_eq, decide_eq_true_eq]
  rw [e1]
  exact ⟨e2, h, rfl⟩
theorem shP_residue (seq : Nat) (last : Bool) (t : List UInt8) : crcV (shP seq last t) = 1214729159 := residue _
/-- what is near a sheet's sector is a sheet's only if it is that sector -/
theorem shP_tells {seq : Nat} {last : Bool} {t b : List UInt8} {s : Nat} (hs : seq < 18446744073709551616) (h : t.length ≤ 497) (hn : Near s b (shP seq last t)) : rdOk b = (b == shP seq last t) := by
  cases hb : b == shP seq last t with
  | true => rw [beq_iff_eq.1 hb]; exact rdOk_shP hs h
  | false =>
    cases hr : rdOk b with
    | false => rfl
    | true =>
      simp only [rdOk, Bool.and_eq_true, beq_iff_eq, decide_eq_true_eq] at hr
      have e : crcV b = 1214729159 := by rw [← hr.2.2]; exact shP_residue _ _ _
      have := hn.tells
      rw [e, shP_residue, hb] at this
      exact absurd this (by decide)

theorem and_mask (n : Nat) : n &&& 16711935 = 2 ^ 16 * (n / 65536 % 256) + n % 256 := by
  apply Nat.eq_of_testBit_eq
  intro j
  have e1 : n % 256 < 2 ^ 16 := by omega
  have e2 : (16711935 : Nat) = 2 ^ 16 * (2 ^ 8 - 1) + (2 ^ 8 - 1) := by decide
  rw [Nat.testBit_and, e2, Nat.testBit_two_pow_mul_add _ (by decide), Nat.testBit_two_pow_mul_add _ e1]
  by_cases h : j < 16
  · rw [if_pos h, if_pos h, Nat.testBit_two_pow_sub_one, show (256 : Nat) = 2 ^ 8 from rfl, Nat.testBit_mod_two_pow, Bool.and_comm]
  · rw [if_neg h, if_neg h, Nat.testBit_two_pow_sub_one, show (256 : Nat) = 2 ^ 8 from rfl, Nat.testBit_mod_two_pow, Bool.and_comm, show (65536 : Nat) = 2 ^ 16 by decide, Nat.testBit_div_two_pow, show j - 16 + 16 = j by omega]
theorem or_split {k x1 x2 y1 y2 : Nat} (h1 : x1 < 2 ^ k) (h2 : x2 < 2 ^ k) : (2 ^ k * y1 + x1) ||| (2 ^ k * y2 + x2) = 2 ^ k * (y1 ||| y2) + (x1 ||| x2) := by
  apply Nat.eq_of_testBit_eq
  intro j
  rw [Nat.testBit_or, Nat.testBit_two_pow_mul_add _ h1, Nat.testBit_two_pow_mul_add _ h2, Nat.testBit_two_pow_mul_add _ (Nat.or_lt_two_pow h1 h2)]
  by_cases h : j < k
  · simp only [if_pos h, Nat.testBit_or]
  · simp only [if_neg h, Nat.testBit_or]
theorem or_add {k x y : Nat} (h : x < 2 ^ k) : x ||| (2 ^ k * y) = 2 ^ k * y + x := by
  have := or_split (k := k) (x1 := x) (x2 := 0) (y1 := 0) (y2 := y) h (Nat.two_pow_pos k)
  simpa using this
theorem or_add' {k x y : Nat} (h : x < 2 ^ k) : (2 ^ k * y) ||| x = 2 ^ k * y + x := by rw [Nat.or_comm, or_add h]
/-- the bytes of a number of 32 bits, turned round, as the library reckons them -/
def revY (x : Nat) : Nat := (x / 256 &&& 16711935) ||| ((x &&& 16711935) * 256 % 4294967296)
def rev32 (x : Nat) : Nat := revY x / 65536 ||| revY x * 65536 % 4294967296
theorem rev32_eq {x : Nat} (h : x < 4294967296) : rev32 x = 16777216 * (x % 256) + 65536 * (x / 256 % 256) + 256 * (x / 65536 % 256) + x / 16777216 := by
  have a1 : x / 256 &&& 16711935 = 2 ^ 16 * (x / 16777216) + x / 256 % 256 := by rw [and_mask]; omega
  have a2 : (x &&& 16711935) * 256 % 4294967296 = 2 ^ 16 * (2 ^ 8 * (x / 65536 % 256)) + 2 ^ 8 * (x % 256) := by rw [and_mask]; omega
  have y : revY x = 2 ^ 16 * (2 ^ 8 * (x / 65536 % 256) + x / 16777216) + (2 ^ 8 * (x % 256) + x / 256 % 256) := by
    rw [revY, a1, a2, or_split (by omega) (by omega), or_add (by omega), or_add (by omega)]
  rw [rev32, y]
  have b1 : (2 ^ 16 * (2 ^ 8 * (x / 65536 % 256) + x / 16777216) + (2 ^ 8 * (x % 256) + x / 256 % 256)) / 65536 = 2 ^ 8 * (x / 65536 % 256) + x / 16777216 := by omega
  have b2 : (2 ^ 16 * (2 ^ 8 * (x / 65536 % 256) + x / 16777216) + (2 ^ 8 * (x % 256) + x / 256 % 256)) * 65536 % 4294967296 = 2 ^ 16 * (2 ^ 8 * (x % 256) + x / 256 % 256) := by
    have h0 : x % 256 < 256 := by omega
    have h1 : x / 256 % 256 < 256 := by omega
    have h2 : 2 ^ 8 * (x % 256) + x / 256 % 256 < 65536 := by omega
    generalize 2 ^ 8 * (x % 256) + x / 256 % 256 = B at *; generalize 2 ^ 8 * (x / 65536 % 256) + x / 16777216 = A at *
    rw [show (2 ^ 16 * A + B) * 65536 = 65536 * B + 4294967296 * A by omega, Nat.add_mul_mod_self_left, Nat.mod_eq_of_lt (by omega)]
  rw [b1, b2, or_add (by omega)]
  omega
theorem be_rev {x : Nat} (h : x < 4294967296) : be 4 (rev32 x) = le4 x := by
  rw [rev32_eq h]
  have q : ∀ a b : Nat, a % 256 = b % 256 → UInt8.ofNat a = UInt8.ofNat b := fun a b h => by
    apply UInt8.toNat_inj.1
    simp only [UInt8.toNat_ofNat']
    exact h
  generalize hz : 16777216 * (x % 256) + 65536 * (x / 256 % 256) + 256 * (x / 65536 % 256) + x / 16777216 = z
  simp only [be, le4, List.cons.injEq, and_true, show (256 : Nat) ^ 3 = 16777216 by decide, show (256 : Nat) ^ 2 = 65536 by decide, show (256 : Nat) ^ 1 = 256 by decide, Nat.pow_zero, Nat.div_one]
  have b0 : x % 256 < 256 := by omega
  have b1 : x / 256 % 256 < 256 := by omega
  have b2 : x / 65536 % 256 < 256 := by omega
  have b3 : x / 16777216 < 256 := by omega
  refine ⟨q _ _ ?_, q _ _ ?_, q _ _ ?_, q _ _ ?_⟩
  · generalize x % 256 = a at *; generalize x / 256 % 256 = b at *; generalize x / 65536 % 256 = c at *; generalize x / 16777216 = d at *; omega
  · generalize x % 256 = a at *; generalize x / 256 % 256 = b at *; generalize x / 65536 % 256 = c at *; generalize x / 16777216 = d at *; omega
  · generalize x % 256 = a at *; generalize x / 256 % 256 = b at *; generalize x / 65536 % 256 = c at *; generalize x / 16777216 = d at *; omega
  · generalize x % 256 = a at *; generalize x / 256 % 256 = b at *; generalize x / 65536 % 256 = c at *; have e : x / 16777216 < 256 := b3; generalize x / 16777216 = d at *; omega
end Go.Proofs.YtdpfigkjkjjedaaDoor
namespace Go.Proofs.YtdpfigkjkjjedaaDoor
open Go.RowKit Go.SL

theorem bitsOf_turn : ∀ (bs : List UInt8) (k : Nat), k < 8 * bs.length → bitsOf (flip1 bs k) = (bitsOf bs).set k (!((bitsOf bs).getD k false))
  | [], k, h => by simp at h
  | c :: bs, k, h => by
    by_cases hk : k < 8
    · have e1 : k / 8 = 0 := by omega
      have e2 : k % 8 = k := by omega
      have hg : (byteBits c.toNat ++ bitsOf bs).getD k false = c.toNat.testBit k := by
        rw [List.getD_eq_getElem?_getD, List.getElem?_append_left (by rw [byteBits_length]; omega)]
        simp [byteBits, hk]
      unfold flip1
      rw [e1, e2]
      have hp : (UInt8.ofNat (2 ^ k)).toNat = 2 ^ k := by
        have : ∀ k, k < 8 → (UInt8.ofNat (2 ^ k)).toNat = 2 ^ k := by decide
        exact this k hk
      have hc : (c ^^^ UInt8.ofNat (2 ^ k)).toNat = c.toNat ^^^ 2 ^ k := by rw [UInt8.toNat_xor, hp]
      show byteBits (c ^^^ UInt8.ofNat (2 ^ k)).toNat ++ bitsOf bs = (byteBits c.toNat ++ bitsOf bs).set k (!((byteBits c.toNat ++ bitsOf bs).getD k false))
      rw [hc, byteBits_flip _ (by have := c.toNat_lt; omega) _ hk, hg, List.set_append_left _ _ (by rw [byteBits_length]; omega)]
    · have ih := bitsOf_turn bs (k - 8) (by simp at h; omega)
      have e1 : k / 8 = (k - 8) / 8 + 1 := by omega
      have e2 : k % 8 = (k - 8) % 8 := by omega
      have hf : flip1 (c :: bs) k = c :: flip1 bs (k - 8) := by
        unfold flip1
        rw [e1, e2]
        rfl
      have hg : (byteBits c.toNat ++ bitsOf bs).getD k false = (bitsOf bs).getD (k - 8) false := by
        rw [List.getD_eq_getElem?_getD, List.getElem?_append_right (by rw [byteBits_length]; omega), byteBits_length, List.getD_eq_getElem?_getD]
      rw [hf]
      show byteBits c.toNat ++ bitsOf (flip1 bs (k - 8)) = (byteBits c.toNat ++ bitsOf bs).set k (!((byteBits c.toNat ++ bitsOf bs).getD k false))
      rw [ih, hg, List.set_append_right _ _ (by rw [byteBits_length]; omega), byteBits_length]

/-- what was turned at i places at most, of those from s on, and whether any was -/
def Turned (b : List UInt8) (s i : Nat) (ot : List UInt8) (ch : Bool) : Prop := ot.length = b.length ∧ Near s ot b ∧ (bitsOf ot).drop (s + i) = (bitsOf b).drop (s + i) ∧ ch = !(ot == b)
theorem Turned.start (b : List UInt8) (s : Nat) : Turned b s 0 b false := ⟨rfl, Near.refl _ _, rfl, by simp⟩
theorem Turned.skip {b ot : List UInt8} {s i : Nat} {ch : Bool} (h : Turned b s i ot ch) : Turned b s (i + 1) ot ch := by
  obtain ⟨h1, h2, h3, h4⟩ := h
  refine ⟨h1, h2, ?_, h4⟩
  have := congrArg (List.drop 1) h3
  rwa [List.drop_drop, List.drop_drop] at this
theorem Turned.turn {b ot : List UInt8} {s i : Nat} {ch : Bool} (h : Turned b s i ot ch) (hi : i < 32) (hk : s + i < 8 * b.length) : Turned b s (i + 1) (flip1 ot (s + i)) true := by
  obtain ⟨h1, h2, h3, h4⟩ := h
  have hf := bitsOf_turn ot (s + i) (by omega)
  refine ⟨by rw [flip1_length, h1], h2.flip (by omega) (by omega) (by omega), ?_, ?_⟩
  · rw [hf, List.drop_set_of_lt (by omega)]
    have := congrArg (List.drop 1) h3
    rwa [List.drop_drop, List.drop_drop] at this
  · have hne : flip1 ot (s + i) ≠ b := fun e => by
      have e1 : (bitsOf b)[s + i]? = (bitsOf ot)[s + i]? := by
        have := congrArg (fun l => l[0]?) h3
        simp only [List.getElem?_drop, Nat.add_zero] at this
        exact this.symm
      have hlen : s + i < (bitsOf ot).length := by rw [bitsOf_length]; omega
      rw [← e, hf, List.getElem?_set_self hlen, List.getElem?_eq_getElem hlen, List.getD_eq_getElem?_getD, List.getElem?_eq_getElem hlen] at e1
      have e2 := Option.some.inj e1
      simp only [Option.getD_some] at e2
      cases hb : (bitsOf ot)[s + i] <;> rw [hb] at e2 <;> cases e2
    simp [hne]
/-- the sheet of what was turned: none's, if any was -/
theorem Turned.tells {seq : Nat} {last : Bool} {t ot : List UInt8} {s i : Nat} {ch : Bool} (hs : seq < 18446744073709551616) (ht : t.length ≤ 497) (h : Turned (shP seq last t) s i ot ch) : rdOk ot = !ch := by
  rw [shP_tells hs ht h.2.1, h.2.2.2, Bool.not_not]
end Go.Proofs.YtdpfigkjkjjedaaDoor
namespace Go.Proofs.YtdpfigkjkjjedaaDoor
open Go.RowKit Go.SL

theorem Rev32_any (x : Nat) (hx : x < 4294967296) (w : World) : Calls Tryd.prog 50 #[.int .u32 x] w (fun e w' => e = .returned (.int .u32 (rev32 x : Nat)) ∧ w = w') := by
  have h1 : bits .and .u32 ((x : Int) / 256) 16711935 = ((x / 256 &&& 16711935 : Nat) : Int) := u32_and_nat (x / 256) 16711935 (by omega) (by omega)
  have h2 : bits .and .u32 (x : Int) 16711935 = ((x &&& 16711935 : Nat) : Int) := u32_and_nat x 16711935 hx (by omega)
  have h3 : bits .or .u32 ((x / 256 &&& 16711935 : Nat) : Int) (((x &&& 16711935 : Nat) : Int) * 256 % 4294967296) = ((revY x : Nat) : Int) := by
    have := u32_or_nat (x / 256 &&& 16711935) ((x &&& 16711935) * 256 % 4294967296) (Nat.lt_of_le_of_lt Nat.and_le_left (by omega)) (by omega)
    rw [revY, ← this]
    congr 1
  have hy : revY x < 4294967296 := by
    unfold revY
    exact Nat.or_lt_two_pow (n := 32) (Nat.lt_of_le_of_lt Nat.and_le_left (by omega)) (by omega)
  have h4 : bits .or .u32 (((revY x : Nat) : Int) / 65536) (((revY x : Nat) : Int) * 65536 % 4294967296) = ((rev32 x : Nat) : Int) := by
    have := u32_or_nat (revY x / 65536) (revY x * 65536 % 4294967296) (by omega) (by omega)
    rw [rev32, ← this]
    congr 1
  generalize rev32 x = r at *
  generalize revY x = y at *
  generalize x / 256 &&& 16711935 = a at *
  generalize x &&& 16711935 = b at *
  go_enter Tryd.func50, Tryd.ntmps50
  go_wp2
  go_ret
  exact ⟨by first | rfl | simp, rfl⟩
theorem rev32_lt {x : Nat} (h : x < 4294967296) : rev32 x < 4294967296 := by rw [rev32_eq h]; omega

/-- a sheet, as the program has it -/
def shV (s : Sht) : Value := .agg #[.int .u64 s.seq, .bool s.last, .string ⟨s.text.toArray⟩]
theorem sPut_long {seq : Nat} {last : Bool} {t : List UInt8} (h : 497 < t.length) {l : List HProp} {w : World} (hE : Ent l w) :
    Calls Tryd.prog 11 #[.agg #[.int .u64 seq, .bool last, .string ⟨t.toArray⟩]] w (Ret fun v w' => v = .tuple #[.slice none 0 0, .int .i64 6] ∧ Ent l w') := by
  have hd : (497 : Int) < (t.length : Int) := by omega
  go_enter Tryd.func11, Tryd.ntmps11
  go_wp2_with (first
    | go_skip
    | ((with_reducible (show Go.wpList _ _ _ (Go.Oper.mk _ (.box _ _) _ _ _ _ :: _) _ _)); refine wpl_box hE rfl rfl rfl ?_; clear hE; intro b1 w hE; simp only [Act.eval, Act.put, List.setIfInBounds_toArray, List.set_cons_zero, List.set_cons_succ, getD_lit, List.getD_cons_succ, List.getD_cons_zero, Value.cells] at hE)
    | ((with_reducible (show Go.wpList _ _ _ (Go.Oper.mk _ (.load _ _) _ _ _ _ :: _) _ _)); first | (refine wpl_load1 hE 0 rfl rfl rfl rfl (by simp [go_sem]) rfl ?_) | (refine wpl_load1 hE 1 rfl rfl rfl rfl (by simp [go_sem]) rfl ?_) | (refine wpl_load1 hE 2 rfl rfl rfl rfl (by simp [go_sem]) rfl ?_) | (refine wpl_load1 hE 3 rfl rfl rfl rfl (by simp [go_sem]) rfl ?_) | (refine wpl_load1 hE 4 rfl rfl rfl rfl (by simp [go_sem]) rfl ?_) | (refine wpl_load1 hE 5 rfl rfl rfl rfl (by simp [go_sem]) rfl ?_)))
  go_ret2
  exact ⟨_, rfl, rfl, hE.tail⟩

set_option maxRecDepth 100000 in
set_option maxHeartbeats 4000000 in
attribute [-go_sem] Instr.loadAt in
theorem sPut_true {seq : Nat} (hs : seq < 18446744073709551616) {t : List UInt8} (h : t.length ≤ 497) {l : List HProp} {w : World} (ht : Knows l Table) (hE : Ent l w) :
    Calls Tryd.prog 11 #[.agg #[.int .u64 seq, .bool true, .string ⟨t.toArray⟩]] w (Ret fun v w' => ∃ ao c, v = .tuple #[.slice ao (shP seq true t).length c, .int .i64 0] ∧ Ent (rowB ao c (shP seq true t) :: l) w') := by
  have hd : decide ((497 : Int) < (t.length : Int)) = false := decide_eq_false (by omega)
  have hl0 : IntKind.u64.wrap (t.length : Int) = t.length := wrapU_id (by omega)
  have Hl := SL.hid (shH_len (seq := seq) (last := true) h)
  have Hz := SL.hid (show (497 : Int) - (t.length : Int) = ((497 - t.length : Nat) : Int) by omega)
  have Hc := SL.hid (show crcV (shH seq true t) < 4294967296 by unfold crcV; omega)
  have Hr := SL.hid (rev32_lt Hc.out)
  have Hbe := SL.hid (be_rev Hc.out)
  have hwr : IntKind.u64.wrap ((rev32 (crcV (shH seq true t)) : Nat) : Int) = ((rev32 (crcV (shH seq true t)) : Nat) : Int) := wrapU_id (by have := Hr.out; omega)
  go_enter Tryd.func11, Tryd.ntmps11
  go_wp2_with (first
    | go_skip
    | ((with_reducible (show Go.wpList _ _ _ (Go.Oper.mk _ (.box _ _) _ _ _ _ :: _) _ _)); refine wpl_box hE rfl rfl rfl ?_; clear hE; intro b1 w hE; simp only [Act.eval, Act.put, List.setIfInBounds_toArray, List.set_cons_zero, List.set_cons_succ, getD_lit, List.getD_cons_succ, List.getD_cons_zero, Value.cells] at hE)
    | ((with_reducible (show Go.wpList _ _ _ (Go.Oper.mk _ (.load _ _) _ _ _ _ :: _) _ _)); first | (refine wpl_load1 hE 0 rfl rfl rfl rfl (by simp [go_sem]) rfl ?_) | (refine wpl_load1 hE 1 rfl rfl rfl rfl (by simp [go_sem]) rfl ?_) | (refine wpl_load1 hE 2 rfl rfl rfl rfl (by simp [go_sem]) rfl ?_) | (refine wpl_load1 hE 3 rfl rfl rfl rfl (by simp [go_sem]) rfl ?_) | (refine wpl_load1 hE 4 rfl rfl rfl rfl (by simp [go_sem]) rfl ?_) | (refine wpl_load1 hE 5 rfl rfl rfl rfl (by simp [go_sem]) rfl ?_)))
  refine wp_region_held_drew (S := (fun w' => ((Instr.loadAt 22 (.pointer (some ⟨b1, 0, none⟩))).run Tryd.prog w' = .ok (.int .u64 seq) w') ∧ ((Instr.loadAt 9 (.pointer (some ⟨b1, 2, none⟩))).run Tryd.prog w' = .ok (.string ⟨t.toArray⟩) w'))) (by kernel_rfl) ⟨(atVm hE.drew (by repeat (first | exact List.Mem.head _ | refine List.Mem.tail _ ?_)) (by simp [go_sem]) rfl), (atVm hE.drew (by repeat (first | exact List.Mem.head _ | refine List.Mem.tail _ ?_)) (by simp [go_sem]) rfl)⟩ (fun hS => ?_)
  refine takeW 1 ⟨some 17, .fieldAddr 30 (.tmp 1) 0, 0, "sheet.go:38", #[], none⟩ ?_ (.inl ⟨by rfl, ?_⟩) hS ?_
  rotate_left
  · (intro w hSw; (try dsimp only at hSw); go_simp; (try with_reducible rfl))
  try simp only [Act.put, sb, s0, sz]
  refine takeW 2 ⟨some 18, .load 22 (.tmp 17), 22, "sheet.go:38", #[⟨1, .data⟩], none⟩ ?_ (.inl ⟨by rfl, ?_⟩) hS ?_
  rotate_left
  · (intro w hSw; (try dsimp only at hSw); go_simp; (try with_reducible rfl))
  try simp only [Act.put, sb, s0, sz]
  refine takeW 4 ⟨some 20, .move (.tmp 4), 22, "sheet.go:38", #[], none⟩ ?_ (.inl ⟨by rfl, ?_⟩) hS ?_
  rotate_left
  · (intro w hSw; (try dsimp only at hSw); go_simp; (try with_reducible rfl))
  try simp only [Act.put, sb, s0, sz]
  refine takeW 6 ⟨some 22, .fieldAddr 30 (.tmp 1) 2, 0, "sheet.go:38", #[], none⟩ ?_ (.inl ⟨by rfl, ?_⟩) hS ?_
  rotate_left
  · (intro w hSw; (try dsimp only at hSw); go_simp; (try with_reducible rfl))
  try simp only [Act.put, sb, s0, sz]
  refine takeW 7 ⟨some 23, .load 9 (.tmp 22), 9, "sheet.go:38", #[⟨6, .data⟩], none⟩ ?_ (.inl ⟨by rfl, ?_⟩) hS ?_
  rotate_left
  · (intro w hSw; (try dsimp only at hSw); go_simp; (try with_reducible rfl))
  try simp only [Act.put, sb, s0, sz]
  refine takeW 8 ⟨some 24, .call { callee := .builtin .len, args := #[.tmp 23], argTypes := #[9] }, 3, "sheet.go:38", #[⟨7, .data⟩], none⟩ ?_ (.inl ⟨by rfl, ?_⟩) hS ?_
  rotate_left
  · (intro w hSw; (try dsimp only at hSw); go_simp; (try with_reducible rfl))
  try simp only [Act.put, sb, s0, sz]
  refine takeW 9 ⟨some 25, .convert 3 22 (.tmp 24), 22, "sheet.go:38", #[⟨8, .data⟩], none⟩ ?_ (.inl ⟨by rfl, ?_⟩) hS ?_
  rotate_left
  · (intro w hSw; (try dsimp only at hSw); go_simp; (try with_reducible rfl))
  try simp only [Act.put, sb, s0, sz]
  refine takeW 11 ⟨some 27, .fieldAddr 30 (.tmp 1) 2, 0, "sheet.go:38", #[], none⟩ ?_ (.inl ⟨by rfl, ?_⟩) hS ?_
  rotate_left
  · (intro w hSw; (try dsimp only at hSw); go_simp; (try with_reducible rfl))
  try simp only [Act.put, sb, s0, sz]
  refine takeW 12 ⟨some 28, .load 9 (.tmp 27), 9, "sheet.go:38", #[⟨11, .data⟩], none⟩ ?_ (.inl ⟨by rfl, ?_⟩) hS ?_
  rotate_left
  · (intro w hSw; (try dsimp only at hSw); go_simp; (try with_reducible rfl))
  try simp only [Act.put, sb, s0, sz]
  refine wpAnyH_ready (rs := [0]) (by kernel_rfl) (by simp) ?_
  refine (AllReadyH.cons (o := { dst := some 16, op := Go.Op.call { callee := Go.Callee.value (Go.Operand.func 45), args := #[], argTypes := #[] }, type := 104, pos := "sheet.go:38", after := #[], guard := none }) rfl (fun K hK => ?_) AllReadyH.nil)
  (go_simp; refine (New_any hE.drew).mono ?_; rintro e w3 ⟨v, rfl, p, rfl, hE3⟩)
  refine hK.out _ _ ⟨(atVm hE3 (by repeat (first | exact List.Mem.head _ | refine List.Mem.tail _ ?_)) (by simp [go_sem]) rfl), (atVm hE3 (by repeat (first | exact List.Mem.head _ | refine List.Mem.tail _ ?_)) (by simp [go_sem]) rfl)⟩ (fun hS => ?_)
  clear hK K
  try simp only [Act.put, sb, s0, sz]
  refine wpAnyH_ready (rs := [3]) (by kernel_rfl) (by simp) ?_
  refine (AllReadyH.cons (o := { dst := some 19, op := Go.Op.call { callee := Go.Callee.value (Go.Operand.func 46), args := #[Go.Operand.tmp 16, Go.Operand.const (Go.Value.int Go.IntKind.i64 8), Go.Operand.tmp 18], argTypes := #[104, 3, 22] }, type := 104, pos := "sheet.go:38", after := #[{ on := 0, ground := Go.Ground.data }, { on := 2, ground := Go.Ground.data }, { on := 0, ground := Go.Ground.chain }], guard := none }) rfl (fun K hK => ?_) AllReadyH.nil)
  (go_simp; refine (pPut8 (n := seq) hE3 (by simp)).mono ?_; rintro e w4 ⟨v, rfl, rfl, hE4⟩)
  refine hK.out _ _ ⟨(atVm hE4 (by repeat (first | exact List.Mem.head _ | refine List.Mem.tail _ ?_)) (by simp [go_sem]) rfl), (atVm hE4 (by repeat (first | exact List.Mem.head _ | refine List.Mem.tail _ ?_)) (by simp [go_sem]) rfl)⟩ (fun hS => ?_)
  clear hK K
  try simp only [Act.put, sb, s0, sz]
  refine wpAnyH_ready (rs := [5]) (by kernel_rfl) (by simp) ?_
  refine (AllReadyH.cons (o := { dst := some 21, op := Go.Op.call { callee := Go.Callee.value (Go.Operand.func 46), args := #[Go.Operand.tmp 19, Go.Operand.const (Go.Value.int Go.IntKind.i64 1), Go.Operand.tmp 20], argTypes := #[104, 3, 22] }, type := 104, pos := "sheet.go:38", after := #[{ on := 3, ground := Go.Ground.data }, { on := 4, ground := Go.Ground.data }, { on := 3, ground := Go.Ground.chain }], guard := none }) rfl (fun K hK => ?_) AllReadyH.nil)
  (go_simp; refine (pPut1 (n := 2) (by omega) hE4 (by simp [be_length])).mono ?_; rintro e w5 ⟨v, rfl, rfl, hE5⟩)
  refine hK.out _ _ ⟨(atVm hE5 (by repeat (first | exact List.Mem.head _ | refine List.Mem.tail _ ?_)) (by simp [go_sem]) rfl), (atVm hE5 (by repeat (first | exact List.Mem.head _ | refine List.Mem.tail _ ?_)) (by simp [go_sem]) rfl)⟩ (fun hS => ?_)
  clear hK K
  try simp only [Act.put, sb, s0, sz]
  refine wpAnyH_ready (rs := [10]) (by kernel_rfl) (by simp) ?_
  refine (AllReadyH.cons (o := { dst := some 26, op := Go.Op.call { callee := Go.Callee.value (Go.Operand.func 46), args := #[Go.Operand.tmp 21, Go.Operand.const (Go.Value.int Go.IntKind.i64 2), Go.Operand.tmp 25], argTypes := #[104, 3, 22] }, type := 104, pos := "sheet.go:38", after := #[{ on := 5, ground := Go.Ground.data }, { on := 9, ground := Go.Ground.data }, { on := 5, ground := Go.Ground.chain }], guard := none }) rfl (fun K hK => ?_) AllReadyH.nil)
  (go_simp; refine (pPut2 (n := t.length) (by omega) hE5 (by simp [be_length])).mono ?_; rintro e w6 ⟨v, rfl, rfl, hE6⟩)
  refine hK.out _ _ ⟨(atVm hE6 (by repeat (first | exact List.Mem.head _ | refine List.Mem.tail _ ?_)) (by simp [go_sem]) rfl), (atVm hE6 (by repeat (first | exact List.Mem.head _ | refine List.Mem.tail _ ?_)) (by simp [go_sem]) rfl)⟩ (fun hS => ?_)
  clear hK K
  try simp only [Act.put, sb, s0, sz]
  refine wpAnyH_ready (rs := [13]) (by kernel_rfl) (by simp) ?_
  refine (AllReadyH.cons (o := { dst := some 29, op := Go.Op.call { callee := Go.Callee.value (Go.Operand.func 47), args := #[Go.Operand.tmp 26, Go.Operand.tmp 28], argTypes := #[104, 9] }, type := 104, pos := "sheet.go:38", after := #[{ on := 10, ground := Go.Ground.data }, { on := 12, ground := Go.Ground.data }, { on := 10, ground := Go.Ground.chain }], guard := none }) rfl (fun K hK => ?_) AllReadyH.nil)
  (go_simp; refine (Text_any p t hE6 (by simp [be_length] <;> omega)).mono ?_; rintro e w7 ⟨v, rfl, rfl, hE7⟩)
  refine hK.out _ _ ⟨(atVm hE7 (by repeat (first | exact List.Mem.head _ | refine List.Mem.tail _ ?_)) (by simp [go_sem]) rfl), (atVm hE7 (by repeat (first | exact List.Mem.head _ | refine List.Mem.tail _ ?_)) (by simp [go_sem]) rfl)⟩ (fun hS => ?_)
  clear hK K
  try simp only [Act.put, sb, s0, sz]
  refine takeW 14 ⟨some 5, .assign (.tmp 29), 104, "sheet.go:38", #[⟨13, .data⟩, ⟨13, .chain⟩, ⟨0, .phase⟩, ⟨1, .phase⟩, ⟨2, .phase⟩, ⟨3, .phase⟩, ⟨4, .phase⟩, ⟨5, .phase⟩, ⟨6, .phase⟩, ⟨7, .phase⟩, ⟨8, .phase⟩, ⟨9, .phase⟩, ⟨10, .phase⟩, ⟨11, .phase⟩, ⟨12, .phase⟩, ⟨13, .phase⟩], none⟩ ?_ (.inl ⟨by rfl, ?_⟩) hS ?_
  rotate_left
  · (intro w hSw; (try dsimp only at hSw); go_simp; (try with_reducible rfl))
  try simp only [Act.put, sb, s0, sz]
  refine wpAnyH_done (by kernel_rfl) ?_ _
  have Hp := SL.hid (show [] ++ be 8 seq ++ be 1 2 ++ be 2 t.length ++ t ++ List.replicate (497 - t.length) 0 = shH seq true t by simp only [shH, List.nil_append, List.append_assoc, if_true, Bool.false_eq_true, if_false])
  have Hpl := SL.hid (show ([] ++ be 8 seq ++ be 1 2 ++ be 2 t.length ++ t : List UInt8).length = 11 + t.length by simp only [List.length_append, List.length_nil, be_length] <;> omega)
  generalize ([] ++ be 8 seq ++ be 1 2 ++ be 2 t.length ++ t : List UInt8) = pre at *
  clear hE3 hE4 hE5 hE6
  have hz := Hz.out
  generalize hzz : 497 - t.length = z at *
  have Hzz := SL.hid (show z ≤ 497 by omega)
  clear hzz
  have HR : ∀ {l : List HProp} {w : World}, Ent l w → Calls Tryd.prog 48 #[.string ⟨#[0]⟩, .int .i64 z] w (Ret fun v w' => v = .string ⟨(List.replicate z 0).toArray⟩ ∧ Ent l w') := fun h => Repeat_zeros z (by have := Hzz.out; omega) h
  have Hzl := SL.hid (show (List.replicate z (0 : UInt8)).length ≤ 497 by rw [List.length_replicate]; exact Hzz.out)
  generalize List.replicate z (0 : UInt8) = zs at *
  go_wp2_with (first
    | go_skip
    | ((with_reducible (show Go.wpList _ _ _ (Go.Oper.mk _ (.load _ _) _ _ _ _ :: _) _ _)); refine wpl_load1 hE7 1 rfl rfl rfl rfl (by simp [go_sem]) rfl ?_)
    | (go_at_call 48; refine (HR hE7).mono ?_; clear hE7 HR; rintro e w8 ⟨v, rfl, rfl, hE8⟩)
    | (go_at_call 47; refine (Text_any p zs hE8 (by have := Hpl.out; have := Hzl.out; omega)).mono ?_; clear hE8; rintro e w9 ⟨v, rfl, rfl, hE9⟩; rw [Hp.out] at hE9)
    | (go_at_call 49; have H := Bytes_ok hE9 (by have := Hl.out; omega); refine H.mono ?_; clear H hE9; rintro e wa ⟨v, rfl, ao, c, rfl, hEa⟩)
    | (go_at_call 28; have H := Sum_any (ht _ hEa.tail.tail.tail) (reads_row hEa 0 rfl) (by have := Hl.out; omega); refine H.mono ?_; clear H; rintro e wb ⟨rfl, rfl⟩)
    | (go_at_call 50; refine (Rev32_any _ Hc.out _).mono ?_; rintro e wc ⟨rfl, rfl⟩)
    | (go_at_call 46; refine (pPut4 (n := rev32 (crcV (shH seq true t))) Hr.out (hEa.front 1 rfl) (by have := Hl.out; omega)).mono ?_; clear hEa; rintro e wd ⟨v, rfl, rfl, hEd⟩)
    | (go_at_call 49; have H := Bytes_ok hEd (by rw [List.length_append, be_length]; have := Hl.out; omega); refine H.mono ?_; clear H hEd; rintro e we ⟨v, rfl, ao2, c2, rfl, hEe⟩))
  go_ret2
  have e : shH seq true t ++ be 4 (rev32 (crcV (shH seq true t))) = shP seq true t := by rw [Hbe.out]; rfl
  have e2 : (shH seq true t).length + (be 4 (rev32 (crcV (shH seq true t)))).length = (shP seq true t).length := by rw [← List.length_append, e]
  rw [e] at hEe
  exact ⟨_, rfl, ao2, c2, by rw [← e2]; rfl, ((hEe.erase 1).erase 1).erase 1⟩

set_option maxRecDepth 100000 in
set_option maxHeartbeats 4000000 in
attribute [-go_sem] Instr.loadAt in
theorem sPut_false {seq : Nat} (hs : seq < 18446744073709551616) {t : List UInt8} (h : t.length ≤ 497) {l : List HProp} {w : World} (ht : Knows l Table) (hE : Ent l w) :
    Calls Tryd.prog 11 #[.agg #[.int .u64 seq, .bool false, .string ⟨t.toArray⟩]] w (Ret fun v w' => ∃ ao c, v = .tuple #[.slice ao (shP seq false t).length c, .int .i64 0] ∧ Ent (rowB ao c (shP seq false t) :: l) w') := by
  have hd : decide ((497 : Int) < (t.length : Int)) = false := decide_eq_false (by omega)
  have hl0 : IntKind.u64.wrap (t.length : Int) = t.length := wrapU_id (by omega)
  have Hl := SL.hid (shH_len (seq := seq) (last := false) h)
  have Hz := SL.hid (show (497 : Int) - (t.length : Int) = ((497 - t.length : Nat) : Int) by omega)
  have Hc := SL.hid (show crcV (shH seq false t) < 4294967296 by unfold crcV; omega)
  have Hr := SL.hid (rev32_lt Hc.out)
  have Hbe := SL.hid (be_rev Hc.out)
  have hwr : IntKind.u64.wrap ((rev32 (crcV (shH seq false t)) : Nat) : Int) = ((rev32 (crcV (shH seq false t)) : Nat) : Int) := wrapU_id (by have := Hr.out; omega)
  go_enter Tryd.func11, Tryd.ntmps11
  go_wp2_with (first
    | go_skip
    | ((with_reducible (show Go.wpList _ _ _ (Go.Oper.mk _ (.box _ _) _ _ _ _ :: _) _ _)); refine wpl_box hE rfl rfl rfl ?_; clear hE; intro b1 w hE; simp only [Act.eval, Act.put, List.setIfInBounds_toArray, List.set_cons_zero, List.set_cons_succ, getD_lit, List.getD_cons_succ, List.getD_cons_zero, Value.cells] at hE)
    | ((with_reducible (show Go.wpList _ _ _ (Go.Oper.mk _ (.load _ _) _ _ _ _ :: _) _ _)); first | (refine wpl_load1 hE 0 rfl rfl rfl rfl (by simp [go_sem]) rfl ?_) | (refine wpl_load1 hE 1 rfl rfl rfl rfl (by simp [go_sem]) rfl ?_) | (refine wpl_load1 hE 2 rfl rfl rfl rfl (by simp [go_sem]) rfl ?_) | (refine wpl_load1 hE 3 rfl rfl rfl rfl (by simp [go_sem]) rfl ?_) | (refine wpl_load1 hE 4 rfl rfl rfl rfl (by simp [go_sem]) rfl ?_) | (refine wpl_load1 hE 5 rfl rfl rfl rfl (by simp [go_sem]) rfl ?_)))
  refine wp_region_held_drew (S := (fun w' => ((Instr.loadAt 22 (.pointer (some ⟨b1, 0, none⟩))).run Tryd.prog w' = .ok (.int .u64 seq) w') ∧ ((Instr.loadAt 9 (.pointer (some ⟨b1, 2, none⟩))).run Tryd.prog w' = .ok (.string ⟨t.toArray⟩) w'))) (by kernel_rfl) ⟨(atVm hE.drew (by repeat (first | exact List.Mem.head _ | refine List.Mem.tail _ ?_)) (by simp [go_sem]) rfl), (atVm hE.drew (by repeat (first | exact List.Mem.head _ | refine List.Mem.tail _ ?_)) (by simp [go_sem]) rfl)⟩ (fun hS => ?_)
  refine takeW 1 ⟨some 17, .fieldAddr 30 (.tmp 1) 0, 0, "sheet.go:38", #[], none⟩ ?_ (.inl ⟨by rfl, ?_⟩) hS ?_
  rotate_left
  · (intro w hSw; (try dsimp only at hSw); go_simp; (try with_reducible rfl))
  try simp only [Act.put, sb, s0, sz]
  refine takeW 2 ⟨some 18, .load 22 (.tmp 17), 22, "sheet.go:38", #[⟨1, .data⟩], none⟩ ?_ (.inl ⟨by rfl, ?_⟩) hS ?_
  rotate_left
  · (intro w hSw; (try dsimp only at hSw); go_simp; (try with_reducible rfl))
  try simp only [Act.put, sb, s0, sz]
  refine takeW 4 ⟨some 20, .move (.tmp 4), 22, "sheet.go:38", #[], none⟩ ?_ (.inl ⟨by rfl, ?_⟩) hS ?_
  rotate_left
  · (intro w hSw; (try dsimp only at hSw); go_simp; (try with_reducible rfl))
  try simp only [Act.put, sb, s0, sz]
  refine takeW 6 ⟨some 22, .fieldAddr 30 (.tmp 1) 2, 0, "sheet.go:38", #[], none⟩ ?_ (.inl ⟨by rfl, ?_⟩) hS ?_
  rotate_left
  · (intro w hSw; (try dsimp only at hSw); go_simp; (try with_reducible rfl))
  try simp only [Act.put, sb, s0, sz]
  refine takeW 7 ⟨some 23, .load 9 (.tmp 22), 9, "sheet.go:38", #[⟨6, .data⟩], none⟩ ?_ (.inl ⟨by rfl, ?_⟩) hS ?_
  rotate_left
  · (intro w hSw; (try dsimp only at hSw); go_simp; (try with_reducible rfl))
  try simp only [Act.put, sb, s0, sz]
  refine takeW 8 ⟨some 24, .call { callee := .builtin .len, args := #[.tmp 23], argTypes := #[9] }, 3, "sheet.go:38", #[⟨7, .data⟩], none⟩ ?_ (.inl ⟨by rfl, ?_⟩) hS ?_
  rotate_left
  · (intro w hSw; (try dsimp only at hSw); go_simp; (try with_reducible rfl))
  try simp only [Act.put, sb, s0, sz]
  refine takeW 9 ⟨some 25, .convert 3 22 (.tmp 24), 22, "sheet.go:38", #[⟨8, .data⟩], none⟩ ?_ (.inl ⟨by rfl, ?_⟩) hS ?_
  rotate_left
  · (intro w hSw; (try dsimp only at hSw); go_simp; (try with_reducible rfl))
  try simp only [Act.put, sb, s0, sz]
  refine takeW 11 ⟨some 27, .fieldAddr 30 (.tmp 1) 2, 0, "sheet.go:38", #[], none⟩ ?_ (.inl ⟨by rfl, ?_⟩) hS ?_
  rotate_left
  · (intro w hSw; (try dsimp only at hSw); go_simp; (try with_reducible rfl))
  try simp only [Act.put, sb, s0, sz]
  refine takeW 12 ⟨some 28, .load 9 (.tmp 27), 9, "sheet.go:38", #[⟨11, .data⟩], none⟩ ?_ (.inl ⟨by rfl, ?_⟩) hS ?_
  rotate_left
  · (intro w hSw; (try dsimp only at hSw); go_simp; (try with_reducible rfl))
  try simp only [Act.put, sb, s0, sz]
  refine wpAnyH_ready (rs := [0]) (by kernel_rfl) (by simp) ?_
  refine (AllReadyH.cons (o := { dst := some 16, op := Go.Op.call { callee := Go.Callee.value (Go.Operand.func 45), args := #[], argTypes := #[] }, type := 104, pos := "sheet.go:38", after := #[], guard := none }) rfl (fun K hK => ?_) AllReadyH.nil)
  (go_simp; refine (New_any hE.drew).mono ?_; rintro e w3 ⟨v, rfl, p, rfl, hE3⟩)
  refine hK.out _ _ ⟨(atVm hE3 (by repeat (first | exact List.Mem.head _ | refine List.Mem.tail _ ?_)) (by simp [go_sem]) rfl), (atVm hE3 (by repeat (first | exact List.Mem.head _ | refine List.Mem.tail _ ?_)) (by simp [go_sem]) rfl)⟩ (fun hS => ?_)
  clear hK K
  try simp only [Act.put, sb, s0, sz]
  refine wpAnyH_ready (rs := [3]) (by kernel_rfl) (by simp) ?_
  refine (AllReadyH.cons (o := { dst := some 19, op := Go.Op.call { callee := Go.Callee.value (Go.Operand.func 46), args := #[Go.Operand.tmp 16, Go.Operand.const (Go.Value.int Go.IntKind.i64 8), Go.Operand.tmp 18], argTypes := #[104, 3, 22] }, type := 104, pos := "sheet.go:38", after := #[{ on := 0, ground := Go.Ground.data }, { on := 2, ground := Go.Ground.data }, { on := 0, ground := Go.Ground.chain }], guard := none }) rfl (fun K hK => ?_) AllReadyH.nil)
  (go_simp; refine (pPut8 (n := seq) hE3 (by simp)).mono ?_; rintro e w4 ⟨v, rfl, rfl, hE4⟩)
  refine hK.out _ _ ⟨(atVm hE4 (by repeat (first | exact List.Mem.head _ | refine List.Mem.tail _ ?_)) (by simp [go_sem]) rfl), (atVm hE4 (by repeat (first | exact List.Mem.head _ | refine List.Mem.tail _ ?_)) (by simp [go_sem]) rfl)⟩ (fun hS => ?_)
  clear hK K
  try simp only [Act.put, sb, s0, sz]
  refine wpAnyH_ready (rs := [5]) (by kernel_rfl) (by simp) ?_
  refine (AllReadyH.cons (o := { dst := some 21, op := Go.Op.call { callee := Go.Callee.value (Go.Operand.func 46), args := #[Go.Operand.tmp 19, Go.Operand.const (Go.Value.int Go.IntKind.i64 1), Go.Operand.tmp 20], argTypes := #[104, 3, 22] }, type := 104, pos := "sheet.go:38", after := #[{ on := 3, ground := Go.Ground.data }, { on := 4, ground := Go.Ground.data }, { on := 3, ground := Go.Ground.chain }], guard := none }) rfl (fun K hK => ?_) AllReadyH.nil)
  (go_simp; refine (pPut1 (n := 1) (by omega) hE4 (by simp [be_length])).mono ?_; rintro e w5 ⟨v, rfl, rfl, hE5⟩)
  refine hK.out _ _ ⟨(atVm hE5 (by repeat (first | exact List.Mem.head _ | refine List.Mem.tail _ ?_)) (by simp [go_sem]) rfl), (atVm hE5 (by repeat (first | exact List.Mem.head _ | refine List.Mem.tail _ ?_)) (by simp [go_sem]) rfl)⟩ (fun hS => ?_)
  clear hK K
  try simp only [Act.put, sb, s0, sz]
  refine wpAnyH_ready (rs := [10]) (by kernel_rfl) (by simp) ?_
  refine (AllReadyH.cons (o := { dst := some 26, op := Go.Op.call { callee := Go.Callee.value (Go.Operand.func 46), args := #[Go.Operand.tmp 21, Go.Operand.const (Go.Value.int Go.IntKind.i64 2), Go.Operand.tmp 25], argTypes := #[104, 3, 22] }, type := 104, pos := "sheet.go:38", after := #[{ on := 5, ground := Go.Ground.data }, { on := 9, ground := Go.Ground.data }, { on := 5, ground := Go.Ground.chain }], guard := none }) rfl (fun K hK => ?_) AllReadyH.nil)
  (go_simp; refine (pPut2 (n := t.length) (by omega) hE5 (by simp [be_length])).mono ?_; rintro e w6 ⟨v, rfl, rfl, hE6⟩)
  refine hK.out _ _ ⟨(atVm hE6 (by repeat (first | exact List.Mem.head _ | refine List.Mem.tail _ ?_)) (by simp [go_sem]) rfl), (atVm hE6 (by repeat (first | exact List.Mem.head _ | refine List.Mem.tail _ ?_)) (by simp [go_sem]) rfl)⟩ (fun hS => ?_)
  clear hK K
  try simp only [Act.put, sb, s0, sz]
  refine wpAnyH_ready (rs := [13]) (by kernel_rfl) (by simp) ?_
  refine (AllReadyH.cons (o := { dst := some 29, op := Go.Op.call { callee := Go.Callee.value (Go.Operand.func 47), args := #[Go.Operand.tmp 26, Go.Operand.tmp 28], argTypes := #[104, 9] }, type := 104, pos := "sheet.go:38", after := #[{ on := 10, ground := Go.Ground.data }, { on := 12, ground := Go.Ground.data }, { on := 10, ground := Go.Ground.chain }], guard := none }) rfl (fun K hK => ?_) AllReadyH.nil)
  (go_simp; refine (Text_any p t hE6 (by simp [be_length] <;> omega)).mono ?_; rintro e w7 ⟨v, rfl, rfl, hE7⟩)
  refine hK.out _ _ ⟨(atVm hE7 (by repeat (first | exact List.Mem.head _ | refine List.Mem.tail _ ?_)) (by simp [go_sem]) rfl), (atVm hE7 (by repeat (first | exact List.Mem.head _ | refine List.Mem.tail _ ?_)) (by simp [go_sem]) rfl)⟩ (fun hS => ?_)
  clear hK K
  try simp only [Act.put, sb, s0, sz]
  refine takeW 14 ⟨some 5, .assign (.tmp 29), 104, "sheet.go:38", #[⟨13, .data⟩, ⟨13, .chain⟩, ⟨0, .phase⟩, ⟨1, .phase⟩, ⟨2, .phase⟩, ⟨3, .phase⟩, ⟨4, .phase⟩, ⟨5, .phase⟩, ⟨6, .phase⟩, ⟨7, .phase⟩, ⟨8, .phase⟩, ⟨9, .phase⟩, ⟨10, .phase⟩, ⟨11, .phase⟩, ⟨12, .phase⟩, ⟨13, .phase⟩], none⟩ ?_ (.inl ⟨by rfl, ?_⟩) hS ?_
  rotate_left
  · (intro w hSw; (try dsimp only at hSw); go_simp; (try with_reducible rfl))
  try simp only [Act.put, sb, s0, sz]
  refine wpAnyH_done (by kernel_rfl) ?_ _
  have Hp := SL.hid (show [] ++ be 8 seq ++ be 1 1 ++ be 2 t.length ++ t ++ List.replicate (497 - t.length) 0 = shH seq false t by simp only [shH, List.nil_append, List.append_assoc, if_true, Bool.false_eq_true, if_false])
  have Hpl := SL.hid (show ([] ++ be 8 seq ++ be 1 1 ++ be 2 t.length ++ t : List UInt8).length = 11 + t.length by simp only [List.length_append, List.length_nil, be_length] <;> omega)
  generalize ([] ++ be 8 seq ++ be 1 1 ++ be 2 t.length ++ t : List UInt8) = pre at *
  clear hE3 hE4 hE5 hE6
  have hz := Hz.out
  generalize hzz : 497 - t.length = z at *
  have Hzz := SL.hid (show z ≤ 497 by omega)
  clear hzz
  have HR : ∀ {l : List HProp} {w : World}, Ent l w → Calls Tryd.prog 48 #[.string ⟨#[0]⟩, .int .i64 z] w (Ret fun v w' => v = .string ⟨(List.replicate z 0).toArray⟩ ∧ Ent l w') := fun h => Repeat_zeros z (by have := Hzz.out; omega) h
  have Hzl := SL.hid (show (List.replicate z (0 : UInt8)).length ≤ 497 by rw [List.length_replicate]; exact Hzz.out)
  generalize List.replicate z (0 : UInt8) = zs at *
  go_wp2_with (first
    | go_skip
    | ((with_reducible (show Go.wpList _ _ _ (Go.Oper.mk _ (.load _ _) _ _ _ _ :: _) _ _)); refine wpl_load1 hE7 1 rfl rfl rfl rfl (by simp [go_sem]) rfl ?_)
    | (go_at_call 48; refine (HR hE7).mono ?_; clear hE7 HR; rintro e w8 ⟨v, rfl, rfl, hE8⟩)
    | (go_at_call 47; refine (Text_any p zs hE8 (by have := Hpl.out; have := Hzl.out; omega)).mono ?_; clear hE8; rintro e w9 ⟨v, rfl, rfl, hE9⟩; rw [Hp.out] at hE9)
    | (go_at_call 49; have H := Bytes_ok hE9 (by have := Hl.out; omega); refine H.mono ?_; clear H hE9; rintro e wa ⟨v, rfl, ao, c, rfl, hEa⟩)
    | (go_at_call 28; have H := Sum_any (ht _ hEa.tail.tail.tail) (reads_row hEa 0 rfl) (by have := Hl.out; omega); refine H.mono ?_; clear H; rintro e wb ⟨rfl, rfl⟩)
    | (go_at_call 50; refine (Rev32_any _ Hc.out _).mono ?_; rintro e wc ⟨rfl, rfl⟩)
    | (go_at_call 46; refine (pPut4 (n := rev32 (crcV (shH seq false t))) Hr.out (hEa.front 1 rfl) (by have := Hl.out; omega)).mono ?_; clear hEa; rintro e wd ⟨v, rfl, rfl, hEd⟩)
    | (go_at_call 49; have H := Bytes_ok hEd (by rw [List.length_append, be_length]; have := Hl.out; omega); refine H.mono ?_; clear H hEd; rintro e we ⟨v, rfl, ao2, c2, rfl, hEe⟩))
  go_ret2
  have e : shH seq false t ++ be 4 (rev32 (crcV (shH seq false t))) = shP seq false t := by rw [Hbe.out]; rfl
  have e2 : (shH seq false t).length + (be 4 (rev32 (crcV (shH seq false t)))).length = (shP seq false t).length := by rw [← List.length_append, e]
  rw [e] at hEe
  exact ⟨_, rfl, ao2, c2, by rw [← e2]; rfl, ((hEe.erase 1).erase 1).erase 1⟩

theorem sPut_ok {seq : Nat} (last : Bool) (hs : seq < 18446744073709551616) {t : List UInt8} (h : t.length ≤ 497) {l : List HProp} {w : World} (ht : Knows l Table) (hE : Ent l w) :
    Calls Tryd.prog 11 #[.agg #[.int .u64 seq, .bool last, .string ⟨t.toArray⟩]] w (Ret fun v w' => ∃ ao c, v = .tuple #[.slice ao (shP seq last t).length c, .int .i64 0] ∧ Ent (rowB ao c (shP seq last t) :: l) w') := by
  cases last with
  | true => exact sPut_true hs h ht hE
  | false => exact sPut_false hs h ht hE
end Go.Proofs.YtdpfigkjkjjedaaDoor
namespace Go.Proofs.YtdpfigkjkjjedaaDoor
open Go.RowKit Go.SL

def box1 : List UInt8 := [66, 79, 88, 49]
/-- a head's bytes ahead of its sum -/
def hdH (box used sum : Nat) : List UInt8 := box1 ++ (be 2 box ++ (be 2 used ++ (be 4 sum ++ List.replicate 496 0)))
def hdP (box used sum : Nat) : List UInt8 := hdH box used sum ++ be 4 (crcV (hdH box used sum))
theorem hdH_len (box used sum : Nat) : (hdH box used sum).length = 508 := by
  simp only [hdH, List.length_append, be_length, List.length_replicate, box1]; rfl
theorem hdP_len (box used sum : Nat) : (hdP box used sum).length = 512 := by
  rw [hdP, List.length_append, hdH_len, be_length]
structure Hd where
  box : Nat
  used : Nat
  sum : Nat
/-- what the program reads -/
def hr1 (b : List UInt8) : St := tx 4 ⟨b, 0⟩
def hr2 (b : List UInt8) : St := tk 2 (hr1 b)
def hr3 (b : List UInt8) : St := tk 2 (hr2 b)
def hr4 (b : List UInt8) : St := tk 4 (hr3 b)
def hrS (b : List UInt8) : Hd := ⟨tkV 2 (hr1 b), tkV 2 (hr2 b), tkV 4 (hr3 b)⟩
def hrOk (b : List UInt8) : Bool := (hr4 b).err == 0 && (decide ((hrS b).used ≤ 2048) && (hdP (hrS b).box (hrS b).used (hrS b).sum == b))
/-- what the document reads -/
def hdS (b : List UInt8) : Hd := ⟨beVal ((b.drop 4).take 2), beVal ((b.drop 6).take 2), beVal ((b.drop 8).take 4)⟩
def hdOk (b : List UInt8) : Bool := b.length == 512 && (decide ((hdS b).used ≤ 2048) && (hdP (hdS b).box (hdS b).used (hdS b).sum == b))

theorem hr_hdP {box used sum : Nat} (h1 : box < 65536) (h2 : used < 65536) (h3 : sum < 4294967296) : hrS (hdP box used sum) = ⟨box, used, sum⟩ ∧ (hr4 (hdP box used sum)).err = 0 := by
  have e : hdP box used sum = box1 ++ (be 2 box ++ (be 2 used ++ (be 4 sum ++ (List.replicate 496 0 ++ be 4 (crcV (hdH box used sum)))))) := by
    simp only [hdP, hdH, List.append_assoc]
  generalize List.replicate 496 0 ++ be 4 (crcV (hdH box used sum)) = r at e
  rw [e]
  obtain ⟨a1, _⟩ := tx_app box1 (be 2 box ++ (be 2 used ++ (be 4 sum ++ r)))
  obtain ⟨b1, b2⟩ := tk2_app box (be 2 used ++ (be 4 sum ++ r)) h1
  obtain ⟨c1, c2⟩ := tk2_app used (be 4 sum ++ r) h2
  obtain ⟨d1, d2⟩ := tk4_app sum r h3
  have x1 : hr1 (box1 ++ (be 2 box ++ (be 2 used ++ (be 4 sum ++ r)))) = ⟨be 2 box ++ (be 2 used ++ (be 4 sum ++ r)), 0⟩ := a1
  have x2 : hr2 (box1 ++ (be 2 box ++ (be 2 used ++ (be 4 sum ++ r)))) = ⟨be 2 used ++ (be 4 sum ++ r), 0⟩ := by rw [hr2, x1, b1]
  have x3 : hr3 (box1 ++ (be 2 box ++ (be 2 used ++ (be 4 sum ++ r)))) = ⟨be 4 sum ++ r, 0⟩ := by rw [hr3, x2, c1]
  constructor
  · rw [hrS, x1, x2, x3, b2, c2, d2]
  · rw [hr4, x3, d1]

theorem hd_hdP {box used sum : Nat} (h1 : box < 65536) (h2 : used < 65536) (h3 : sum < 4294967296) : hdS (hdP box used sum) = ⟨box, used, sum⟩ := by
  have e : hdP box used sum = box1 ++ (be 2 box ++ (be 2 used ++ (be 4 sum ++ (List.replicate 496 0 ++ be 4 (crcV (hdH box used sum)))))) := by
    simp only [hdP, hdH, List.append_assoc]
  generalize List.replicate 496 0 ++ be 4 (crcV (hdH box used sum)) = r at e
  rw [e]
  have l1 : (be 2 box).length = 2 := be_length _ _
  have l2 : (be 2 used).length = 2 := be_length _ _
  have l3 : (be 4 sum).length = 4 := be_length _ _
  have d4 : (box1 ++ (be 2 box ++ (be 2 used ++ (be 4 sum ++ r)))).drop 4 = be 2 box ++ (be 2 used ++ (be 4 sum ++ r)) := rfl
  have d6 : (box1 ++ (be 2 box ++ (be 2 used ++ (be 4 sum ++ r)))).drop 6 = be 2 used ++ (be 4 sum ++ r) := by
    rw [show 6 = 4 + 2 from rfl, ← List.drop_drop, d4, List.drop_left' l1]
  have d8 : (box1 ++ (be 2 box ++ (be 2 used ++ (be 4 sum ++ r)))).drop 8 = be 4 sum ++ r := by
    rw [show 8 = 6 + 2 from rfl, ← List.drop_drop, d6, List.drop_left' l2]
  rw [hdS, d4, d6, d8, List.take_left' l1, List.take_left' l2, List.take_left' l3, beVal_be' _ 2 (by omega) (by omega), beVal_be' _ 2 (by omega) (by omega), beVal_be' _ 4 (by omega) (by omega)]

theorem beVal_bound : ∀ (l : List UInt8), l.length ≤ 7 → beVal l < 256 ^ l.length := by
  have key : ∀ (l : List UInt8) (a n : Nat), a < 256 ^ n → n + l.length ≤ 7 → l.foldl (fun n c => (n * 256 + c.toNat) % 18446744073709551616) a < 256 ^ (n + l.length) := by
    intro l
    induction l with
    | nil => exact fun a n h _ => h
    | cons c l ih =>
      intro a n h hn
      simp only [List.length_cons] at hn
      have hc := c.toNat_lt
      have h2 : a * 256 + c.toNat < 256 ^ (n + 1) := by rw [Nat.pow_succ]; omega
      have h3 : 256 ^ (n + 1) ≤ 256 ^ 7 := Nat.pow_le_pow_right (by omega) (by omega)
      have h4 : (256 : Nat) ^ 7 = 72057594037927936 := by decide
      rw [List.foldl_cons, Nat.mod_eq_of_lt (by omega)]
      have := ih (a * 256 + c.toNat) (n + 1) h2 (by omega)
      rwa [show n + 1 + l.length = n + (c :: l).length by simp only [List.length_cons]; omega] at this
  intro l h
  have := key l 0 0 (by decide) (by omega)
  rwa [Nat.zero_add] at this
theorem beVal_upto {l : List UInt8} {n : Nat} (h : l.length ≤ n) (hn : n ≤ 7) : beVal l < 256 ^ n :=
  Nat.lt_of_lt_of_le (beVal_bound l (by omega)) (Nat.pow_le_pow_right (by omega) h)
theorem tkV_upto {n : Nat} (hn : n ≤ 7) (hw : wideB n = true) (s : St) : tkV n s < 256 ^ n := by
  unfold tkV valT
  split
  · refine beVal_upto ?_ hn
    rw [List.length_take, wideN, if_pos hw]
    omega
  · exact Nat.pow_pos (by omega)
theorem hrS_lt (b : List UInt8) : (hrS b).box < 65536 ∧ (hrS b).used < 65536 ∧ (hrS b).sum < 4294967296 :=
  ⟨tkV_upto (n := 2) (by omega) rfl _, tkV_upto (n := 2) (by omega) rfl _, tkV_upto (n := 4) (by omega) rfl _⟩
theorem hdS_lt (b : List UInt8) : (hdS b).box < 65536 ∧ (hdS b).used < 65536 ∧ (hdS b).sum < 4294967296 :=
  ⟨beVal_upto (n := 2) (by rw [List.length_take]; omega) (by omega), beVal_upto (n := 2) (by rw [List.length_take]; omega) (by omega), beVal_upto (n := 4) (by rw [List.length_take]; omega) (by omega)⟩
/-- both read the same -/
theorem hr_hd (b : List UInt8) : hrOk b = hdOk b ∧ (hrOk b = true → hrS b = hdS b) := by
  have one : hrOk b = true → hdOk b = true ∧ hrS b = hdS b := fun h => by
    simp only [hrOk, Bool.and_eq_true, beq_iff_eq, decide_eq_true_eq] at h
    obtain ⟨h1, h2, h3⟩ := h
    obtain ⟨q1, q2, q3⟩ := hrS_lt b
    have e1 := hd_hdP q1 q2 q3
    have hl := hdP_len (hrS b).box (hrS b).used (hrS b).sum
    rw [h3] at e1 hl
    refine ⟨?_, e1.symm⟩
    simp only [hdOk, Bool.and_eq_true, beq_iff_eq, decide_eq_true_eq]
    rw [e1]
    exact ⟨hl, h2, h3⟩
  have two : hdOk b = true → hrOk b = true := fun h => by
    simp only [hdOk, Bool.and_eq_true, beq_iff_eq, decide_eq_true_eq] at h
    obtain ⟨h1, h2, h3⟩ := h
    obtain ⟨q1, q2, q3⟩ := hdS_lt b
    obtain ⟨e1, e2⟩ := hr_hdP q1 q2 q3
    rw [h3] at e1 e2
    simp only [hrOk, Bool.and_eq_true, beq_iff_eq, decide_eq_true_eq]
    rw [e1]
    exact ⟨e2, h2, h3⟩
  refine ⟨?_, fun h => (one h).2⟩
  cases h1 : hrOk b with
  | true => exact (one h1).1.symm
  | false =>
    cases h2 : hdOk b with
    | false => rfl
    | true => rw [two h2] at h1; cases h1
theorem hrOk_hdP {box used sum : Nat} (h1 : box < 65536) (h2 : used ≤ 2048) (h3 : sum < 4294967296) : hrOk (hdP box used sum) = true := by
  obtain ⟨e1, e2⟩ := hr_hdP h1 (by omega : used < 65536) h3
  simp only [hrOk, Bool.and_eq_true, beq_iff_eq, decide_eq_true_eq]
  rw [e1]
  exact ⟨e2, h2, rfl⟩
end Go.Proofs.YtdpfigkjkjjedaaDoor
namespace Go.Proofs.YtdpfigkjkjjedaaDoor
open Go.RowKit Go.SL

/-- a head, as the program has it -/
def hdV (h : Hd) : Value := .agg #[.int .i64 h.box, .int .i64 h.used, .int .u32 h.sum]
set_option maxRecDepth 100000 in
set_option maxHeartbeats 4000000 in
attribute [-go_sem] Instr.loadAt in
theorem hPut_any {box used sum : Nat} (hb : box < 65536) (hu : used < 65536) (hs : sum < 4294967296) {l : List HProp} {w : World} (ht : Knows l Table) (hE : Ent l w) :
    Calls Tryd.prog 62 #[.agg #[.int .i64 box, .int .i64 used, .int .u32 sum]] w (Ret fun v w' => ∃ ao c, v = .slice ao (hdP box used sum).length c ∧ Ent (rowB ao c (hdP box used sum) :: l) w') := by
  have hl0 : IntKind.u64.wrap (box : Int) = box := wrapU_id (by omega)
  have hl1 : IntKind.u64.wrap (used : Int) = used := wrapU_id (by omega)
  have hl2 : IntKind.u64.wrap (sum : Int) = sum := wrapU_id (by omega)
  have Hl := SL.hid (hdH_len box used sum)
  have Hc := SL.hid (show crcV (hdH box used sum) < 4294967296 by unfold crcV; omega)
  have hwr : IntKind.u64.wrap ((crcV (hdH box used sum) : Nat) : Int) = ((crcV (hdH box used sum) : Nat) : Int) := wrapU_id (by have := Hc.out; omega)
  go_enter Tryd.func62, Tryd.ntmps62
  go_wp2_with (first
    | go_skip
    | ((with_reducible (show Go.wpList _ _ _ (Go.Oper.mk _ (.box _ _) _ _ _ _ :: _) _ _)); refine wpl_box hE rfl rfl rfl ?_; clear hE; intro b1 w hE; simp only [Act.eval, Act.put, List.setIfInBounds_toArray, List.set_cons_zero, List.set_cons_succ, getD_lit, List.getD_cons_succ, List.getD_cons_zero, Value.cells] at hE)
    | ((with_reducible (show Go.wpList _ _ _ (Go.Oper.mk _ (.load _ _) _ _ _ _ :: _) _ _)); first | (refine wpl_load1 hE 0 rfl rfl rfl rfl (by simp [go_sem]) rfl ?_) | (refine wpl_load1 hE 1 rfl rfl rfl rfl (by simp [go_sem]) rfl ?_) | (refine wpl_load1 hE 2 rfl rfl rfl rfl (by simp [go_sem]) rfl ?_) | (refine wpl_load1 hE 3 rfl rfl rfl rfl (by simp [go_sem]) rfl ?_) | (refine wpl_load1 hE 4 rfl rfl rfl rfl (by simp [go_sem]) rfl ?_) | (refine wpl_load1 hE 5 rfl rfl rfl rfl (by simp [go_sem]) rfl ?_)))
  refine wp_region_held_drew (S := (fun w' => ((Instr.loadAt 3 (.pointer (some ⟨b1, 0, none⟩))).run Tryd.prog w' = .ok (.int .i64 box) w') ∧ ((Instr.loadAt 3 (.pointer (some ⟨b1, 1, none⟩))).run Tryd.prog w' = .ok (.int .i64 used) w') ∧ ((Instr.loadAt 47 (.pointer (some ⟨b1, 2, none⟩))).run Tryd.prog w' = .ok (.int .u32 sum) w'))) (by kernel_rfl) ⟨(atVm hE.drew (by repeat (first | exact List.Mem.head _ | refine List.Mem.tail _ ?_)) (by simp [go_sem]) rfl), (atVm hE.drew (by repeat (first | exact List.Mem.head _ | refine List.Mem.tail _ ?_)) (by simp [go_sem]) rfl), (atVm hE.drew (by repeat (first | exact List.Mem.head _ | refine List.Mem.tail _ ?_)) (by simp [go_sem]) rfl)⟩ (fun hS => ?_)
  refine takeW 2 ⟨some 10, .fieldAddr 55 (.tmp 1) 0, 0, "record.go:77", #[], none⟩ ?_ (.inl ⟨by rfl, ?_⟩) hS ?_
  rotate_left
  · (intro w hSw; (try dsimp only at hSw); go_simp; (try with_reducible rfl))
  try simp only [Act.put, sb, s0, sz]
  refine takeW 3 ⟨some 11, .load 3 (.tmp 10), 3, "record.go:77", #[⟨2, .data⟩], none⟩ ?_ (.inl ⟨by rfl, ?_⟩) hS ?_
  rotate_left
  · (intro w hSw; (try dsimp only at hSw); go_simp; (try with_reducible rfl))
  try simp only [Act.put, sb, s0, sz]
  refine takeW 4 ⟨some 12, .convert 3 22 (.tmp 11), 22, "record.go:77", #[⟨3, .data⟩], none⟩ ?_ (.inl ⟨by rfl, ?_⟩) hS ?_
  rotate_left
  · (intro w hSw; (try dsimp only at hSw); go_simp; (try with_reducible rfl))
  try simp only [Act.put, sb, s0, sz]
  refine takeW 6 ⟨some 14, .fieldAddr 55 (.tmp 1) 1, 0, "record.go:77", #[], none⟩ ?_ (.inl ⟨by rfl, ?_⟩) hS ?_
  rotate_left
  · (intro w hSw; (try dsimp only at hSw); go_simp; (try with_reducible rfl))
  try simp only [Act.put, sb, s0, sz]
  refine takeW 7 ⟨some 15, .load 3 (.tmp 14), 3, "record.go:77", #[⟨6, .data⟩], none⟩ ?_ (.inl ⟨by rfl, ?_⟩) hS ?_
  rotate_left
  · (intro w hSw; (try dsimp only at hSw); go_simp; (try with_reducible rfl))
  try simp only [Act.put, sb, s0, sz]
  refine takeW 8 ⟨some 16, .convert 3 22 (.tmp 15), 22, "record.go:77", #[⟨7, .data⟩], none⟩ ?_ (.inl ⟨by rfl, ?_⟩) hS ?_
  rotate_left
  · (intro w hSw; (try dsimp only at hSw); go_simp; (try with_reducible rfl))
  try simp only [Act.put, sb, s0, sz]
  refine takeW 10 ⟨some 18, .fieldAddr 55 (.tmp 1) 2, 0, "record.go:77", #[], none⟩ ?_ (.inl ⟨by rfl, ?_⟩) hS ?_
  rotate_left
  · (intro w hSw; (try dsimp only at hSw); go_simp; (try with_reducible rfl))
  try simp only [Act.put, sb, s0, sz]
  refine takeW 11 ⟨some 19, .load 47 (.tmp 18), 47, "record.go:77", #[⟨10, .data⟩], none⟩ ?_ (.inl ⟨by rfl, ?_⟩) hS ?_
  rotate_left
  · (intro w hSw; (try dsimp only at hSw); go_simp; (try with_reducible rfl))
  try simp only [Act.put, sb, s0, sz]
  refine takeW 12 ⟨some 20, .convert 47 22 (.tmp 19), 22, "record.go:77", #[⟨11, .data⟩], none⟩ ?_ (.inl ⟨by rfl, ?_⟩) hS ?_
  rotate_left
  · (intro w hSw; (try dsimp only at hSw); go_simp; (try with_reducible rfl))
  try simp only [Act.put, sb, s0, sz]
  refine wpAnyH_ready (rs := [0]) (by kernel_rfl) (by simp) ?_
  refine (AllReadyH.cons (o := { dst := some 8, op := Go.Op.call { callee := Go.Callee.value (Go.Operand.func 45), args := #[], argTypes := #[] }, type := 104, pos := "record.go:77", after := #[], guard := none }) rfl (fun K hK => ?_) AllReadyH.nil)
  (go_simp; refine (New_any hE.drew).mono ?_; rintro e w3 ⟨v, rfl, p, rfl, hE3⟩)
  refine hK.out _ _ ⟨(atVm hE3 (by repeat (first | exact List.Mem.head _ | refine List.Mem.tail _ ?_)) (by simp [go_sem]) rfl), (atVm hE3 (by repeat (first | exact List.Mem.head _ | refine List.Mem.tail _ ?_)) (by simp [go_sem]) rfl), (atVm hE3 (by repeat (first | exact List.Mem.head _ | refine List.Mem.tail _ ?_)) (by simp [go_sem]) rfl)⟩ (fun hS => ?_)
  clear hK K
  try simp only [Act.put, sb, s0, sz]
  refine wpAnyH_ready (rs := [1]) (by kernel_rfl) (by simp) ?_
  refine (AllReadyH.cons (o := { dst := some 9, op := Go.Op.call { callee := Go.Callee.value (Go.Operand.func 47), args := #[Go.Operand.tmp 8, Go.Operand.const (Go.Value.string { data := #[66, 79, 88, 49] })], argTypes := #[104, 9] }, type := 104, pos := "record.go:77", after := #[{ on := 0, ground := Go.Ground.data }, { on := 0, ground := Go.Ground.chain }], guard := none }) rfl (fun K hK => ?_) AllReadyH.nil)
  (go_simp; refine (Text_any p box1 hE3 (by simp [box1])).mono ?_; rintro e w4 ⟨v, rfl, rfl, hE4⟩)
  refine hK.out _ _ ⟨(atVm hE4 (by repeat (first | exact List.Mem.head _ | refine List.Mem.tail _ ?_)) (by simp [go_sem]) rfl), (atVm hE4 (by repeat (first | exact List.Mem.head _ | refine List.Mem.tail _ ?_)) (by simp [go_sem]) rfl), (atVm hE4 (by repeat (first | exact List.Mem.head _ | refine List.Mem.tail _ ?_)) (by simp [go_sem]) rfl)⟩ (fun hS => ?_)
  clear hK K
  try simp only [Act.put, sb, s0, sz]
  refine wpAnyH_ready (rs := [5]) (by kernel_rfl) (by simp) ?_
  refine (AllReadyH.cons (o := { dst := some 13, op := Go.Op.call { callee := Go.Callee.value (Go.Operand.func 46), args := #[Go.Operand.tmp 9, Go.Operand.const (Go.Value.int Go.IntKind.i64 2), Go.Operand.tmp 12], argTypes := #[104, 3, 22] }, type := 104, pos := "record.go:77", after := #[{ on := 1, ground := Go.Ground.data }, { on := 4, ground := Go.Ground.data }, { on := 1, ground := Go.Ground.chain }], guard := none }) rfl (fun K hK => ?_) AllReadyH.nil)
  (go_simp; refine (pPut2 (n := box) hb hE4 (by simp [box1])).mono ?_; rintro e w5 ⟨v, rfl, rfl, hE5⟩)
  refine hK.out _ _ ⟨(atVm hE5 (by repeat (first | exact List.Mem.head _ | refine List.Mem.tail _ ?_)) (by simp [go_sem]) rfl), (atVm hE5 (by repeat (first | exact List.Mem.head _ | refine List.Mem.tail _ ?_)) (by simp [go_sem]) rfl), (atVm hE5 (by repeat (first | exact List.Mem.head _ | refine List.Mem.tail _ ?_)) (by simp [go_sem]) rfl)⟩ (fun hS => ?_)
  clear hK K
  try simp only [Act.put, sb, s0, sz]
  refine wpAnyH_ready (rs := [9]) (by kernel_rfl) (by simp) ?_
  refine (AllReadyH.cons (o := { dst := some 17, op := Go.Op.call { callee := Go.Callee.value (Go.Operand.func 46), args := #[Go.Operand.tmp 13, Go.Operand.const (Go.Value.int Go.IntKind.i64 2), Go.Operand.tmp 16], argTypes := #[104, 3, 22] }, type := 104, pos := "record.go:77", after := #[{ on := 5, ground := Go.Ground.data }, { on := 8, ground := Go.Ground.data }, { on := 5, ground := Go.Ground.chain }], guard := none }) rfl (fun K hK => ?_) AllReadyH.nil)
  (go_simp; refine (pPut2 (n := used) hu hE5 (by simp [box1, be_length])).mono ?_; rintro e w6 ⟨v, rfl, rfl, hE6⟩)
  refine hK.out _ _ ⟨(atVm hE6 (by repeat (first | exact List.Mem.head _ | refine List.Mem.tail _ ?_)) (by simp [go_sem]) rfl), (atVm hE6 (by repeat (first | exact List.Mem.head _ | refine List.Mem.tail _ ?_)) (by simp [go_sem]) rfl), (atVm hE6 (by repeat (first | exact List.Mem.head _ | refine List.Mem.tail _ ?_)) (by simp [go_sem]) rfl)⟩ (fun hS => ?_)
  clear hK K
  try simp only [Act.put, sb, s0, sz]
  refine wpAnyH_ready (rs := [13]) (by kernel_rfl) (by simp) ?_
  refine (AllReadyH.cons (o := { dst := some 21, op := Go.Op.call { callee := Go.Callee.value (Go.Operand.func 46), args := #[Go.Operand.tmp 17, Go.Operand.const (Go.Value.int Go.IntKind.i64 4), Go.Operand.tmp 20], argTypes := #[104, 3, 22] }, type := 104, pos := "record.go:77", after := #[{ on := 9, ground := Go.Ground.data }, { on := 12, ground := Go.Ground.data }, { on := 9, ground := Go.Ground.chain }], guard := none }) rfl (fun K hK => ?_) AllReadyH.nil)
  (go_simp; refine (pPut4 (n := sum) hs hE6 (by simp [box1, be_length])).mono ?_; rintro e w7 ⟨v, rfl, rfl, hE7⟩)
  refine hK.out _ _ ⟨(atVm hE7 (by repeat (first | exact List.Mem.head _ | refine List.Mem.tail _ ?_)) (by simp [go_sem]) rfl), (atVm hE7 (by repeat (first | exact List.Mem.head _ | refine List.Mem.tail _ ?_)) (by simp [go_sem]) rfl), (atVm hE7 (by repeat (first | exact List.Mem.head _ | refine List.Mem.tail _ ?_)) (by simp [go_sem]) rfl)⟩ (fun hS => ?_)
  clear hK K
  try simp only [Act.put, sb, s0, sz]
  refine takeW 14 ⟨some 3, .assign (.tmp 21), 104, "record.go:77", #[⟨13, .data⟩, ⟨13, .chain⟩, ⟨0, .phase⟩, ⟨1, .phase⟩, ⟨2, .phase⟩, ⟨3, .phase⟩, ⟨4, .phase⟩, ⟨5, .phase⟩, ⟨6, .phase⟩, ⟨7, .phase⟩, ⟨8, .phase⟩, ⟨9, .phase⟩, ⟨10, .phase⟩, ⟨11, .phase⟩, ⟨12, .phase⟩, ⟨13, .phase⟩], none⟩ ?_ (.inl ⟨by rfl, ?_⟩) hS ?_
  rotate_left
  · (intro w hSw; (try dsimp only at hSw); go_simp; (try with_reducible rfl))
  try simp only [Act.put, sb, s0, sz]
  refine wpAnyH_done (by kernel_rfl) ?_ _
  have Hp := SL.hid (show [] ++ box1 ++ be 2 box ++ be 2 used ++ be 4 sum ++ List.replicate 496 0 = hdH box used sum by simp only [hdH, List.nil_append, List.append_assoc])
  have Hpl := SL.hid (show ([] ++ box1 ++ be 2 box ++ be 2 used ++ be 4 sum : List UInt8).length = 12 by simp only [List.length_append, List.length_nil, be_length, box1] <;> rfl)
  generalize ([] ++ box1 ++ be 2 box ++ be 2 used ++ be 4 sum : List UInt8) = pre at *
  clear hE3 hE4 hE5 hE6
  have HR : ∀ {l : List HProp} {w : World}, Ent l w → Calls Tryd.prog 48 #[.string ⟨#[0]⟩, .int .i64 496] w (Ret fun v w' => v = .string ⟨(List.replicate 496 0).toArray⟩ ∧ Ent l w') := fun h => Repeat_zeros 496 (by decide) h
  have Hzl := SL.hid (show (List.replicate 496 (0 : UInt8)).length = 496 by rw [List.length_replicate])
  generalize List.replicate 496 (0 : UInt8) = zs at *
  go_wp2_with (first
    | go_skip
    | (go_at_call 48; refine (HR hE7).mono ?_; clear hE7 HR; rintro e w8 ⟨v, rfl, rfl, hE8⟩)
    | (go_at_call 47; refine (Text_any p zs hE8 (by have := Hpl.out; have := Hzl.out; omega)).mono ?_; clear hE8; rintro e w9 ⟨v, rfl, rfl, hE9⟩; rw [Hp.out] at hE9)
    | (go_at_call 49; have H := Bytes_ok hE9 (by have := Hl.out; omega); refine H.mono ?_; clear H hE9; rintro e wa ⟨v, rfl, ao, c, rfl, hEa⟩)
    | (go_at_call 28; have H := Sum_any (ht _ hEa.tail.tail.tail) (reads_row hEa 0 rfl) (by have := Hl.out; omega); refine H.mono ?_; clear H; rintro e wb ⟨rfl, rfl⟩)
    | (go_at_call 46; refine (pPut4 (n := crcV (hdH box used sum)) Hc.out (hEa.front 1 rfl) (by have := Hl.out; omega)).mono ?_; clear hEa; rintro e wd ⟨v, rfl, rfl, hEd⟩)
    | (go_at_call 49; have H := Bytes_ok hEd (by rw [List.length_append, be_length]; have := Hl.out; omega); refine H.mono ?_; clear H hEd; rintro e we ⟨v, rfl, ao2, c2, rfl, hEe⟩))
  go_ret
  have e : hdH box used sum ++ be 4 (crcV (hdH box used sum)) = hdP box used sum := rfl
  rw [e] at hEe
  exact ⟨_, rfl, ao2, c2, by first | rfl | (rw [← e]; simp), ((hEe.erase 1).erase 1).erase 1⟩

set_option maxRecDepth 100000 in
theorem Seal_no {box : Int} {b : List UInt8} {ao : Option Addr} {c : Nat} (h : box < 0 ∨ 65535 < box ∨ 2048 < b.length) {l : List HProp} {w : World} (hE : Ent l w) :
    Calls Tryd.prog 21 #[.int .i64 box, .slice ao b.length c] w (Ret fun v w' => v = .tuple #[.slice none 0 0, .int .i64 2] ∧ Ent l w') := by
  have hx : (decide (box < 0) || (decide (65535 < box) || decide ((2048 : Int) < (b.length : Int)))) = true := by
    simp only [Bool.or_eq_true, decide_eq_true_eq]; omega
  cases h1 : decide (box < 0) <;> cases h2 : decide (65535 < box) <;> cases h3 : decide ((2048 : Int) < (b.length : Int)) <;> rw [h1, h2, h3] at hx <;> first | exact absurd hx (by decide) | skip
  all_goals
    clear hx
    go_enter Tryd.func21, Tryd.ntmps21
    go_wp2
    go_ret2
    exact ⟨_, rfl, rfl, hE⟩
set_option maxRecDepth 100000 in
theorem Seal_ok {box : Nat} {b : List UInt8} {ao : Option Addr} {c : Nat} (hb : box < 65536) (hl : b.length ≤ 2048) {l : List HProp} {w : World} (ht : Knows l Table) (hk : Knows l (reads (.slice ao b.length c) b.length (bvals b))) (hE : Ent l w) :
    Calls Tryd.prog 21 #[.int .i64 box, .slice ao b.length c] w (Ret fun v w' => ∃ ao' c', v = .tuple #[.slice ao' (hdP box b.length (crcV b)).length c', .int .i64 0] ∧ Ent (rowB ao' c' (hdP box b.length (crcV b)) :: l) w') := by
  have h1 : decide ((box : Int) < 0) = false := decide_eq_false (by omega)
  have h2 : decide ((65535 : Int) < (box : Int)) = false := decide_eq_false (by omega)
  have h3 : decide ((2048 : Int) < (b.length : Int)) = false := decide_eq_false (by omega)
  have hs : crcV b < 4294967296 := by unfold crcV; omega
  go_enter Tryd.func21, Tryd.ntmps21
  go_wp2_with (first
    | go_skip
    | (go_at_call 28; have H := Sum_any (ht _ hE) (hk _ hE) (by omega); refine H.mono ?_; clear H; rintro e wb ⟨rfl, rfl⟩)
    | (go_at_call 62; refine (hPut_any hb (by omega) hs ht hE).mono ?_; rintro e wd ⟨v, rfl, ao', c', rfl, hEd⟩))
  go_ret2
  exact ⟨_, rfl, ao', c', rfl, hEd⟩
end Go.Proofs.YtdpfigkjkjjedaaDoor
namespace Go.SL
section
variable {P : Program} {ops : Array Oper} {rest : List Oper} {o : Oper} {a : Act} {Q : Exit → Act → World → Prop} {w : World} {l : List HProp}
theorem wpl_st1 (hE : Ent l w) (i : Nat) {b : Nat} {cs : List Value} {T : TypeId} (hi : l[i]? = some (pt b (.cells cs.toArray T (0, 0))))
    {t : TypeId} {x y : Operand} (ho : o.op = .store t x y) (hw : Region.wanted o (yielded ops a.tmps) = true) {off : Nat} (hx : a.eval x = .pointer (some ⟨b, off, none⟩)) {v : Value} (hy : a.eval y = v)
    (hn : ∀ w, (Go.sizeOf t).run P w = .ok 1 w) (hv : v.cells = #[v]) (h1 : v.oneCell' = true) (hfit : off < cs.length)
    (h : ∀ w', Ent (l.set i (pt b (.cells (cs.set off v).toArray T (0, 0)))) w' → wpList P ops Q rest (a.put o.dst undef) w') : wpList P ops Q (o :: rest) a w := by
  refine wpl_store hE i hi ho hw hx hy hn (by rw [hv]; rfl) (by rw [hv]; simpa using h1) (by simp; omega) fun w' hE' => h w' ?_
  have e : (cs.toArray.toList.take off ++ v.cells.toList ++ cs.toArray.toList.drop (off + v.cells.toList.length)).toArray = (cs.set off v).toArray := by
    rw [hv]
    simp only [List.toList_toArray, List.length_cons, List.length_nil, Nat.zero_add]
    rw [List.set_eq_take_append_cons_drop, if_pos hfit]
    simp
  rw [e] at hE'
  exact hE'
end
end Go.SL
