/-
  Steps of regions that draw their order: a text of bytes, a slice of one cell, a cell written. Conditions: none; plain lemmas over any program.
-/
import Derived.Test.YtjdignaddfhohaaDoorMergAF3
import Derived.Shelf.Strings.LastIndex
import Derived.Shelf.Lay
import Derived.Shelf.Strings.Count
import Derived.Shelf.Strings.SplitCore
import Derived.Lib.SplitLaws
import Derived.Lib.IndexBytes
import Derived.Shelf.SlSortCmp.NoneTotal
import Derived.Ground.SlsfProg
import Derived.Sort.OwnSorted
namespace Go.SL
section
variable {P : Program} {w : World} {l : List HProp} {ops : Array Oper} {o : Oper} {a : Act} {K : Act → World → Prop} {Q : Exit → Act → World → Prop} {E : Prop}
theorem stp_bytesStr {src dst e : TypeId} {x : Operand} (ho : o.op = .convert src dst x) (hw : Region.wanted o (yielded ops a.tmps) = true) {v : Value} (hx : a.eval x = v)
    (hs : P.underlying src = some (.slice e)) (he : P.underlying e = some (.int .u8)) (hd : P.underlying dst = some .string) {n : Nat} {bs : List UInt8}
    (hr : reads v n (bs.map fun b => Value.int .u8 b.toNat) w) (hn : n = bs.length) (h : K (a.put o.dst (.string ⟨bs.toArray⟩)) w) : if Region.wanted o (yielded ops a.tmps) = true then Oper.wp P o a w K Q else E := by
  refine step_run hw (w' := w) (v := .string ⟨bs.toArray⟩) ?_ h
  simp [execOp, ho, hx, bytesToString_reads hs he hd hr hn]
theorem stp_buildC (hE : Ent l w) {t e : TypeId} {x : Operand} (ho : o.op = .buildSlice t 1 #[(0, x)]) (hw : Region.wanted o (yielded ops a.tmps) = true) {v : Value} (hx : a.eval x = v)
    (hr : (Instr.buildSlice t 1 #[(0, v)]).run P w = .ok (.slice (some ⟨w.heap.size, 0, none⟩) 1 1) (w.alloc (.cells #[v] e)))
    (h : ∀ b w', Ent (pt b (.cells #[v] e) :: l) w' → K (a.put o.dst (.slice (some ⟨b, 0, none⟩) 1 1)) w') : if Region.wanted o (yielded ops a.tmps) = true then Oper.wp P o a w K Q else E := by
  refine step_run hw (w' := w.alloc (.cells #[v] e)) (v := .slice (some ⟨w.heap.size, 0, none⟩) 1 1) ?_ (h _ _ (hE.alloc _))
  simp [execOp, ho, hx, hr]
theorem stp_build1 (hE : Ent l w) {t e : TypeId} {x : Operand} (ho : o.op = .buildSlice t 1 #[(0, x)]) (hw : Region.wanted o (yielded ops a.tmps) = true) {xs : List Value} (hx : a.eval x = .agg xs.toArray)
    (ht : P.underlying t = some (.slice e)) {size : Nat} (hI : zeroSize P e = some size) (hn : ∀ w, (Go.sizeOf e).run P w = .ok size w) (h0 : 0 < size) (h24 : size ≤ 16777216) (hxl : xs.length = size)
    (h : ∀ b w', Ent (pt b (.cells xs.toArray e) :: l) w' → K (a.put o.dst (.slice (some ⟨b, 0, none⟩) 1 1)) w') : if Region.wanted o (yielded ops a.tmps) = true then Oper.wp P o a w K Q else E := by
  have hr := run_buildSlice1 (P := P) (w := w) ht hI hn h0 h24 xs hxl
  refine step_run hw (w' := w.alloc (.cells xs.toArray e)) (v := .slice (some ⟨w.heap.size, 0, none⟩) 1 1) ?_ (h _ _ (hE.alloc _))
  simp [execOp, ho, hx, hr]
/-- one cell written, as one step of a region that draws -/
theorem stp_setC (hE : Ent l w) (i : Nat) {b : Nat} {cur : Array Value} {T : TypeId} (hi : l[i]? = some (pt b (.cells cur T (0, 0))))
    {t : TypeId} {x y : Operand} (ho : o.op = .store t x y) (hw : Region.wanted o (yielded ops a.tmps) = true) {off : Nat} (hx : a.eval x = .pointer (some ⟨b, off, none⟩)) {v : Value} (hy : a.eval y = v)
    (hn : ∀ w, (Go.sizeOf t).run P w = .ok 1 w) (hv : v.cells = #[v]) (h1 : v.oneCell' = true) (hfit : off < cur.size)
    (h : ∀ w', Ent (l.set i (pt b (.cells (cur.setIfInBounds off v) T (0, 0)))) w' → K (a.put o.dst undef) w') : if Region.wanted o (yielded ops a.tmps) = true then Oper.wp P o a w K Q else E := by
  rw [if_pos hw]
  have hr := run_storeV (P := P) hE i hi (t := t) (v := v) (n := 1) hn (by rw [hv]; rfl) (by rw [hv]; simpa using h1) (off := off) (by omega)
  have e : (cur.toList.take off ++ v.cells.toList ++ cur.toList.drop (off + v.cells.toList.length)).toArray = cur.setIfInBounds off v := by
    rw [hv]
    apply Array.ext'
    rw [Array.toList_setIfInBounds, List.set_eq_take_append_cons_drop, if_pos (by simpa using hfit)]
    simp
  rw [e] at hr
  have hx2 : (execOp a.eval o).run P w = .ok .skip (w.setRow b (cur.setIfInBounds off v)) := by simp [execOp, ho, hx, hy, hr]
  simp only [Oper.wp, hx2, Oper.upon]
  exact h _ (hE.setRow i hi _)
/-- a load that is known by a fact -/
theorem wpl_ldF {rest : List Oper} {t : TypeId} {x : Operand} (ho : o.op = .load t x) (hw : Region.wanted o (yielded ops a.tmps) = true) {ad : Addr} (hx : a.eval x = .pointer (some ad)) {v : Value}
    (hr : (Instr.loadAt t (.pointer (some ad))).run P w = .ok v w) (h : wpList P ops Q rest (a.put o.dst v) w) : wpList P ops Q (o :: rest) a w := by
  refine wpl_run hw (w' := w) (v := v) ?_ h
  simp [execOp, ho, hx, hr]
theorem cap_row {e : TypeId} {size n c : Nat} {ao : Option Addr} {xs : List Value} {l : List HProp} {w : World} (hE : Ent l w) (i : Nat) (hi : l[i]? = some (row e size (.slice ao n c) n xs)) : n ≤ c := by
  rcases (hE.owns i hi).2 with ⟨h, h0⟩ | ⟨g, cap, cur, h, _, _, hn, _⟩
  · omega
  · cases h; exact hn
end
end Go.SL
namespace Go.Proofs.YtjdignaddfhohaaDoor
open Go.RowKit Go.SL

section
variable (b o t : List En) (D : List (List UInt8))
def stC (q : List UInt8) : Sd := if (D.contains q && !(ch0 b o t q).1.dir) = true then ⟨true, true, []⟩ else (ch0 b o t q).1
def stB (q : List UInt8) : Bool := (D.contains q && !(ch0 b o t q).1.dir) || !(ch0 b o t q).2
/-- what the two maps hold of paths -/
def ChI (K : List (List UInt8)) (kc kb : List (List UInt8 × Value)) : Prop := ∀ q ∈ K, lookK kc q = some (sdV (stC b o t D q)) ∧ lookK kb q = some (.bool (stB b o t D q))
end
theorem st_yes {b o t : List En} {D : List (List UInt8)} {q p : List UInt8} (h : (stC b o t D q).dir = true) : stC b o t (D ++ [q]) p = stC b o t D p ∧ stB b o t (D ++ [q]) p = stB b o t D p := by
  have e : (D ++ [q]).contains p = (D.contains p || (p == q)) := by
    rw [Bool.eq_iff_iff, Bool.or_eq_true, List.contains_iff_mem, List.contains_iff_mem, List.mem_append, List.mem_singleton, beq_iff_eq]
  unfold stC stB
  rw [e]
  cases hpq : (p == q) with
  | false => rw [Bool.or_false]; exact ⟨rfl, rfl⟩
  | true =>
    have : p = q := eq_of_beq hpq
    subst this
    unfold stC at h
    cases hd : (ch0 b o t p).1.dir with
    | true => simp [hd]
    | false =>
      cases hm : D.contains p with
      | true => simp
      | false =>
        rw [hm, hd] at h
        simp at h
        rw [hd] at h
        cases h
theorem st_no {b o t : List En} {D : List (List UInt8)} {q p : List UInt8} (h : (stC b o t D q).dir = false) : stC b o t (D ++ [q]) p = (if p == q then ⟨true, true, []⟩ else stC b o t D p) ∧ stB b o t (D ++ [q]) p = (if p == q then true else stB b o t D p) := by
  have e : (D ++ [q]).contains p = (D.contains p || (p == q)) := by
    rw [Bool.eq_iff_iff, Bool.or_eq_true, List.contains_iff_mem, List.contains_iff_mem, List.mem_append, List.mem_singleton, beq_iff_eq]
  unfold stC stB
  rw [e]
  cases hpq : (p == q) with
  | false => simp
  | true =>
    have : p = q := eq_of_beq hpq
    subst this
    unfold stC at h
    cases hd : (ch0 b o t p).1.dir with
    | true =>
      rw [hd] at h
      simp [hd] at h
    | false => simp
theorem chI_yes {b o t : List En} {D K : List (List UInt8)} {kc kb : List (List UInt8 × Value)} {q : List UInt8} (h : ChI b o t D K kc kb) (hd : (stC b o t D q).dir = true) : ChI b o t (D ++ [q]) K kc kb := fun p hp => by
  rw [(st_yes hd).1, (st_yes hd).2]
  exact h p hp
theorem chI_no {b o t : List En} {D K : List (List UInt8)} {kc kb : List (List UInt8 × Value)} {q : List UInt8} (h : ChI b o t D K kc kb) (hd : (stC b o t D q).dir = false) : ChI b o t (D ++ [q]) K (setK kc q (sdV ⟨true, true, []⟩)) (setK kb q (.bool true)) := fun p hp => by
  rw [(st_no hd).1, (st_no hd).2, look_set, look_set]
  cases hpq : (p == q) with
  | true => exact ⟨rfl, rfl⟩
  | false => exact h p hp
set_option maxRecDepth 100000 in
set_option maxHeartbeats 4000000 in
attribute [-go_sem] Instr.loadAt in
theorem needs_any {b o t : List En} {D K : List (List UInt8)} {kc kb : List (List UInt8 × Value)} {q : List UInt8} (h : ChI b o t D K kc kb) (hq : q ∈ K) {c1 c2 r1 r2 : Nat} {l : List HProp} {w : World}
    (hE : Ent (mapK r1 kS kc :: mapK r2 kS kb :: pt c1 (.cells #[.map (some r1)] 58) :: pt c2 (.cells #[.map (some r2)] 60) :: l) w) :
    Calls Tryd.prog 22 #[.string ⟨q.toArray⟩, .pointer (some ⟨c1, 0, none⟩), .pointer (some ⟨c2, 0, none⟩)] w (Ret fun v w' => ∃ kc' kb', ChI b o t (D ++ [q]) K kc' kb' ∧ Ent (mapK r1 kS kc' :: mapK r2 kS kb' :: pt c1 (.cells #[.map (some r1)] 58) :: pt c2 (.cells #[.map (some r2)] 60) :: l) w') := by
  have hlk := (h q hq).1
  cases hd : (stC b o t D q).dir with
  | true =>
    have R := SL.hid (chI_yes h hd)
    obtain ⟨st, sb, hs⟩ : ∃ st sb, stC b o t D q = ⟨st, true, sb⟩ := ⟨_, _, by rw [← hd]⟩
    rw [hs] at hlk
    have Hv := SL.hid (show (lookK kc q).getD (sdV .no) = .agg #[.bool st, .bool true, .string ⟨sb.toArray⟩] by rw [hlk]; rfl)
    clear hlk hs hd h
    go_enter Tryd.func22, Tryd.ntmps22
    go_wp2_with (first
      | go_skip
      | (refine lkX keyS hE Tryd.underlying58 Tryd.underlying9 (z := sdV .no) (fun w => by simp [go_sem]; rfl) Hv.out ?_)
      | (refine alX hE ?_; clear hE; intro b4 w hE)
      | (refine swX (t := 25) hE [.bool st, .bool true, .string ⟨sb.toArray⟩] Tryd.sizeOf25 ?_; clear hE; intro w hE)
      | (refine ldX hE ?_))
    go_end0
    exact ⟨_, rfl, kc, kb, R.out, hE.tail⟩
  | false =>
    have R := SL.hid (chI_no h hd)
    obtain ⟨st, sb, hs⟩ : ∃ st sb, stC b o t D q = ⟨st, false, sb⟩ := ⟨_, _, by rw [← hd]⟩
    rw [hs] at hlk
    have Hv := SL.hid (show (lookK kc q).getD (sdV .no) = .agg #[.bool st, .bool false, .string ⟨sb.toArray⟩] by rw [hlk]; rfl)
    clear hlk hs hd h
    go_enter Tryd.func22, Tryd.ntmps22
    go_wp2_with (first
      | go_skip
      | (refine lkX keyS hE Tryd.underlying58 Tryd.underlying9 (z := sdV .no) (fun w => by simp [go_sem]; rfl) Hv.out ?_)
      | (refine alX hE ?_; clear hE; intro b4 w hE)
      | (refine swX (t := 25) hE [.bool st, .bool false, .string ⟨sb.toArray⟩] Tryd.sizeOf25 ?_; clear hE; intro w hE)
      | (refine ldX hE ?_))
    have hO := hE.drew
    refine wp_region_held_drew (S := (fun w' => ((Instr.loadAt 58 (.pointer (some ⟨c1, 0, none⟩))).run Tryd.prog w' = .ok (.map (some r1)) w') ∧ ((Instr.loadAt 60 (.pointer (some ⟨c2, 0, none⟩))).run Tryd.prog w' = .ok (.map (some r2)) w'))) (by kernel_rfl) ⟨(atVq hO), (atVq hO)⟩ (fun hS => ?_)
    refine tL 0 hS ?_; refine tV 1 hS ?_; refine tL 2 hS ?_; refine tV 3 hS ?_; refine tV 4 hS ?_
    refine tO 5 (fun K hK => ?_)
    (refine step_updK keyS hO (v := sdV ⟨true, true, []⟩) Tryd.underlying58 Tryd.underlying9 ?_; clear hO; intro w5 hO)
    refine tK hK ⟨(atVq hO), (atVq hO)⟩ (fun hS => ?_); clear hK K
    refine tO 6 (fun K hK => ?_)
    (refine step_updK keyS hO Tryd.underlying60 Tryd.underlying9 ?_; clear hO; intro w6 hO)
    refine tK hK ⟨(atVq hO), (atVq hO)⟩ (fun hS => ?_); clear hK K
    refine wpAnyH_done (by kernel_rfl) ?_ _
    all_goals
      clear hS
      go_wp2
      go_end0
      exact ⟨_, rfl, _, _, R.out, hO.tail⟩
end Go.Proofs.YtjdignaddfhohaaDoor
namespace Go.Proofs.YtjdignaddfhohaaDoor
open Go.RowKit Go.SL

section
variable (b o t : List En)
/-- the directories that these paths want -/
def need0 (P : List (List UInt8)) : List (List UInt8) := P.flatMap fun p => if (ch0 b o t p).1.there = true then abovL p else []
end
theorem need_mem {b o t : List En} {P : List (List UInt8)} {q : List UInt8} : q ∈ need0 b o t P ↔ ∃ p ∈ P, (ch0 b o t p).1.there = true ∧ q ≠ [] ∧ belowP p q = true := by
  unfold need0
  rw [List.mem_flatMap]
  constructor
  · rintro ⟨p, hp, h⟩
    split at h
    · next ht => exact ⟨p, hp, ht, above_mem.1 h⟩
    · cases h
  · rintro ⟨p, hp, ht, h⟩
    exact ⟨p, hp, by rw [if_pos ht]; exact above_mem.2 h⟩
theorem need_all {b o t : List En} {q : List UInt8} (hq : q ≠ []) : (need0 b o t (keysM b o t)).contains q = needM b o t q := by
  rw [Bool.eq_iff_iff, List.contains_iff_mem, need_mem, needM, List.any_eq_true]
  constructor
  · rintro ⟨p, hp, h1, _, h2⟩
    exact ⟨p, hp, by rw [h1, h2]; rfl⟩
  · rintro ⟨p, hp, h⟩
    rw [Bool.and_eq_true] at h
    exact ⟨p, hp, h.1, hq, h.2⟩
theorem st_fin {b o t : List En} {q : List UInt8} (hq : q ≠ []) : stC b o t (need0 b o t (keysM b o t)) q = finM b o t q ∧ stB b o t (need0 b o t (keysM b o t)) q = badM b o t q := by
  unfold stC stB finM badM trouble
  rw [need_all hq]
  exact ⟨rfl, rfl⟩
theorem there_now {b o t : List En} {k : Nat} (hk : k < (keysM b o t).length) : (stC b o t (need0 b o t ((keysM b o t).take k)) (keysM b o t)[k]).there = (ch0 b o t (keysM b o t)[k]).1.there := by
  have hn : (need0 b o t ((keysM b o t).take k)).contains (keysM b o t)[k] = false := by
    rw [Bool.eq_false_iff]
    intro h
    rw [List.contains_iff_mem, need_mem] at h
    obtain ⟨p, hp, _, _, hb⟩ := h
    have h1 := below_less hb
    have hr := keysM_rise b o t
    rw [RiseP, ← List.take_append_drop k (keysM b o t), List.pairwise_append] at hr
    have h2 := hr.2.2 p hp (keysM b o t)[k] (by rw [List.drop_eq_getElem_cons hk]; exact List.mem_cons_self ..)
    rw [lessP_asymm h1] at h2
    cases h2
  unfold stC
  rw [hn]
  rfl
theorem above_in {b o t : List En} (ho : TreeEs o) (ht : TreeEs t) {p q : List UInt8} (hp : (ch0 b o t p).1.there = true) (hq : q ∈ abovL p) : q ∈ keysM b o t := by
  obtain ⟨hq1, hq2⟩ := above_mem.1 hq
  rw [keysM_mem]
  rcases ch0_cases (fE b p) (fE o p) (fE t p) with e | e
  · rw [ch0, e] at hp
    obtain ⟨x, hx, rfl, _⟩ := ho.up p (there_mem hp) q hq1 hq2
    exact .inr (.inl (List.mem_map_of_mem hx))
  · rw [ch0, e] at hp
    obtain ⟨x, hx, rfl, _⟩ := ht.up p (there_mem hp) q hq1 hq2
    exact .inr (.inr (List.mem_map_of_mem hx))
/-- one round: a path that is chosen wants those above it -/
theorem need_step {b o t : List En} {k : Nat} {K : List (List UInt8)} (hk : k < K.length) : need0 b o t (K.take (k + 1)) = need0 b o t (K.take k) ++ (if (ch0 b o t K[k]).1.there = true then abovL K[k] else []) := by
  unfold need0
  rw [List.take_succ_eq_append_getElem hk, List.flatMap_append, List.flatMap_cons, List.flatMap_nil, List.append_nil]
/-- what is chosen and whether it is a conflict, of the first keys, as the two maps have it -/
def chK (b o t : List En) (P : List (List UInt8)) : List (List UInt8 × Value) := P.map fun p => (p, sdV (ch0 b o t p).1)
def bdK (b o t : List En) (P : List (List UInt8)) : List (List UInt8 × Value) := P.map fun p => (p, .bool (!(ch0 b o t p).2))
theorem map_set {f : List UInt8 → Value} {P : List (List UInt8)} (hn : P.Nodup) {k : Nat} (hk : k < P.length) : setK ((P.take k).map fun p => (p, f p)) P[k] (f P[k]) = (P.take (k + 1)).map fun p => (p, f p) := by
  rw [set_new, List.take_succ_eq_append_getElem hk, List.map_append]
  · rfl
  · rw [List.map_map]
    intro hm
    obtain ⟨z, hz, e⟩ := List.mem_map.1 hm
    have hm2 : P[k] ∈ P.take k := by rw [← e]; exact hz
    rw [← List.take_append_drop k P, List.nodup_append] at hn
    exact hn.2.2 _ hm2 P[k] (by rw [List.drop_eq_getElem_cons hk]; exact List.mem_cons_self ..) rfl
theorem map_look {f : List UInt8 → Value} {P : List (List UInt8)} {q : List UInt8} (hq : q ∈ P) : lookK (P.map fun p => (p, f p)) q = some (f q) := by
  unfold lookK
  induction P with
  | nil => cases hq
  | cons p P ih =>
    rw [List.map_cons, List.find?_cons]
    cases h : q == p with
    | true => rw [eq_of_beq h]; rfl
    | false =>
      rcases List.mem_cons.1 hq with rfl | hq
      · simp at h
      · exact ih hq
theorem chI_start (b o t : List En) : ChI b o t [] (keysM b o t) (chK b o t (keysM b o t)) (bdK b o t (keysM b o t)) := fun q hq => by
  rw [chK, bdK, map_look (f := fun p => sdV (ch0 b o t p).1) hq, map_look (f := fun p => Value.bool (!(ch0 b o t p).2)) hq]
  simp [stC, stB]
/-- the entries and the conflicts of the first keys -/
def outK (b o t : List En) (P : List (List UInt8)) : List En := P.filterMap fun k => if (finM b o t k).there = true then some ⟨k, (finM b o t k).dir, (finM b o t k).data⟩ else none
def conK (b o t : List En) (P : List (List UInt8)) : List Cf := P.filterMap fun k => if badM b o t k = true then some ⟨k, fE b k, fE o k, fE t k⟩ else none
theorem outK_step {b o t : List En} {K : List (List UInt8)} {k : Nat} (hk : k < K.length) : outK b o t (K.take (k + 1)) = outK b o t (K.take k) ++ (if (finM b o t K[k]).there = true then [⟨K[k], (finM b o t K[k]).dir, (finM b o t K[k]).data⟩] else []) := by
  unfold outK
  rw [List.take_succ_eq_append_getElem hk, List.filterMap_append]
  congr 1
  cases h : (finM b o t K[k]).there <;> simp [h]
theorem conK_step {b o t : List En} {K : List (List UInt8)} {k : Nat} (hk : k < K.length) : conK b o t (K.take (k + 1)) = conK b o t (K.take k) ++ (if badM b o t K[k] = true then [⟨K[k], fE b K[k], fE o K[k], fE t K[k]⟩] else []) := by
  unfold conK
  rw [List.take_succ_eq_append_getElem hk, List.filterMap_append]
  congr 1
  cases h : badM b o t K[k] <;> simp [h]
/-- bounds -/
structure Fits (es : List En) : Prop where
  tree : TreeEs es
  few : es.length ≤ 100
  small : ∀ x ∈ es, x.path.length ≤ 200 ∧ x.data.length ≤ 9000
theorem keys_few {b o t : List En} (hb : Fits b) (ho : Fits o) (ht : Fits t) : (keysM b o t).length ≤ 300 ∧ ∀ k ∈ keysM b o t, k.length ≤ 200 ∧ k ≠ [] := by
  refine ⟨?_, fun k hk => ⟨?_, keys_ne hb.tree ho.tree ht.tree hk⟩⟩
  · have h1 := sortK_len (b.map En.path ++ (o.map En.path ++ t.map En.path))
    have := hb.few
    have := ho.few
    have := ht.few
    simp only [List.length_append, List.length_map] at h1
    unfold keysM
    omega
  · rcases keysM_mem.1 hk with h | h | h
    all_goals
      obtain ⟨x, hx, rfl⟩ := List.mem_map.1 h
      first | exact (hb.small x hx).1 | exact (ho.small x hx).1 | exact (ht.small x hx).1
theorem fE_small {es : List En} (h : Fits es) (k : List UInt8) : (fE es k).data.length ≤ 9000 := by
  unfold fE
  cases hf : es.find? (fun x => x.path == k) with
  | none => exact Nat.zero_le _
  | some x => exact (h.small x (List.mem_of_find?_eq_some hf)).2
theorem fin_small {b o t : List En} (ho : Fits o) (ht : Fits t) (k : List UInt8) : (finM b o t k).data.length ≤ 9000 := by
  unfold finM
  split
  · exact Nat.zero_le _
  · rcases ch0_cases (fE b k) (fE o k) (fE t k) with e | e
    · rw [ch0, e]; exact fE_small ho k
    · rw [ch0, e]; exact fE_small ht k
theorem out_fits {b o t : List En} (hb : Fits b) (ho : Fits o) (ht : Fits t) : (outM b o t).length ≤ 300 ∧ ∀ x ∈ outM b o t, x.path.length ≤ 200 ∧ x.data.length ≤ 9000 := by
  obtain ⟨h1, h2⟩ := keys_few hb ho ht
  refine ⟨Nat.le_trans (List.length_filterMap_le _ _) h1, fun x hx => ?_⟩
  obtain ⟨k, hk, h⟩ := List.mem_filterMap.1 hx
  split at h
  · cases h; exact ⟨(h2 k hk).1, fin_small ho ht k⟩
  · cases h
end Go.Proofs.YtjdignaddfhohaaDoor
namespace Go.SL
theorem results_c3 {P : Program} {l : List HProp} {w : World} {fn : Func} {k j i : Tmp} {t : TypeId} (h : fn.results = #[.cell k t, .tmp j, .tmp i]) {tmps : Array Value} (hE : Ent l w) (q : Nat) {b : Nat} {xs : List Value} {T : TypeId} {fz : Nat × Nat} (hi : l[q]? = some (pt b (.cells xs.toArray T fz)))
    (hp : tmps.getD k undef = .pointer (some ⟨b, 0, none⟩)) (hA : ∀ w, (isAgg t).run P w = .ok true w) {n : Nat} (hn : ∀ w, (Go.sizeOf t).run P w = .ok n w) (hl : xs.length = n) {v u : Value} (hv : tmps.getD j undef = v) (hu : tmps.getD i undef = u) : (results fn tmps).run P w = .ok (.tuple #[.agg xs.toArray, v, u]) w := by
  have hp' : tmps[k]?.getD undef = .pointer (some ⟨b, 0, none⟩) := by simpa using hp
  have hv' : tmps[j]?.getD undef = v := by simpa using hv
  have hu' : tmps[i]?.getD undef = u := by simpa using hu
  simp only [results, h]
  simp [hp', hv', hu', asAddr, run_resultA hE q hi hA hn hl]
end Go.SL
namespace Go.Proofs.YtjdignaddfhohaaDoor
open Go.RowKit Go.SL

def anyN (b : Nat) : HProp := ex fun z : Value × Value × Value => [pt b (.cells #[z.1, z.2.1, z.2.2] 35)]
theorem anyN_of {b : Nat} {x y z : Value} {l : List HProp} {w : World} (h : Ent (pt b (.cells #[x, y, z] 35) :: l) w) : Ent (anyN b :: l) w := Ent.pack (f := fun z : Value × Value × Value => [pt b (.cells #[z.1, z.2.1, z.2.2] 35)]) (x, y, z) h
def treeP (es : List En) : Option Tr := if great es = true then none else if (buildT es).1 = 0 then some (buildT es).2 else none
def TnPost (l : List HProp) (v : Value) (w' : World) : Prop := ∃ (m : List HProp) (a : Option Addr) (c : Nat) (a' : Option Addr) (c' : Nat), v = .tuple #[.agg #[.bool false, .string ⟨#[]⟩, .slice a 0 c], .slice a' 0 c', .bool false] ∧ Ent (m ++ l) w'
def TgPost (t : Tr) (l : List HProp) (v : Value) (w' : World) : Prop := ∃ (m : List HProp) (a : Option Addr) (c : Nat) (a' : Option Addr) (c' : Nat), v = .tuple #[.agg #[.bool t.dir, .string ⟨t.data.toArray⟩, .slice a t.kids.length c], .slice a' (entT 6 [] t).length c', .bool true] ∧ Ent (m ++ l) w' ∧ KidsAt (m ++ l) (.slice a t.kids.length c) t.kids ∧ Knows (m ++ l) (reads (.slice a' (entT 6 [] t).length c') (entT 6 [] t).length ((entT 6 [] t).flatMap enC))
theorem zero_wf : Tr.Wf 6 .zero := ⟨fun _ => rfl, fun _ => rfl, fun i h => absurd h (by simp [Tr.zero, Tr.names, Tr.kids]), Nat.zero_le _, Nat.zero_le _, fun k h => (by simp [Tr.zero, Tr.kids] at h)⟩
theorem zero_ent : entT 6 [] .zero = [] := rfl
set_option maxRecDepth 100000 in
set_option maxHeartbeats 4000000 in
attribute [-go_sem] Instr.loadAt in
theorem Tree_none {es : List En} (h : treeP es = none) {ao : Option Addr} {c : Nat} {l : List HProp} {w : World} (hk : Knows l (reads (.slice ao es.length c) es.length (es.flatMap enC))) (hE : Ent l w) :
    Calls Tryd.prog 11 #[.slice ao es.length c] w (Ret (TnPost l)) := by
  have HGr := SL.hid (fun (L : List HProp) (w : World) (hs : l <:+ L) (h : Ent L w) => show Calls Tryd.prog 18 #[.slice ao es.length c] w (Ret fun v w' => v = .bool (great es) ∧ Ent L w') from Great_any (hk.suf hs) h)
  have Tok := SL.hid True.intro
  cases hgr : great es with
  | true =>
    rw [hgr] at HGr
    clear hgr h
    go_enter Tryd.func11, Tryd.ntmps11
    go_wp2_with (first
      | go_skip
      | (refine alX hE ?_; clear hE; intro b2 w hE)
      | (go_at_call 18; refine (HGr.out _ _ (List.suffix_cons _ _) hE).mono ?_; clear hE; rintro e w2 ⟨v, rfl, rfl, hE⟩)
      | (refine swX (t := 35) hE [.bool false, .string ⟨#[]⟩, .slice none 0 0] Tryd.sizeOf35 ?_; clear hE; intro w hE))
    refine bodyPost_ret (results_c3 rfl hE 0 rfl rfl Tryd.isAgg35 Tryd.sizeOf35 rfl rfl rfl) rfl ?_
    exact ⟨_, rfl, [], none, 0, none, 0, rfl, hE.tail⟩
  | false =>
    obtain ⟨hle, hbd⟩ := great_not.1 hgr
    have hne : (buildT es).1 ≠ 0 := by
      intro h0
      rw [treeP, if_neg (by rw [hgr]; simp), if_pos h0] at h
      cases h
    have hz := buildT_zero hne
    have hne2 : ((buildT es).1 == 0) = false := by simpa using hne
    rw [hgr] at HGr
    have HBu := SL.hid (fun (b2 : Nat) (w : World) (h : Ent (anyN b2 :: l) w) => show Calls Tryd.prog 17 #[.slice ao es.length c] w (Ret fun v w' => ∃ m a c1, v = .tuple #[.agg #[.bool false, .string ⟨#[]⟩, .slice a 0 c1], .int .i64 (buildT es).1] ∧ Ent (anyN b2 :: (m ++ l)) w' ∧ KidsAt (anyN b2 :: (m ++ l)) (.slice a 0 c1) []) from by
      refine (Build_any (by omega) (fun x hx => ⟨by have := (hbd x hx).1; omega, by have := (hbd x hx).2; omega⟩) (hk.suf (List.suffix_cons _ _)) h).mono ?_
      rintro e w' ⟨v, rfl, m, kv, h, hE, hK⟩
      rw [hz] at h hK
      obtain ⟨a, c', rfl⟩ := hK.slice
      exact ⟨_, rfl, m, a, c', h, Ent.swap (a := m) (b := [anyN b2]) hE, hK.mono (fun p hp W hW => hp W (Ent.swap (a := [anyN b2]) (b := m) hW))⟩)
    have HEn := SL.hid (fun (A B : HProp) (X : List HProp) (w : World) (a : Option Addr) (c1 : Nat) (hK : KidsAt (B :: X) (.slice a 0 c1) []) (h : Ent (A :: B :: X) w) => show Calls Tryd.prog 16 #[.agg #[.bool false, .string ⟨#[]⟩, .slice a 0 c1]] w (Ret fun v w' => ∃ a' c' m, v = .slice a' 0 c' ∧ Ent (A :: B :: rowEn a' c' [] :: (m ++ X)) w') from by
      refine (Entries_any (t := .zero) (kv := .slice a 0 c1) zero_wf (by decide) (hK.suf (List.suffix_cons _ _)) (by rw [zero_ent]; decide) h).mono ?_
      rintro e w' ⟨v, rfl, a', c', m, h, hE⟩
      exact ⟨_, rfl, a', c', m, h, Ent.swap (a := rowEn a' c' [] :: m) (b := [A, B]) hE⟩)
    clear hgr h hne hz hbd hle hk
    generalize (buildT es).1 = er at *
    go_enter Tryd.func11, Tryd.ntmps11
    go_wp2_with (first
      | go_skip
      | ((with_reducible (show Go.wpList _ _ _ (Go.Oper.mk _ (.alloc _) _ _ _ _ :: _) _ _)); clear Tok; (refine alX hE ?_; clear hE; intro b2 w hE); replace hE := anyN_of hE)
      | (refine alX hE ?_; clear hE; intro b5 w hE)
      | (go_at_call 18; refine (HGr.out _ _ (List.suffix_cons _ _) hE).mono ?_; clear hE; rintro e w2 ⟨v, rfl, rfl, hE⟩)
      | (go_at_call 17; refine (HBu.out _ _ hE).mono ?_; clear hE; rintro e w3 ⟨v, rfl, m, a, c1, rfl, hE, hKA⟩)
      | (refine swX (t := 35) hE [.bool false, .string ⟨#[]⟩, .slice a 0 c1] Tryd.sizeOf35 ?_; clear hE; intro w hE))
    replace HEn := SL.hid (fun (w : World) (h : Ent (pt b5 (.cells #[.bool false, .string ⟨#[]⟩, .slice a 0 c1] 35) :: anyN b2 :: (m ++ l)) w) => HEn.out _ _ _ w a c1 hKA h)
    refine wp_region_held_drew (S := (fun w' => ((Instr.loadAt 35 (.pointer (some ⟨b5, 0, none⟩))).run Tryd.prog w' = .ok (.agg [.bool false, .string ⟨#[]⟩, .slice a 0 c1].toArray) w'))) (by kernel_rfl) (atWq hE.drew Tryd.isAgg35 Tryd.sizeOf35) (fun hS => ?_)
    refine tL 0 hS ?_; refine tL 1 hS ?_; refine tV 3 hS ?_; refine tV 4 hS ?_
    refine tO 2 (fun K hK => ?_)
    (go_simp; refine (HEn.out _ hE.drew).mono ?_; rintro e w4 ⟨v, rfl, a4, c4, m4, rfl, hR⟩)
    refine tK hK (atWq hR Tryd.isAgg35 Tryd.sizeOf35) (fun hS => ?_); clear hK K
    refine tO 5 (fun K hK => ?_)
    ((first | obtain ⟨⟨z0, z1, z2⟩, hU⟩ := (hR.front 1 rfl).unpack | obtain ⟨⟨z0, z1, z2⟩, hU⟩ := (hE.drew.front 1 rfl).unpack); refine step_storeW hU 0 rfl (by rfl) (by rfl) (by rfl) (xs := [.bool false, .string ⟨#[]⟩, .slice a 0 c1]) (by rfl) Tryd.sizeOf35 rfl (by simp [Value.oneCell']) rfl ?_; intro w7 hEs; simp only [List.set_cons_zero, List.set_cons_succ, List.cons_append, List.nil_append] at hEs)
    refine tK hK (atWq hEs Tryd.isAgg35 Tryd.sizeOf35) (fun hS => ?_); clear hK K
    refine tV 6 hS ?_; refine tV 7 hS ?_
    refine wpAnyH_done (by kernel_rfl) ?_ _
    all_goals
      clear hS
      go_wp2
      refine bodyPost_ret (results_c3 rfl hEs 0 rfl rfl Tryd.isAgg35 Tryd.sizeOf35 rfl rfl rfl) rfl ?_
      exact ⟨_, rfl, m, a, c1, a4, c4, rfl, hEs.tail.tail.tail.drop⟩
set_option maxRecDepth 100000 in
set_option maxHeartbeats 4000000 in
attribute [-go_sem] Instr.loadAt in
theorem Tree_good {es : List En} {t : Tr} (h : treeP es = some t) {ao : Option Addr} {c : Nat} {l : List HProp} {w : World} (hk : Knows l (reads (.slice ao es.length c) es.length (es.flatMap enC))) (hE : Ent l w) :
    Calls Tryd.prog 11 #[.slice ao es.length c] w (Ret (TgPost t l)) := by
  have HGr := SL.hid (fun (L : List HProp) (w : World) (hs : l <:+ L) (h : Ent L w) => show Calls Tryd.prog 18 #[.slice ao es.length c] w (Ret fun v w' => v = .bool (great es) ∧ Ent L w') from Great_any (hk.suf hs) h)
  have Tok := SL.hid True.intro
  have hgr : great es = false := by
    cases hg : great es with
    | false => rfl
    | true => rw [treeP, if_pos hg] at h; cases h
  rw [treeP, if_neg (by rw [hgr]; simp)] at h
  obtain ⟨hle, hbd⟩ := great_not.1 hgr
  have h0 : (buildT es).1 = 0 := by
    by_cases h0 : (buildT es).1 = 0
    · exact h0
    · rw [if_neg h0] at h; cases h
  rw [if_pos h0] at h
  have ht : (buildT es).2 = t := Option.some.inj h
  have hG := ((build_same es).2 h0).1
  rw [((build_same es).2 h0).2, ht] at hG
  have hw := hG.2.1
  have hal := all_perm hG
  rw [hgr] at HGr
  have HBu := SL.hid (fun (b2 : Nat) (w : World) (h : Ent (anyN b2 :: l) w) => show Calls Tryd.prog 17 #[.slice ao es.length c] w (Ret fun v w' => ∃ m a c1, v = .tuple #[.agg #[.bool t.dir, .string ⟨t.data.toArray⟩, .slice a t.kids.length c1], .int .i64 0] ∧ Ent (anyN b2 :: (m ++ l)) w' ∧ KidsAt (anyN b2 :: (m ++ l)) (.slice a t.kids.length c1) t.kids) from by
    refine (Build_any (by omega) (fun x hx => ⟨by have := (hbd x hx).1; omega, by have := (hbd x hx).2; omega⟩) (hk.suf (List.suffix_cons _ _)) h).mono ?_
    rintro e w' ⟨v, rfl, m, kv, h, hE, hK⟩
    rw [ht] at h hK
    rw [h0] at h
    obtain ⟨a, c', rfl⟩ := hK.slice
    exact ⟨_, rfl, m, a, c', h, Ent.swap (a := m) (b := [anyN b2]) hE, hK.mono (fun p hp W hW => hp W (Ent.swap (a := [anyN b2]) (b := m) hW))⟩)
  have HEn := SL.hid (fun (A B : HProp) (X : List HProp) (w : World) (a : Option Addr) (c1 : Nat) (hK : KidsAt (B :: X) (.slice a t.kids.length c1) t.kids) (h : Ent (A :: B :: X) w) => show Calls Tryd.prog 16 #[.agg #[.bool t.dir, .string ⟨t.data.toArray⟩, .slice a t.kids.length c1]] w (Ret fun v w' => ∃ a' c' m, v = .slice a' (entT 6 [] t).length c' ∧ Ent (A :: B :: rowEn a' c' (entT 6 [] t) :: (m ++ X)) w') from by
    refine (Entries_any (t := t) hw (by decide) (hK.suf (List.suffix_cons _ _)) (by rw [hal.length_eq]; omega) h).mono ?_
    rintro e w' ⟨v, rfl, a', c', m, h, hE⟩
    exact ⟨_, rfl, a', c', m, h, Ent.swap (a := rowEn a' c' (entT 6 [] t) :: m) (b := [A, B]) hE⟩)
  clear hgr h h0 ht hG hw hal hbd hle hk
  obtain ⟨all, ha⟩ : ∃ all, entT 6 [] t = all := ⟨_, rfl⟩
  rw [ha] at HEn
  have Ha := SL.hid ha
  clear ha
  go_enter Tryd.func11, Tryd.ntmps11
  go_wp2_with (first
    | go_skip
    | ((with_reducible (show Go.wpList _ _ _ (Go.Oper.mk _ (.alloc _) _ _ _ _ :: _) _ _)); clear Tok; (refine alX hE ?_; clear hE; intro b2 w hE); replace hE := anyN_of hE)
    | (refine alX hE ?_; clear hE; intro b5 w hE)
    | (go_at_call 18; refine (HGr.out _ _ (List.suffix_cons _ _) hE).mono ?_; clear hE; rintro e w2 ⟨v, rfl, rfl, hE⟩)
    | (go_at_call 17; refine (HBu.out _ _ hE).mono ?_; clear hE; rintro e w3 ⟨v, rfl, m, a, c1, rfl, hE, hKA⟩)
    | (refine swX (t := 35) hE [.bool t.dir, .string ⟨t.data.toArray⟩, .slice a t.kids.length c1] Tryd.sizeOf35 ?_; clear hE; intro w hE))
  replace HEn := SL.hid (fun (w : World) (h : Ent (pt b5 (.cells #[.bool t.dir, .string ⟨t.data.toArray⟩, .slice a t.kids.length c1] 35) :: anyN b2 :: (m ++ l)) w) => HEn.out _ _ _ w a c1 hKA h)
  refine wp_region_held_drew (S := (fun w' => ((Instr.loadAt 35 (.pointer (some ⟨b5, 0, none⟩))).run Tryd.prog w' = .ok (.agg [.bool t.dir, .string ⟨t.data.toArray⟩, .slice a t.kids.length c1].toArray) w'))) (by kernel_rfl) (atWq hE.drew Tryd.isAgg35 Tryd.sizeOf35) (fun hS => ?_)
  refine tL 0 hS ?_; refine tL 1 hS ?_; refine tV 3 hS ?_; refine tV 4 hS ?_
  refine tO 2 (fun K hK => ?_)
  (go_simp; refine (HEn.out _ hE.drew).mono ?_; rintro e w4 ⟨v, rfl, a4, c4, m4, rfl, hR⟩)
  refine tK hK (atWq hR Tryd.isAgg35 Tryd.sizeOf35) (fun hS => ?_); clear hK K
  refine tO 5 (fun K hK => ?_)
  ((first | obtain ⟨⟨z0, z1, z2⟩, hU⟩ := (hR.front 1 rfl).unpack | obtain ⟨⟨z0, z1, z2⟩, hU⟩ := (hE.drew.front 1 rfl).unpack); refine step_storeW hU 0 rfl (by rfl) (by rfl) (by rfl) (xs := [.bool t.dir, .string ⟨t.data.toArray⟩, .slice a t.kids.length c1]) (by rfl) Tryd.sizeOf35 rfl (by simp [Value.oneCell']) rfl ?_; intro w7 hEs; simp only [List.set_cons_zero, List.set_cons_succ, List.cons_append, List.nil_append] at hEs)
  refine tK hK (atWq hEs Tryd.isAgg35 Tryd.sizeOf35) (fun hS => ?_); clear hK K
  refine tV 6 hS ?_; refine tV 7 hS ?_
  refine wpAnyH_done (by kernel_rfl) ?_ _
  all_goals
    clear hS
    go_wp2
    refine bodyPost_ret (results_c3 rfl hEs 0 rfl rfl Tryd.isAgg35 Tryd.sizeOf35 rfl rfl rfl) rfl ?_
    refine ⟨_, rfl, anyN b2 :: pt b5 (.cells #[.bool t.dir, .string ⟨t.data.toArray⟩, .slice a t.kids.length c1] 35) :: rowEn a4 c4 all :: (m4 ++ m), a, c1, a4, c4, by rw [Ha.out]; rfl, ?_, ?_, ?_⟩
    · simp only [List.append_assoc, List.cons_append]
      exact anyN_of hEs
    · refine hKA.mono (fun p hp W hW => hp W ?_)
      simp only [List.append_assoc, List.cons_append] at hW
      exact (Ent.swap (a := [anyN b2]) (b := m4) ((((hW.front 1 rfl).tail).front 1 rfl).tail)).drop
    · rw [Ha.out]
      exact fun W hW => reads_row hW 2 rfl
end Go.Proofs.YtjdignaddfhohaaDoor
namespace Go.Proofs.YtjdignaddfhohaaDoor
open Go.RowKit Go.SL

theorem treeP_good {es : List En} {t : Tr} (h : treeP es = some t) : great es = false ∧ Good t es := by
  have hgr : great es = false := by
    cases hg : great es with
    | false => rfl
    | true => rw [treeP, if_pos hg] at h; cases h
  rw [treeP, if_neg (by rw [hgr]; simp)] at h
  have h0 : (buildT es).1 = 0 := by
    by_cases h0 : (buildT es).1 = 0
    · exact h0
    · rw [if_neg h0] at h; cases h
  rw [if_pos h0] at h
  have ht : (buildT es).2 = t := Option.some.inj h
  have hG := ((build_same es).2 h0).1
  rw [((build_same es).2 h0).2, ht] at hG
  exact ⟨hgr, hG⟩
/-- what is known of a tree's entries -/
theorem tree_ents {es : List En} {t : Tr} (h : treeP es = some t) : Tr.Wf 6 t ∧ t.dir = true ∧ t.data = [] ∧ (entT 6 [] t).length ≤ 100 ∧ (∀ x ∈ entT 6 [] t, x.path.length ≤ 200 ∧ x.data.length ≤ 9000) ∧ (∀ x ∈ entT 6 [] t, x.path ≠ []) ∧ RiseP ((entT 6 [] t).map En.path) := by
  obtain ⟨hg, hG⟩ := treeP_good h
  obtain ⟨h1, h2⟩ := great_not.1 hg
  have hp := all_perm hG
  exact ⟨hG.2.1, hG.2.2.1, hG.2.2.2, by rw [hp.length_eq]; exact h1, fun x hx => h2 x (hp.mem_iff.1 hx), fun x hx => (ent_path hG.2.1 hx).2.2, ent_rise hG.2.1⟩
def TfPost (b : Bool) (l : List HProp) (v : Value) (w' : World) : Prop := ∃ (m : List HProp) (d : Bool) (s : ByteArray) (a : Option Addr) (n c : Nat) (a' : Option Addr) (n' c' : Nat), v = .tuple #[.agg #[.bool d, .string s, .slice a n c], .slice a' n' c', .bool b] ∧ Ent (m ++ l) w'
theorem Tree_tf {es : List En} {b : Bool} (h : (treeP es).isSome = b) {ao : Option Addr} {c : Nat} {l : List HProp} {w : World} (hk : Knows l (reads (.slice ao es.length c) es.length (es.flatMap enC))) (hE : Ent l w) :
    Calls Tryd.prog 11 #[.slice ao es.length c] w (Ret (TfPost b l)) := by
  cases ht : treeP es with
  | none =>
    rw [ht] at h
    subst h
    refine (Tree_none ht hk hE).mono ?_
    rintro e w' ⟨v, rfl, m, a, c, a', c', h, hE⟩
    exact ⟨_, rfl, m, _, _, a, 0, c, a', 0, c', h, hE⟩
  | some t =>
    rw [ht] at h
    subst h
    refine (Tree_good ht hk hE).mono ?_
    rintro e w' ⟨v, rfl, m, a, c, a', c', h, hE, _⟩
    exact ⟨_, rfl, m, _, _, a, _, c, a', _, c', h, hE⟩
theorem node_knows {b : Nat} {x y v : Value} {R : List HProp} {w : World} (_ : Ent (pt b (.cells #[x, y, v] 35) :: R) w) : ∀ w, Ent (pt b (.cells #[x, y, v] 35) :: R) w → (Instr.loadAt 35 (.pointer (some ⟨b, 0, none⟩))).run Tryd.prog w = .ok (.agg #[x, y, v]) w := fun _ h => atWm (vs := [x, y, v]) h (List.Mem.head _) Tryd.isAgg35 Tryd.sizeOf35 rfl
theorem node_false {b : Nat} {x y v : Value} {R : List HProp} {w : World} (_ : Ent (pt b (.cells #[x, y, v] 35) :: R) w) : ∀ w, Ent (pt b (.cells #[x, y, v] 35) :: R) w → (Instr.loadAt 4 (.pointer (some ⟨b, 0, none⟩))).run Tryd.prog w = .ok x w := fun _ h => run_load1 h 0 rfl (by simp [go_sem]) rfl
theorem rowEn_knows {ao : Option Addr} {c : Nat} {xs : List En} {R : List HProp} {w : World} (_ : Ent (rowEn ao c xs :: R) w) : Knows (rowEn ao c xs :: R) (reads (.slice ao xs.length c) xs.length (xs.flatMap enC)) := fun _ h => reads_row h 0 rfl
theorem tree_build {es : List En} {t : Tr} (h : treeP es = some t) : buildT (entT 6 [] t) = (0, t) := by
  obtain ⟨hg, hG⟩ := treeP_good h
  refine build_entries hG ?_
  rw [treeP, if_neg (by rw [hg]; simp)] at h
  apply Classical.byContradiction
  intro hl
  have : buildT es = (6, .zero) := by rw [buildT, if_pos (by omega)]
  rw [this] at h
  simp at h
end Go.Proofs.YtjdignaddfhohaaDoor
namespace Go.Proofs.YtjdignaddfhohaaDoor
open Go.RowKit Go.SL

def mT1 : Tr := .nd true [] [([120], .nd false [97] [])]
def mT2 : Tr := .nd true [] [([120], .nd false [98] [])]
def mT3 : Tr := .nd true [] [([120], .nd false [97] []), ([121], .nd false [99] [])]
def mT4 : Tr := .nd true [] [([120], .nd false [122] [])]
def mT5 : Tr := .nd true [] [([120], .nd false [98] []), ([121], .nd false [99] [])]
def me1 : List En := [⟨[120], false, [97]⟩]
def me2 : List En := [⟨[120], false, [98]⟩]
def me3 : List En := [⟨[120], false, [97]⟩, ⟨[121], false, [99]⟩]
def me4 : List En := [⟨[120], false, [122]⟩]
def me5 : List En := [⟨[120], false, [98]⟩, ⟨[121], false, [99]⟩]
def mcf : List Cf := [⟨[120], ⟨true, false, [97]⟩, ⟨true, false, [98]⟩, ⟨true, false, [122]⟩⟩]
set_option maxRecDepth 100000 in
theorem mb1 : buildT me1 = (0, mT1) := by kernel_rfl
set_option maxRecDepth 100000 in
theorem mb2 : buildT me2 = (0, mT2) := by kernel_rfl
set_option maxRecDepth 100000 in
theorem mb3 : buildT me3 = (0, mT3) := by kernel_rfl
set_option maxRecDepth 100000 in
theorem mb4 : buildT me4 = (0, mT4) := by kernel_rfl
set_option maxRecDepth 100000 in
theorem mb5 : buildT me5 = (0, mT5) := by kernel_rfl
set_option maxRecDepth 100000 in
theorem mn1 : entT 6 [] mT1 = me1 := by kernel_rfl
set_option maxRecDepth 100000 in
theorem mn2 : entT 6 [] mT2 = me2 := by kernel_rfl
set_option maxRecDepth 100000 in
theorem mn3 : entT 6 [] mT3 = me3 := by kernel_rfl
set_option maxRecDepth 100000 in
theorem mn4 : entT 6 [] mT4 = me4 := by kernel_rfl
theorem wf_built {es : List En} {t : Tr} (h : buildT es = (0, t)) : Tr.Wf 6 t := by
  have h2 := (build_same es).2 (by rw [h])
  rw [h] at h2
  exact h2.1.2.1
theorem fits_of {es : List En} {t : Tr} (h : buildT es = (0, t)) (hn : entT 6 [] t = es) (h1 : es.length ≤ 100) (h2 : ∀ x ∈ es, x.path.length ≤ 200 ∧ x.data.length ≤ 9000) : Fits (entT 6 [] t) := by
  have := tree_es (wf_built h)
  exact ⟨this, by rw [hn]; exact h1, by rw [hn]; exact h2⟩
theorem mf1 : Fits (entT 6 [] mT1) := fits_of mb1 mn1 (by decide) (by decide)
theorem mf2 : Fits (entT 6 [] mT2) := fits_of mb2 mn2 (by decide) (by decide)
theorem mf3 : Fits (entT 6 [] mT3) := fits_of mb3 mn3 (by decide) (by decide)
theorem mf4 : Fits (entT 6 [] mT4) := fits_of mb4 mn4 (by decide) (by decide)
set_option maxRecDepth 100000 in
theorem mo1 : outM me1 me2 me3 = me5 := by kernel_rfl
set_option maxRecDepth 100000 in
theorem mc1 : conM me1 me2 me3 = [] := by kernel_rfl
set_option maxRecDepth 100000 in
theorem mo2 : outM me1 me2 me4 = me2 := by kernel_rfl
set_option maxRecDepth 100000 in
theorem mc2 : conM me1 me2 me4 = mcf := by kernel_rfl
theorem mm1 : mrgT me1 me2 me3 = mT5 ∧ mrgC me1 me2 me3 = [] ∧ mrgE me1 me2 me3 = 0 := by
  unfold mrgT mrgC mrgE
  rw [mo1, mb5, mc1]
  exact ⟨rfl, rfl, rfl⟩
theorem mm2 : mrgT me1 me2 me4 = mT2 ∧ mrgC me1 me2 me4 = mcf ∧ mrgE me1 me2 me4 = 0 := by
  unfold mrgT mrgC mrgE
  rw [mo2, mb2, mc2]
  exact ⟨rfl, rfl, rfl⟩
end Go.Proofs.YtjdignaddfhohaaDoor
namespace Go.SL
open Go.RowKit
/-- an iterator's contract: Ok: what may have been given so far; Fin: what may have been given when it is over; st0: what it is made of at the start (what it is while it gives, S, is kept, whatever it is) -/
def SeqSN {α : Type} (P : Program) (gf : Nat) (lb : Array Value) (encs : α → Array Value) (Ok Fin : List α → Prop) (st0 : List HProp) : Prop :=
  ∀ (lp : Nat) (J Jx : List α → List HProp) (W : World), Ent (st0 ++ J []) W →
    (∀ pre x W1 (S : List HProp), Ok (pre ++ [x]) → Ent (S ++ J pre) W1 → YieldAt Fence.wide 0 P lp (encs x) W1 fun e W' =>
      (e = .returned (.bool true) ∧ Ent (S ++ J (pre ++ [x])) W') ∨ (e = .returned (.bool false) ∧ Ent (Jx (pre ++ [x])) W')) →
    CallsIn Fence.wide 0 P gf (#[.func (.yield lp) #[] #[]] ++ lb) W fun e W' => (∃ v, e = .returned v) ∧ ((∃ pre, Fin pre ∧ Ent (J pre) W') ∨ ∃ pre, Ok pre ∧ Ent (Jx pre) W')
section
variable {P : Program}
theorem wpIn_rangeSLN {α β : Type} {g : Operand} {ps : Array Tmp} {assign body : Code} {Q : Exit → Act → World → Prop} {a : Act} {w : World} {gf : Nat} {lb : Array Value}
    (hg : a.eval g = .func (.func gf) #[] lb) (eg : ∀ args w, (callFunc gf args).run P w = .ok (.enter gf args) w)
    {encs : α → Array Value} {Ok Fin : List α → Prop} {st0 : List HProp} (hseq : SeqSN P gf lb encs Ok Fin st0) (hps : ∀ x, (encs x).size = ps.size)
    (I : List α → List HProp) (Ix : Code → List α → List HProp) (hE : Ent (st0 ++ I []) w) (a₁ : α → β → Act) (B : α → β → List HProp)
    (hassign : ∀ (lp : Nat) (x : α) (W : World) (L : List HProp) (K : Act → World → Prop), Ent L W → (∀ y W', Ent (B x y ++ L) W' → K (a₁ x y) W') →
      assign.wpIn (Fence.wide.inRound lp) 0 P (Exit.then K (fun _ _ _ => False)) { tmps := (ps.zip (encs x)).foldl (fun t (p, v) => t.setIfInBounds p v) a.tmps, defers := [] } W)
    (hbody : ∀ (lp : Nat) (pre : List α) (x : α) (y : β) (W : World) (L : List HProp), Ok (pre ++ [x]) → Ent (B x y ++ (I pre ++ L)) W → body.wpIn (Fence.wide.inRound lp) 0 P (roundSL I Ix L (pre ++ [x])) (a₁ x y) W)
    (hdone : ∀ (D : Nat) (pre : List α) (W : World), Fin pre → Ent (pt D (.deferred (some [])) :: I pre) W → Q .normal { a with defers := { target := .collected D, args := #[] } :: a.defers } W)
    (hstop : ∀ (D : Nat) (c : Code) (pre : List α) (W : World), Ok pre → Ent (pt D (.deferred (some [])) :: Ix c pre) W → c.wpIn Fence.wide 0 P Q { a with defers := { target := .collected D, args := #[] } :: a.defers } W) :
    (Code.rangeFunc g ps assign body).wpIn Fence.wide 0 P Q a w := by
  refine wpIn_rangeFunc ?_
  intro fn hfn
  obtain ⟨d, hd⟩ : ∃ d, d = w.heap.size := ⟨_, rfl⟩
  obtain ⟨rc, hrc⟩ : ∃ rc : LoopState → Option Code → Loop, rc = fun s p => { state := s, pending := p, fn, tmps := a.tmps, params := ps, assign, body, defers := d } := ⟨_, rfl⟩
  have h1 : Ent (pt (d + 1) (.loop (rc .ready none)) :: pt d (.deferred (some [])) :: (st0 ++ I [])) ((w.alloc (.deferred (some []))).alloc (.loop (rc .ready none))) := by
    have := (hE.alloc (.deferred (some []))).alloc (.loop (rc .ready none))
    rwa [World.size_alloc, ← hd] at this
  generalize hW1 : (w.alloc (.deferred (some []))).alloc (.loop (rc .ready none)) = W1 at h1
  refine ⟨d + 1, [{ target := .collected d, args := #[] }], W1, { target := .fn (.func gf) lb, args := #[.func (.yield (d + 1)) #[] #[]] }, W1, gf, #[.func (.yield (d + 1)) #[] #[]] ++ lb, W1, ?_, ?_, fun _ _ => trivial, ?_, fun h => (by cases h), ?_⟩
  · rw [← hW1, hrc, hd]; exact run_enterLoop_outer _ _ _ _ _
  · simp only [resolve, hg]
    simp [go_sem]
  · simp [invoke, go_sem, eg]
  · refine (hseq (d + 1) (fun pre => I pre ++ [pt (d + 1) (.loop (rc .ready none)), pt d (.deferred (some []))]) (fun pre => [ex fun c => Ix c pre ++ [pt (d + 1) (.loop (rc .done (some c))), pt d (.deferred (some []))]]) W1 (h1.perm perm_2') ?_).mono ?_
    · rintro pre x W S hpre hW
      replace hW := hW.perm perm_2
      have hy := run_yield (P := P) (args := encs x) hW.head (by rw [hrc]; exact hps x)
      rw [hrc] at hy
      refine ⟨fn, _, assign, body, hy, roundIn_of_wpIn trivial (hassign _ x W _ _ hW fun y W' hW' => ?_)⟩
      clear hy
      replace hW := hW'.perm List.perm_middle
      clear hW'
      refine ⟨_, run_beginRound hW.head (by rw [hrc]), ?_⟩
      have hb : Ent (pt (d + 1) (.loop { rc .ready none with state := .busy }) :: (B x y ++ (pt d (.deferred (some [])) :: (S ++ I pre)))) (W'.putObj (d + 1) (.loop { rc .ready none with state := .busy })) := hW.setMap 0 rfl
      replace hb := hb.perm (List.perm_middle (l₁ := B x y)).symm
      refine wpIn_mono (hbody _ pre x y _ (pt (d + 1) (.loop { rc .ready none with state := .busy }) :: pt d (.deferred (some [])) :: S) hpre (hb.perm (perm_3.symm.append_left _))) ?_
      rintro e a3 W3 hp
      cases e with
      | normal =>
        have h3 : Ent _ W3 := Ent.perm hp perm_3
        refine ⟨_, _, run_endRound none h3.head, .inl ⟨rfl, ?_⟩⟩
        have h4 := h3.setMap 0 (ob' := .loop { { rc .ready none with state := .busy } with state := if (none : Option Code).isNone then .ready else .done, pending := none }) rfl
        rw [hrc] at h4 ⊢
        exact Ent.perm h4 perm_2'
      | ret =>
        have h3 : Ent _ W3 := (Ent.perm hp perm_3)
        refine ⟨_, _, run_endRound (some .ret) h3.head, .inr ⟨rfl, ?_⟩⟩
        have h4 := h3.setMap 0 (ob' := .loop { { rc .ready none with state := .busy } with state := if (some Code.ret).isNone then .ready else .done, pending := some .ret }) rfl
        rw [hrc] at h4 ⊢
        exact Ent.pack (l := []) Code.ret (by rw [List.append_nil]; exact (Ent.perm h4 perm_2').drop)
      | exit id =>
        have h3 : Ent _ W3 := (Ent.perm hp perm_3)
        refine ⟨_, _, run_endRound (some (.exit id)) h3.head, .inr ⟨rfl, ?_⟩⟩
        have h4 := h3.setMap 0 (ob' := .loop { { rc .ready none with state := .busy } with state := if (some (Code.exit id)).isNone then .ready else .done, pending := some (.exit id) }) rfl
        rw [hrc] at h4 ⊢
        exact Ent.pack (l := []) (Code.exit id) (by rw [List.append_nil]; exact (Ent.perm h4 perm_2').drop)
      | goto t => exact hp.elim
      | panic ch => exact hp.elim
      | outgrown => exact hp.elim
    · rintro e W2 ⟨⟨v, rfl⟩, ⟨pre, hpre, hJ⟩ | ⟨pre, hpre, hJ⟩⟩
      · have h3 := Ent.perm hJ (perm_2 (l := []))
        refine ⟨none, _, by have := run_endLoop (P := P) h3.head (by rw [hrc]; simp); rw [hrc] at this; exact this, ?_⟩
        have h4 := h3.setMap 0 (ob' := .loop { rc .ready none with state := .exhausted }) rfl
        rw [hrc] at h4
        exact hdone d pre _ hpre h4.tail
      · obtain ⟨c, hJ⟩ := hJ.unpack
        rw [List.append_nil] at hJ
        have h3 := Ent.perm hJ (perm_2 (l := []))
        refine ⟨some c, _, by have := run_endLoop (P := P) h3.head (by rw [hrc]; simp); rw [hrc] at this; exact this, ?_⟩
        have h4 := h3.setMap 0 (ob' := .loop { rc .done (some c) with state := .exhausted }) rfl
        rw [hrc] at h4
        exact hstop d c pre _ hpre h4.tail
end
end Go.SL
namespace Go.Proofs.YtjdignaddfhohaaDoor
open Go.RowKit Go.SL

shelf_lay Lays.n148 Nm 148 at Tryd as Tryd.lays148
theorem lastIndex_any (s : List UInt8) (hs : s.length ≤ 1000000) (w : World) : Calls Tryd.prog 38 #[.string ⟨s.toArray⟩, .string ⟨#[47]⟩] w fun e w' => e = .returned (.int .i64 (lastS s)) ∧ w' = w :=
  Any.strings_LastIndex_one Tryd.lays148 ⟨s.toArray⟩ ⟨#[47]⟩ rfl (show s.toArray.size < _ by rw [List.size_toArray]; omega) w

theorem wide_fnA (f : FuncId) : Fence.wide.fn f = True := rfl
theorem wide_depthA : Fence.wide.depth = none := rfl
attribute [local go_sem] Oper.semAt_some wide_fnA wide_depthA
set_option maxRecDepth 100000 in
set_option maxHeartbeats 4000000 in
theorem above_iter (p : List UInt8) (hp : p.length ≤ 1000000) (b1 : Nat) :
    SeqSN Tryd.prog 37 #[.pointer (some ⟨b1, 0, none⟩)] (fun x : List UInt8 => #[.string ⟨x.toArray⟩]) (fun pre => pre <+: abovL p) (fun pre => pre = abovL p) [pt b1 (.cells #[.string ⟨p.toArray⟩] 9)] := by
  intro lp J Jx W hE hY
  refine callsIn_of_wp Tryd.func37 rfl trivial ?_ rfl
  simp only [Tryd.ntmps37, List.size_toArray, List.length_cons, List.length_nil, Nat.reduceAdd, Nat.reduceSub, Array.replicate_succ, Array.replicate_zero, List.push_toArray, List.append_toArray, List.nil_append, List.cons_append]
  have HL := SL.hid (fun (s : List UInt8) (hs : s.length ≤ 1000000) (w : World) => lastIndex_any s hs w)
  have Hp := SL.hid hp
  simp only [List.cons_append, List.nil_append] at hE
  have k0 : W.cell? ⟨b1, 0, none⟩ = some (.string ⟨p.toArray⟩) := hE.cell 0 rfl 0
  gi_wp2_with (gi_at_call 38; refine (callsIn_wide.2 (HL.out p Hp.out _)).mono ?_; rintro e w' ⟨rfl, rfl⟩)
  clear k0
  gi_loopw [3] (fun i wr => ∃ pre cur, abovL p = pre ++ abovL cur ∧ cur.length ≤ 1000000 ∧ i = .int .i64 (lastS cur) ∧ Ent (pt b1 (.cells #[.string ⟨cur.toArray⟩] 9) :: J pre) wr) (fun i _ => (intOf i).toNat)
  case atStart => exact ⟨[], p, rfl, Hp.out, rfl, hE⟩
  case round =>
    clear hE
    obtain ⟨pre, cur, hc, hcl, rfl, hE⟩ := hrel
    have hst := above_step (p := cur)
    by_cases h0 : 0 < lastS cur
    · obtain ⟨k, hk, hki⟩ : ∃ k : Nat, k < cur.length ∧ lastS cur = k := by
        rcases last_spec cur with ⟨h, _⟩ | ⟨i, hi, h, _⟩
        · omega
        · exact ⟨i, hi, h⟩
      rw [if_pos h0, hki, Int.toNat_natCast] at hst
      have hlast : lastS (cur.take k) < k := by
        rcases last_spec (cur.take k) with ⟨h, _⟩ | ⟨i, hi, h, _⟩
        · omega
        · rw [List.length_take] at hi; omega
      rw [hki] at h0
      have Hlast := SL.hid hlast
      have hpre : pre ++ [cur.take k] <+: abovL p := by rw [hc, hst]; exact ⟨abovL (cur.take k), by simp⟩
      have Hc := SL.hid (show abovL p = (pre ++ [cur.take k]) ++ abovL (cur.take k) by rw [hc, hst]; simp)
      have Hpre := SL.hid hpre
      have hs1 := fun w => run_slice_sHi (P := Tryd.prog) Tryd.underlying9 (bs := cur) (k := k) (by omega) w
      have hwk : wrap64 (k : Int) = (k : Int) := by unfold wrap64; omega
      have hex : (⟨cur.toArray⟩ : ByteArray).extract 0 k = ⟨(cur.take k).toArray⟩ := by rw [extract_mk]; simp
      have hkl : (k : Int) ≤ (cur.length : Int) := by omega
      have hkn : decide ((k : Int) < 0) = false := decide_eq_false (by omega)
      have hgt : decide ((0 : Int) < (k : Int)) = true := decide_eq_true (by omega)
      have hgt2 : decide (0 < k) = true := decide_eq_true (by omega)
      have hgt3 : 0 < k := by omega
      have hx : (cur.take k).length ≤ 1000000 := by rw [List.length_take]; omega
      have Hx := SL.hid hx
      rw [hki]
      clear hst hc hlast hpre hki hx hcl h0
      have Hk := SL.hid hk
      clear hk
      generalize cur.take k = x at *
      gi_wp2_with (first
        | (refine wplIn_one rfl rfl rfl (by intro c h; cases h) (by rintro ⟨_, _, ⟨_, h⟩, _⟩; cases h) ?_; refine ldX hE ?_; refine wplIn_nil ?_)
        | (refine wplIn_one rfl rfl rfl (by intro c h; cases h) (by rintro ⟨_, _, ⟨_, h⟩, _⟩; cases h) ?_; refine stX hE ?_; clear hE; intro w3 hE; obtain ⟨fn, tmps, assign, body, hy, hR⟩ := hY pre x w3 [pt b1 (.cells #[.string ⟨x.toArray⟩] 9)] Hpre.out hE; refine wplIn_nil ?_))
      refine hR.mono ?_
      rintro e W3 (⟨rfl, hE3⟩ | ⟨rfl, hE3⟩)
      · simp only [List.cons_append, List.nil_append] at hE3
        clear hE
        gi_wp2_with (first
          | (refine wplIn_one rfl rfl rfl (by intro c h; cases h) (by rintro ⟨_, _, ⟨_, h⟩, _⟩; cases h) ?_; refine ldX hE3 ?_; refine wplIn_nil ?_)
          | (gi_at_call 38; refine (callsIn_wide.2 (HL.out x Hx.out _)).mono ?_; rintro e w' ⟨rfl, rfl⟩))
        go_roundw
        case rel => exact ⟨pre ++ [x], x, Hc.out, Hx.out, rfl, hE3⟩
        case measure =>
          have := Hlast.out
          simp only [intOf]
          omega
      · gi_wp2
        refine bodyPost_ret (results_none rfl _ _ _) rfl ?_
        exact ⟨⟨_, rfl⟩, .inr ⟨_, Hpre.out, hE3⟩⟩
    · rw [if_neg h0] at hst
      have hgt : decide (0 < lastS cur) = false := decide_eq_false h0
      have Hc := SL.hid (show abovL p = pre by rw [hc, hst]; simp)
      clear hst hc
      generalize lastS cur = lc at *
      gi_wp2
      go_end0
      exact ⟨⟨_, rfl⟩, .inl (by rw [Hc.out]; exact hE.tail)⟩
theorem above_any (p : List UInt8) {l : List HProp} {w : World} (hE : Ent l w) :
    Calls Tryd.prog 23 #[.string ⟨p.toArray⟩] w (Ret fun v w' => ∃ b1, v = .func (.func 37) #[] #[.pointer (some ⟨b1, 0, none⟩)] ∧ Ent (pt b1 (.cells #[.string ⟨p.toArray⟩] 9) :: l) w') := by
  go_enter Tryd.func23, Tryd.ntmps23
  go_wp2_with (first
    | go_skip
    | (refine bxX hE ?_; clear hE; intro b1 w hE))
  go_ret
  exact ⟨_, rfl, b1, rfl, hE⟩
end Go.Proofs.YtjdignaddfhohaaDoor
namespace Go.Proofs.YtjdignaddfhohaaDoor
open Go.RowKit Go.SL

theorem wide_fnK (f : FuncId) : Fence.wide.fn f = True := rfl
theorem wide_depthK : Fence.wide.depth = none := rfl
attribute [local go_sem] Oper.semAt_some wide_fnK wide_depthK
abbrev keysF (b1 : Nat) : Value := .func (.func 36) #[] #[.pointer (some ⟨b1, 0, none⟩)]
theorem Keys_any {l : List HProp} {w : World} {r : Nat} (hE : Ent l w) :
    Calls Tryd.prog 21 #[.map (some r)] w (Ret fun v w' => ∃ b1, v = keysF b1 ∧ Ent (pt b1 (.cells #[.map (some r)] 60) :: l) w') := by
  go_enter Tryd.func21, Tryd.ntmps21
  go_wp2_with (first
    | go_skip
    | (refine bxX hE ?_; clear hE; intro b1 w hE))
  go_ret
  exact ⟨_, rfl, b1, rfl, hE⟩
abbrev someOf (kvs : List (List UInt8 × Value)) (pre : List (List UInt8)) : Prop := ∃ left : List (List UInt8 × Value), (pre ++ left.map Prod.fst).Perm (kvs.map Prod.fst)
set_option maxRecDepth 100000 in
set_option maxHeartbeats 4000000 in
theorem keys_iter (kvs : List (List UInt8 × Value)) (r b1 : Nat) :
    SeqSN Tryd.prog 36 #[.pointer (some ⟨b1, 0, none⟩)] (fun x : List UInt8 => #[.string ⟨x.toArray⟩]) (someOf kvs) (fun pre => pre.Perm (kvs.map Prod.fst)) [pt b1 (.cells #[.map (some r)] 60), mapK r kS kvs] := by
  intro lp J Jx W hE hY
  refine callsIn_of_wp Tryd.func36 rfl trivial ?_ rfl
  simp only [Tryd.ntmps36, List.size_toArray, List.length_cons, List.length_nil, Nat.reduceAdd, Nat.reduceSub, Array.replicate_succ, Array.replicate_zero, List.push_toArray, List.append_toArray, List.nil_append, List.cons_append]
  simp only [List.cons_append, List.nil_append] at hE
  gi_wp2_with (first
    | (refine wplIn_one rfl rfl rfl (by intro c h; cases h) (by rintro ⟨_, _, ⟨_, h⟩, _⟩; cases h) ?_; refine ldX hE ?_; refine wplIn_nil ?_)
    | (refine wplIn_one rfl rfl rfl (by intro c h; cases h) (by rintro ⟨_, _, ⟨_, h⟩, _⟩; cases h) ?_; (with_reducible (show Go.wpList _ _ _ (Go.Oper.mk _ (.range _ _) _ _ _ _ :: _) _ _)); refine wpl_rangeK hE 1 rfl rfl rfl rfl Tryd.underlying60 ?_; clear hE; intro it w1 hE; simp only [List.set_cons_succ, List.set_cons_zero] at hE; refine wplIn_nil ?_))
  gi_loopw [3] (fun _ wr => ∃ pre left cur, (pre ++ left.map Prod.fst).Perm (kvs.map Prod.fst) ∧ Ent (pt b1 (.cells #[.map (some r)] 60) :: itK r it kS kvs left cur :: J pre) wr) (fun _ wr => leftN r it wr)
  case atStart => exact ⟨[], kvs, none, List.Perm.refl _, hE⟩
  case round =>
    clear hE
    obtain ⟨pre, left, cur, hp, hE⟩ := hrel
    have Hp := SL.hid hp
    have Hn := SL.hid (leftN_eq hE 1 rfl)
    clear hp
    cases left with
    | nil =>
      gi_wp2_with (first
        | (refine wplIn_one rfl rfl rfl (by intro c h; cases h) (by rintro ⟨_, _, ⟨_, h⟩, _⟩; cases h) ?_; (with_reducible (show Go.wpList _ _ _ (Go.Oper.mk _ (.next _ _) _ _ _ _ :: _) _ _)); refine wpl_nextK hE 1 rfl rfl rfl rfl (fun _ => ?_) (fun A p B w' h => absurd h (by simp)); refine wplIn_nil ?_))
      go_end0
      exact ⟨⟨_, rfl⟩, .inl ⟨pre, by simpa using Hp.out, hE.tail.tail⟩⟩
    | cons q left =>
      gi_wp2_with (first
        | (refine wplIn_one rfl rfl rfl (by intro c h; cases h) (by rintro ⟨_, _, ⟨_, h⟩, _⟩; cases h) ?_; (with_reducible (show Go.wpList _ _ _ (Go.Oper.mk _ (.next _ _) _ _ _ _ :: _) _ _)); refine wpl_nextK hE 1 rfl rfl rfl rfl (fun h => absurd h (by simp)) ?_; clear hE; rintro A ⟨pk, pv⟩ B w3 hl hE; simp only [List.set_cons_succ, List.set_cons_zero] at hE; have hen := run_entryK (P := Tryd.prog) hE 1 rfl; have Hl := SL.hid hl; clear hl; have HP : Go.RowKit.Hid ((pre ++ [pk] ++ (A ++ B).map Prod.fst).Perm (kvs.map Prod.fst)) := SL.hid (by have h := Hp.out; rw [Hl.out, List.map_append, List.map_cons] at h; exact (by rw [List.map_append, List.append_assoc]; exact (List.Perm.append_left pre (by simpa using List.perm_middle.symm)).trans h)); obtain ⟨fn, tmps, assign, body, hy, hR⟩ := hY pre pk w3 [pt b1 (.cells #[.map (some r)] 60), itK r it kS kvs (A ++ B) (some (pk, pv))] ⟨A ++ B, HP.out⟩ hE; refine wplIn_nil ?_))
      refine hR.mono ?_
      rintro e W3 (⟨rfl, hE3⟩ | ⟨rfl, hE3⟩)
      · clear hE hen
        simp only [List.cons_append, List.nil_append] at hE3
        gi_wp2
        go_roundw
        case rel => exact ⟨pre ++ [pk], A ++ B, some (pk, pv), HP.out, hE3⟩
        case measure =>
          rw [leftN_eq hE3 1 rfl, Hn.out, Hl.out]
          simp
      · gi_wp2
        refine bodyPost_ret (results_none rfl _ _ _) rfl ?_
        exact ⟨⟨_, rfl⟩, .inr ⟨_, ⟨A ++ B, HP.out⟩, hE3⟩⟩

def ksI (b2 : Nat) (l : List HProp) (pre : List (List UInt8)) : List HProp :=
  (ex fun z : Option Addr × Nat => [pt b2 (.cells #[.slice z.1 pre.length z.2] 62), rowS z.1 z.2 pre]) :: l
theorem some_len {kvs : List (List UInt8 × Value)} {pre : List (List UInt8)} (h : someOf kvs pre) : pre.length ≤ kvs.length := by
  obtain ⟨left, h⟩ := h
  have := h.length_eq
  simp only [List.length_append, List.length_map] at this
  omega
set_option maxRecDepth 100000 in
set_option maxHeartbeats 4000000 in
theorem AppendSeq_keys {kvs : List (List UInt8 × Value)} (hn : kvs.length ≤ 1000000) {r b1 : Nat} {l : List HProp} {w : World} (hE : Ent (pt b1 (.cells #[.map (some r)] 60) :: mapK r kS kvs :: l) w) :
    Calls Tryd.prog 46 #[.slice none 0 0, keysF b1] w (Ret fun v w' => ∃ ao c ks, v = .slice ao ks.length c ∧ ks.Perm (kvs.map Prod.fst) ∧ Ent (rowS ao c ks :: l) w') := by
  refine calls_of_marks Tryd.func46 rfl ?_
  simp only [Tryd.ntmps46, List.size_toArray, List.length_cons, List.length_nil, Nat.reduceAdd, Nat.reduceSub, Array.replicate_succ, Array.replicate_zero, List.push_toArray, List.append_toArray, List.nil_append, List.cons_append]
  go_wp2_with (first
    | go_skip
    | (refine bxX hE ?_; clear hE; intro b2 w hE))
  refine wpIn_wide.1 (wpIn_rangeSLN (β := Unit) (gf := 36) rfl (enters_of Tryd.func36 (by kernel_rfl) rfl) (keys_iter kvs r b1) (fun _ => rfl) (ksI b2 l) (fun _ _ => [ex fun _ : False => []]) ?e0
    (fun (x : List UInt8) (_ : Unit) => { tmps := #[.slice none 0 0, keysF b1, .pointer (some ⟨b2, 0, none⟩), undef, .slice none 0 0, .string ⟨x.toArray⟩, keysF b1, .string ⟨x.toArray⟩, undef, undef, undef, undef, undef], defers := [] })
    (fun _ _ => []) ?assign ?body ?done ?stop)
  case e0 =>
    have h := (hE.nil 9 1).front 1 rfl
    have h2 := Ent.pack (f := fun z : Option Addr × Nat => [pt b2 (.cells #[.slice z.1 ([] : List (List UInt8)).length z.2] 62), rowS z.1 z.2 []]) (none, 0) h
    exact (h2.front 2 rfl).front 2 rfl
  case assign =>
    intro lp x W L KK hL hKK
    gi_wp2
    exact hKK () _ hL
  case body =>
    intro lp pre x _ W L hpre hW
    obtain ⟨⟨ao, c⟩, hW'⟩ := (hW.front 0 rfl).unpack
    replace hW : Ent (pt b2 (.cells #[.slice ao pre.length c] 62) :: rowS ao c pre :: (l ++ L)) W := hW'
    clear hW'
    have hpl : pre.length + 1 ≤ 1000000 := by have := some_len hpre; simp at this; omega
    gi_wp2_with (first
      | (refine wplIn_one rfl rfl rfl (by intro c h; cases h) (by rintro ⟨_, _, h⟩; exact h) ?_; refine ldX hW ?_; refine wplIn_nil ?_)
      | (refine wplIn_one rfl rfl rfl (by intro c h; cases h) (by rintro ⟨_, _, h⟩; exact h) ?_; (with_reducible (show Go.wpList _ _ _ (Go.Oper.mk _ (.call { callee := .builtin .append, args := _, argTypes := _ }) _ _ _ _ :: _) _ _)); have hE9 := hW.alloc (.cells #[.string ⟨x.toArray⟩] 9); refine wpl_appendG hE9 2 rfl rfl rfl rfl rfl Tryd.underlying62 info_str (by decide) (m := 1) (news := [strv x]) (reads_pt hE9 0 rfl (off := 0) (fun j u hu => by rw [Nat.zero_add, List.getElem?_toArray]; exact hu)) rfl (by simp [strv, Value.oneCell']) (by omega) (by omega) ?_; clear hE9 hW; intro ao' c' w6 hW; simp only [List.set_cons_succ, List.set_cons_zero] at hW; refine wplIn_nil ?_)
      | (refine wplIn_one rfl rfl rfl (by intro c h; cases h) (by rintro ⟨_, _, h⟩; exact h) ?_; refine stX hW ?_; clear hW; intro w hW; refine wplIn_nil ?_))
    have hF := hW.tail
    have e1 : (pre ++ [x]).length = pre.length + 1 := by simp
    have e2 : (pre ++ [x]).map strv = pre.map strv ++ [strv x] := by simp
    exact Ent.pack (f := fun z : Option Addr × Nat => [pt b2 (.cells #[.slice z.1 (pre ++ [x]).length z.2] 62), rowS z.1 z.2 (pre ++ [x])]) (ao', c') (by simp only [rowS, e1, e2]; exact hF)
  case done =>
    intro D pre W hpre hW
    obtain ⟨⟨ao, c⟩, hW'⟩ := (hW.front 1 rfl).unpack
    replace hW : Ent (pt b2 (.cells #[.slice ao pre.length c] 62) :: rowS ao c pre :: pt D (.deferred (some [])) :: l) W := hW'
    clear hW'
    go_wp2_with (first
      | go_skip
      | (refine ldX hW ?_))
    refine post_mark rfl (hW.front 2 rfl) (fun w' hw' => ⟨_, results_tmp rfl _ _ _, _, rfl, ao, c, pre, rfl, hpre, hw'.tail⟩)
  case stop =>
    intro D c pre W hpre hW
    obtain ⟨h, _⟩ := (hW.front 1 rfl).unpack
    exact h.elim
theorem Collect_keys {kvs : List (List UInt8 × Value)} (hn : kvs.length ≤ 1000000) {r b1 : Nat} {l : List HProp} {w : World} (hE : Ent (pt b1 (.cells #[.map (some r)] 60) :: mapK r kS kvs :: l) w) :
    Calls Tryd.prog 34 #[keysF b1] w (Ret fun v w' => ∃ ao c ks, v = .slice ao ks.length c ∧ ks.Perm (kvs.map Prod.fst) ∧ Ent (rowS ao c ks :: l) w') := by
  go_enter Tryd.func34, Tryd.ntmps34
  go_wp2_with (first
    | go_skip
    | (go_at_call 46; have H := AppendSeq_keys hn hE; refine H.mono ?_; clear H hE; rintro e w2 ⟨v, rfl, ao, c, ks, rfl, hp, hE⟩))
  go_ret
  exact ⟨_, rfl, ao, c, ks, rfl, hp, hE⟩
end Go.Proofs.YtjdignaddfhohaaDoor
namespace Go.Proofs.YtjdignaddfhohaaDoor
open Go.RowKit Go.SL

/-- the order of two paths -/
def ordP (p q : List UInt8) : Int := if lessP p q = true then -1 else if lessP q p = true then 1 else 0
theorem ordP_lt {p q : List UInt8} : ordP p q = -1 ↔ lessP p q = true := by
  unfold ordP
  constructor
  · intro h
    split at h
    · assumption
    · split at h <;> cases h
  · intro h
    rw [if_pos h]
theorem ordP_eq {p q : List UInt8} : ordP p q = 0 ↔ p = q := by
  unfold ordP
  constructor
  · intro h
    split at h
    · cases h
    · next h1 =>
      split at h
      · cases h
      · next h2 =>
        apply Classical.byContradiction
        intro hne
        exact h2 (lessP_total hne (by simpa using h1))
  · rintro rfl
    rw [lessP_irrefl]
    rfl
theorem ordP_gt {p q : List UInt8} : ordP p q = 1 ↔ lessP q p = true := by
  unfold ordP
  constructor
  · intro h
    split at h
    · cases h
    · split at h
      · assumption
      · cases h
  · intro h
    rw [if_neg (by rw [lessP_asymm h]; simp), if_pos h]
/-- alike so far, then not -/
theorem lessL_at {a b : List (List UInt8)} {i : Nat} (h : a.take i = b.take i) (ha : i < a.length) (hb : i < b.length) : lessL a b = (Op.bytesLess a[i] b[i] || (a[i] == b[i] && lessL (a.drop (i + 1)) (b.drop (i + 1)))) := by
  have e1 : a = a.take i ++ a[i] :: a.drop (i + 1) := by rw [List.getElem_cons_drop, List.take_append_drop]
  have e2 : b = b.take i ++ b[i] :: b.drop (i + 1) := by rw [List.getElem_cons_drop, List.take_append_drop]
  have e3 : lessL a b = lessL (a.take i ++ a[i] :: a.drop (i + 1)) (a.take i ++ b[i] :: b.drop (i + 1)) := by
    conv => lhs; rw [e1, e2]
    rw [h]
  rw [e3, lessL_app, lessL]
theorem lessL_end {a b : List (List UInt8)} (h : a.take (min a.length b.length) = b.take (min a.length b.length)) : lessL a b = decide (a.length < b.length) := by
  rcases Nat.lt_or_ge a.length b.length with h1 | h1
  · rw [Nat.min_eq_left (by omega), List.take_length] at h
    have e : b = a ++ b.drop a.length := by
      conv => lhs; rw [← List.take_append_drop a.length b]
      rw [← h]
    have h2 := lessL_app a [] (b.drop a.length)
    rw [List.append_nil, ← e] at h2
    rw [h2, decide_eq_true h1]
    cases hd : b.drop a.length with
    | nil => have := List.drop_eq_nil_iff.1 hd; omega
    | cons x r => rfl
  · rw [Nat.min_eq_right h1, List.take_length] at h
    have e : a = b ++ a.drop b.length := by
      conv => lhs; rw [← List.take_append_drop b.length a]
      rw [h]
    have h2 := lessL_app b (a.drop b.length) []
    rw [List.append_nil, ← e] at h2
    rw [h2, decide_eq_false (by omega), lessL_nil]
/-- put in its place, as it is found by steps -/
theorem insP_at : ∀ {out : List (List UInt8)} {k : List UInt8} {i : Nat}, RiseP out → i ≤ out.length → (∀ x ∈ out.take i, lessP x k = true ∨ x = k) → (∀ h : i < out.length, lessP k out[i] = true) →
    insP k out = if k ∈ out.take i then out else out.take i ++ k :: out.drop i
  | [], k, i, _, hi, _, _ => by
    obtain rfl : i = 0 := by simpa using hi
    rfl
  | x :: r, k, 0, _, _, _, h2 => by
    have := h2 (by simp)
    simp only [List.getElem_cons_zero] at this
    rw [insP, if_pos this]
    simp
  | x :: r, k, i + 1, hr, hi, h1, h2 => by
    obtain ⟨hr1, hr2⟩ := List.pairwise_cons.1 hr
    have hx := h1 x (by simp)
    have hkx : lessP k x = false := by
      rcases hx with h | rfl
      · exact lessP_asymm h
      · exact lessP_irrefl _
    rw [insP, if_neg (by rw [hkx]; simp)]
    by_cases hxk : x = k
    · rw [if_pos hxk, if_pos (by simp [hxk])]
    · rw [if_neg hxk, insP_at (i := i) hr2 (by simpa using hi) (fun y hy => h1 y (by simp [hy])) (fun h => by have := h2 (by simpa using h); simpa using this)]
      simp only [List.take_succ_cons, List.drop_succ_cons, List.mem_cons]
      by_cases hk : k ∈ r.take i
      · rw [if_pos hk, if_pos (.inr hk)]
      · rw [if_neg hk, if_neg (by rintro (h | h); exact hxk h.symm; exact hk h)]
        rfl
end Go.Proofs.YtjdignaddfhohaaDoor
namespace Go.Proofs.YtjdignaddfhohaaDoor
open Go.RowKit Go.SL

def ordB (a b : List UInt8) : Int := if Op.bytesLess a b = true then -1 else if Op.bytesLess b a = true then 1 else 0
def ordL (a b : List (List UInt8)) : Int := if lessL a b = true then -1 else if lessL b a = true then 1 else 0
theorem nan_any (a : List UInt8) (w : World) : Calls Tryd.prog 51 #[.string ⟨a.toArray⟩] w fun e w' => e = .returned (.bool false) ∧ w' = w := by
  go_enter Tryd.func51, Tryd.ntmps51
  go_wp2
  go_ret
  exact ⟨rfl, rfl⟩
theorem cmpS_any (a b : List UInt8) (w : World) : Calls Tryd.prog 39 #[.string ⟨a.toArray⟩, .string ⟨b.toArray⟩] w fun e w' => e = .returned (.int .i64 (ordB a b)) ∧ w' = w := by
  have hN := SL.hid nan_any
  cases h1 : Op.bytesLess a b with
  | true =>
    have R := SL.hid (show ordB a b = -1 by rw [ordB, if_pos h1])
    go_enter Tryd.func39, Tryd.ntmps39
    go_wp2_with (first | go_skip | (go_at_call 51; refine (hN.out _ _).mono ?_; rintro e w2 ⟨rfl, rfl⟩))
    go_ret
    exact ⟨by rw [R.out]; rfl, rfl⟩
  | false =>
    cases h2 : (a == b) with
    | true =>
      have R := SL.hid (show ordB a b = 0 by
        have e : a = b := by simpa using h2
        subst e
        rw [ordB, bl_irrefl]; rfl)
      go_enter Tryd.func39, Tryd.ntmps39
      go_wp2_with (first | go_skip | (go_at_call 51; refine (hN.out _ _).mono ?_; rintro e w2 ⟨rfl, rfl⟩))
      go_ret
      exact ⟨by rw [R.out]; rfl, rfl⟩
    | false =>
      have R := SL.hid (show ordB a b = 1 by
        have hne : a ≠ b := by intro e; rw [e] at h2; simp at h2
        rw [ordB, if_neg (by rw [h1]; simp), if_pos (bl_total hne h1)])
      go_enter Tryd.func39, Tryd.ntmps39
      go_wp2_with (first | go_skip | (go_at_call 51; refine (hN.out _ _).mono ?_; rintro e w2 ⟨rfl, rfl⟩))
      go_ret
      exact ⟨by rw [R.out]; rfl, rfl⟩
theorem ordL_nil {a b : List (List UInt8)} {k : Nat} (h : a.take k = b.take k) (ha : k < a.length) (hb : k = b.length) : ordL a b = 1 := by
  subst hb
  have e : b.take (min b.length a.length) = a.take (min b.length a.length) := by rw [Nat.min_eq_left (by omega)]; exact h.symm
  have h1 := lessL_end e
  rw [decide_eq_true ha] at h1
  have h2 : lessL a b = false := by
    cases h3 : lessL a b with
    | false => rfl
    | true => have := lessL_trans h1 h3; rw [lessL_irrefl] at this; cases this
  rw [ordL, if_neg (by rw [h2]; simp), if_pos h1]
theorem ordL_at {a b : List (List UInt8)} {k : Nat} (h : a.take k = b.take k) (ha : k < a.length) (hb : k < b.length) (hc : ordB a[k] b[k] ≠ 0) : ordL a b = ordB a[k] b[k] := by
  have h1 := lessL_at h ha hb
  have h2 := lessL_at h.symm hb ha
  unfold ordB at hc ⊢
  by_cases e1 : Op.bytesLess a[k] b[k] = true
  · rw [if_pos e1]
    rw [e1, Bool.true_or] at h1
    rw [ordL, if_pos h1]
  · rw [if_neg e1] at hc ⊢
    by_cases e2 : Op.bytesLess b[k] a[k] = true
    · rw [if_pos e2]
      rw [e2, Bool.true_or] at h2
      have h3 : lessL a b = false := by
        cases h4 : lessL a b with
        | false => rfl
        | true => have := lessL_trans h2 h4; rw [lessL_irrefl] at this; cases this
      rw [ordL, if_neg (by rw [h3]; simp), if_pos h2]
    · rw [if_neg e2] at hc
      exact absurd rfl hc
theorem ordB_zero {a b : List UInt8} (h : ordB a b = 0) : a = b := by
  unfold ordB at h
  split at h
  · cases h
  · next h1 =>
    split at h
    · cases h
    · next h2 =>
      apply Classical.byContradiction
      intro hne
      exact h2 (bl_total hne (by simpa using h1))
theorem ordL_all {a b : List (List UInt8)} (h : a.take a.length = b.take a.length) (hl : a.length ≤ b.length) : ordL a b = if a.length < b.length then -1 else 0 := by
  have e : a.take (min a.length b.length) = b.take (min a.length b.length) := by rw [Nat.min_eq_left hl]; exact h
  have h1 := lessL_end e
  by_cases hlt : a.length < b.length
  · rw [if_pos hlt]
    rw [decide_eq_true hlt] at h1
    rw [ordL, if_pos h1]
  · rw [if_neg hlt]
    have : a = b := by
      rw [List.take_length] at h
      rw [h, List.take_of_length_le (by omega)]
    subst this
    rw [ordL, lessL_irrefl]
    rfl
def ScRel (a b : List (List UInt8)) (E : World → Prop) (i : Value) (wr : World) : Prop := ∃ k : Nat, k ≤ a.length ∧ k ≤ b.length ∧ i = .int .i64 k ∧ a.take k = b.take k ∧ E wr
theorem str_at2 {w : World} {ao : Option Addr} {c : Nat} {xs : List (List UInt8)} (h : reads (.slice ao xs.length c) xs.length (xs.map strv) w) {k : Nat} (hk : k < xs.length) : ∃ b o, ao = some ⟨b, o, none⟩ ∧ w.cell? ⟨b, o + k, none⟩ = some (strv xs[k]) := by
  obtain ⟨b, o, rfl, hc⟩ := reads_form h (by omega) (by rw [List.length_map]; omega)
  exact ⟨b, o, rfl, hc k _ (by rw [List.getElem?_map, List.getElem?_eq_getElem hk]; rfl)⟩
set_option maxRecDepth 100000 in
set_option maxHeartbeats 2000000 in
theorem cmpL_gen {a b : List (List UInt8)} (hla : a.length ≤ 1000000) (hlb : b.length ≤ 1000000) {ao bo : Option Addr} {c d : Nat} {E : World → Prop} {w : World} (ha : ∀ w, E w → reads (.slice ao a.length c) a.length (a.map strv) w) (hb : ∀ w, E w → reads (.slice bo b.length d) b.length (b.map strv) w) (hE : E w) :
    Calls Tryd.prog 25 #[.slice ao a.length c, .slice bo b.length d] w (Ret fun v w' => v = .int .i64 (ordL a b) ∧ E w') := by
  have hC := SL.hid cmpS_any
  go_enter Tryd.func25, Tryd.ntmps25
  go_wp2
  go_loopw [11] (fun i wr => ScRel a b E i wr) (fun i _ => a.length - (intOf i).toNat)
  case atStart => exact ⟨0, Nat.zero_le _, Nat.zero_le _, rfl, rfl, hE⟩
  case round =>
    clear hE
    obtain ⟨k, hka, hkb, rfl, hpre, hE⟩ := hrel
    by_cases hlt : k < a.length
    · obtain ⟨ba, oa, rfl, hca⟩ := str_at2 (ha _ hE) hlt
      by_cases hltb : k < b.length
      · obtain ⟨bb, ob, rfl, hcb⟩ := str_at2 (hb _ hE) hltb
        have Hat := SL.hid (ordL_at hpre hlt hltb)
        have hst : a.take (k + 1) = b.take (k + 1) ∨ ordB a[k] b[k] ≠ 0 := by
          by_cases h0 : ordB a[k] b[k] = 0
          · left
            rw [List.take_succ_eq_append_getElem hlt, List.take_succ_eq_append_getElem hltb, hpre, ordB_zero h0]
          · exact .inr h0
        have Hst := SL.hid hst
        have hlbi : decide ((b.length : Int) ≤ (k : Int)) = false := decide_eq_false (by omega)
        have HC := SL.hid (cmpS_any a[k] b[k])
        simp only [strv] at hca hcb
        clear hst hpre
        generalize a[k] = x at *
        generalize b[k] = y at *
        obtain ⟨o, ho⟩ : ∃ o, ordB x y = o := ⟨_, rfl⟩
        rw [ho] at HC Hst Hat
        clear ho
        cases h0 : (o != 0) with
        | true =>
          have R := SL.hid (Hat.out (by simpa using h0))
          go_wp2_with (first | go_skip | (go_at_call 39; refine (HC.out _).mono ?_; rintro e w2 ⟨rfl, rfl⟩))
          go_ret
          exact ⟨_, rfl, by rw [R.out]; rfl, hE⟩
        | false =>
          go_wp2_with (first | go_skip | (go_at_call 39; refine (HC.out _).mono ?_; rintro e w2 ⟨rfl, rfl⟩))
          go_roundw
          case rel => exact ⟨k + 1, hlt, hltb, by first | rfl | simp, Hst.out.resolve_right (by simpa using h0), hE⟩
          case measure => simp [intOf] <;> omega
      · have R := SL.hid (ordL_nil hpre hlt (by omega))
        have hlbi : decide ((b.length : Int) ≤ (k : Int)) = true := decide_eq_true (by omega)
        go_wp2
        go_ret
        exact ⟨_, rfl, by rw [R.out]; rfl, hE⟩
    · obtain rfl : k = a.length := by omega
      have R := SL.hid (ordL_all hpre hkb)
      by_cases hl : a.length < b.length
      · rw [if_pos hl] at R
        go_wp2
        go_ret
        exact ⟨_, rfl, by rw [R.out]; rfl, hE⟩
      · rw [if_neg hl] at R
        go_wp2
        go_ret
        exact ⟨_, rfl, by rw [R.out]; rfl, hE⟩
theorem cmpL_any {a b : List (List UInt8)} (hla : a.length ≤ 1000000) (hlb : b.length ≤ 1000000) {ao bo : Option Addr} {c d : Nat} {l : List HProp} {w : World} (ha : Knows l (reads (.slice ao a.length c) a.length (a.map strv))) (hb : Knows l (reads (.slice bo b.length d) b.length (b.map strv))) (hE : Ent l w) :
    Calls Tryd.prog 25 #[.slice ao a.length c, .slice bo b.length d] w (Ret fun v w' => v = .int .i64 (ordL a b) ∧ Ent l w') := cmpL_gen hla hlb ha hb hE
end Go.Proofs.YtjdignaddfhohaaDoor
namespace Go.Proofs
open Go.Shelf
shelf_lay Lays.n138 Nm 138 at Tryd as Tryd.lays138
end Go.Proofs
namespace Go.Proofs.YtjdignaddfhohaaDoor
open Go.RowKit Go.SL

theorem count_any (s : List UInt8) (w : World) : Calls Tryd.prog 53 #[.string ⟨s.toArray⟩, .string ⟨#[47]⟩] w fun e w' => e = .returned (.int .i64 ((s.count 47 : Nat) : Int)) ∧ w' = w := Any.strings_Count_one Tryd.lays138 ⟨s.toArray⟩ 47 w
theorem cuts_count : ∀ s : List UInt8, (cuts s).length = s.count 47 + 1
  | [] => rfl
  | c :: s => by
    have ih := cuts_count s
    rw [cuts_cons]
    by_cases h : c = 47
    · subst h
      simp [ih]
    · have : (c == 47) = false := by simpa using h
      rw [this]
      have hne := cuts_ne s
      cases hc : cuts s with
      | nil => exact absurd hc hne
      | cons x r =>
        rw [hc] at ih
        simp only [List.count_cons, this]
        simpa using ih
theorem splice_at1 {A B : List Value} {z y : Value} : splice (A ++ z :: B) A.length [y] = A ++ y :: B := by simp [splice]
abbrev emptyS : Value := .string ⟨#[]⟩
abbrev rowG (g N : Nat) (pre : List (List UInt8)) : HProp := row 9 1 (.slice (some ⟨g, 0, none⟩) N N) N (pre.map strv ++ List.replicate (N - pre.length) emptyS)
def GsRel (p : List UInt8) (g N : Nat) (l : List HProp) (s i : Value) (wr : World) : Prop :=
  ∃ (pre : List (List UInt8)) (r : List UInt8), s = .string ⟨r.toArray⟩ ∧ i = .int .i64 pre.length ∧ cuts p = pre ++ cuts r ∧ r.length ≤ p.length ∧ Ent (rowG g N pre :: l) wr
set_option maxRecDepth 100000 in
set_option maxHeartbeats 4000000 in
theorem genSplit_any {p : List UInt8} (hp : p.length ≤ 1000000) {l : List HProp} {w : World} (hE : Ent l w) :
    Calls Tryd.prog 40 #[.string ⟨p.toArray⟩, .string ⟨#[47]⟩, .int .i64 0, .int .i64 (-1)] w (Ret fun v w' => ∃ ao c, v = .slice ao (cuts p).length c ∧ Ent (rowS ao c (cuts p) :: l) w') := by
  have hcn := cuts_count p
  have hC := SL.hid (count_any p)
  have hle : p.count 47 ≤ p.length := List.count_le_length
  generalize p.count 47 = cn at *
  have hmin : min ((cn : Int) + 1) ((p.length : Int) + 1) = (cn : Int) + 1 := by omega
  have Hcn := SL.hid hcn
  clear hcn
  go_enter Tryd.func40, Tryd.ntmps40
  go_wp2_with (first
    | go_skip
    | (go_at_call 53; refine (hC.out _).mono ?_; rintro e w2 ⟨rfl, rfl⟩)
    | ((with_reducible (show Go.wpList _ _ _ (Go.Oper.mk _ (.makeSlice _ _ _) _ _ _ _ :: _) _ _)); refine wpl_make hE rfl rfl Tryd.underlying62 (zs := [emptyS]) (size := 1) (bytes := 16) (by kernel_rfl) rfl (by decide) (cn + 1) rfl rfl (by omega) (by omega) ?_; clear hE; intro g w3 hE))
  have e0 : ∀ n : Nat, (List.replicate n [emptyS]).flatten = List.replicate n emptyS := by
    intro n
    induction n with
    | zero => rfl
    | succ n ih => rw [List.replicate_succ, List.flatten_cons, ih]; rfl
  rw [e0] at hE
  clear e0
  go_loopw [0, 10] (fun s i wr => GsRel p g (cn + 1) l s i wr) (fun _ i _ => cn - (intOf i).toNat)
  case atStart => exact ⟨[], p, rfl, rfl, rfl, Nat.le_refl _, hE⟩
  case round =>
    clear hE hmin
    obtain ⟨pre, r, rfl, rfl, hc, hrl, hE⟩ := hrel
    have hlen := congrArg List.length hc
    rw [List.length_append, Hcn.out] at hlen
    have hix := index_one ⟨r.toArray⟩ 47
    have Hc := SL.hid hc
    clear hc
    by_cases hlt : pre.length < cn
    · rcases idx_cuts r with ⟨_, he⟩ | ⟨k, hk, hi, he⟩
      · rw [he] at hlen; simp at hlen; omega
      · simp only [List.toList_toArray] at hix
        rw [hi] at hix
        have HI := SL.hid hix
        have hkn : decide ((k : Int) < 0) = false := decide_eq_false (by omega)
        have hkl : (k : Int) ≤ (r.length : Int) := by omega
        have hkl1 : (k : Int) + 1 ≤ (r.length : Int) := by omega
        have hex : (⟨r.toArray⟩ : ByteArray).extract 0 k = ⟨(r.take k).toArray⟩ := by rw [extract_mk]; simp
        have hex2 : (⟨r.toArray⟩ : ByteArray).extract (k + 1) r.length = ⟨(r.drop (k + 1)).toArray⟩ := by rw [extract_mk, List.take_of_length_le (by simp)]
        have Hst := SL.hid (show cuts p = (pre ++ [r.take k]) ++ cuts (r.drop (k + 1)) by rw [Hc.out, he]; simp)
        have hsp : splice (pre.map strv ++ List.replicate (cn + 1 - pre.length) emptyS) pre.length [strv (r.take k)] = (pre ++ [r.take k]).map strv ++ List.replicate (cn + 1 - (pre.length + 1)) emptyS := by
          rw [show cn + 1 - pre.length = (cn + 1 - (pre.length + 1)) + 1 by omega, List.replicate_succ]
          have := splice_at1 (A := pre.map strv) (B := List.replicate (cn + 1 - (pre.length + 1)) emptyS) (z := emptyS) (y := strv (r.take k))
          rw [List.length_map] at this
          rw [this]
          simp
        have Hsp := SL.hid hsp
        have hdl : (r.drop (k + 1)).length ≤ p.length := by rw [List.length_drop]; omega
        have Hdl := SL.hid hdl
        clear hsp hdl hix hi he hlen
        have hpi : (pre.length : Int) < ((cn + 1 : Nat) : Int) := by omega
        generalize r.take k = x at *
        generalize r.drop (k + 1) = r2 at *
        go_wp2_with (first
          | go_skip
          | (go_at_call 54; refine (HI.out _).mono ?_; rintro e w2 ⟨rfl, rfl⟩)
          | ((with_reducible (show Go.wpList _ _ _ (Go.Oper.mk _ (.store _ _ _) _ _ _ _ :: _) _ _)); refine wpl_storeRow hE 0 rfl (off := pre.length) (ys := [strv x]) rfl rfl rfl rfl (k := 1) (by simp [go_sem]) rfl rfl (by simp [strv, Value.oneCell']) (by omega) ?_; clear hE; intro w5 hE; simp only [List.set_cons_zero] at hE))
        go_roundw
        case rel => exact ⟨pre ++ [x], r2, rfl, by simp, Hst.out, Hdl.out, by have := hE; rw [Hsp.out] at this; simpa [rowG] using this⟩
        case measure => simp [intOf] <;> omega
    · have hpl : pre.length = cn := by
        have := List.length_pos_iff.2 (cuts_ne r)
        omega
      have hr : cuts r = [r] := by
        rcases idx_cuts r with ⟨_, he⟩ | ⟨k, hk, hi, he⟩
        · exact he
        · rw [he] at hlen
          have := List.length_pos_iff.2 (cuts_ne (r.drop (k + 1)))
          simp at hlen
          omega
      have hcu : cuts p = pre ++ [r] := by rw [Hc.out, hr]
      have hsp : splice (pre.map strv ++ List.replicate (cn + 1 - pre.length) emptyS) pre.length [strv r] = (cuts p).map strv := by
        rw [show cn + 1 - pre.length = 0 + 1 by omega, List.replicate_succ, List.replicate_zero]
        have := splice_at1 (A := pre.map strv) (B := []) (z := emptyS) (y := strv r)
        rw [List.length_map] at this
        rw [this, hcu]
        simp
      have Hsp := SL.hid hsp
      have Hpl := SL.hid hpl
      clear hsp hr hcu hlen hix
      have hpi : (pre.length : Int) < (cn : Int) + 1 := by omega
      have hpj : (pre.length : Int) + 1 ≤ (cn : Int) + 1 := by omega
      have hge : decide ((pre.length : Int) < (cn : Int)) = false := decide_eq_false (by omega)
      have hfit : pre.length + 1 ≤ (cn + 1) * 1 := by omega
      clear hpl
      go_wp2_with (first
        | go_skip
        | ((with_reducible (show Go.wpList _ _ _ (Go.Oper.mk _ (.store _ _ _) _ _ _ _ :: _) _ _)); refine wpl_storeRow hE 0 rfl (off := pre.length) (ys := [strv r]) rfl rfl rfl rfl (k := 1) (by simp [go_sem]) rfl rfl (by simp [strv, Value.oneCell']) hfit ?_; clear hE; intro w5 hE; simp only [List.set_cons_zero] at hE))
      go_ret
      refine ⟨_, rfl, some ⟨g, 0, none⟩, cn + 1, by rw [Hcn.out, ← Hpl.out]; rfl, ?_⟩
      have hF : Ent (row 9 1 (.slice (some ⟨g, 0, none⟩) (cn + 1) (cn + 1)) (cn + 1) (splice (pre.map strv ++ List.replicate (cn + 1 - pre.length) emptyS) pre.length [strv r]) :: l) w5 := hE
      rw [Hsp.out] at hF
      rw [rowS, Hcn.out]
      exact hF
set_option maxRecDepth 100000 in
theorem SplitT_any {p : List UInt8} (hp : p.length ≤ 1000000) {l : List HProp} {w : World} (hE : Ent l w) :
    Calls Tryd.prog 26 #[.string ⟨p.toArray⟩, .string ⟨#[47]⟩] w (Ret fun v w' => ∃ ao c, v = .slice ao (cuts p).length c ∧ Ent (rowS ao c (cuts p) :: l) w') := by
  have hG := SL.hid (genSplit_any hp hE)
  go_enter Tryd.func26, Tryd.ntmps26
  go_wp2_with (first
    | go_skip
    | (go_at_call 40; refine hG.out.mono ?_; clear hE; rintro e w2 ⟨v, rfl, ao, c, rfl, hE⟩))
  go_ret
  exact ⟨_, rfl, ao, c, rfl, hE⟩
set_option maxRecDepth 100000 in
theorem Order_any {p q : List UInt8} (hp : p.length ≤ 100000) (hq : q.length ≤ 100000) {l : List HProp} {w : World} (hE : Ent l w) :
    Calls Tryd.prog 14 #[.string ⟨p.toArray⟩, .string ⟨q.toArray⟩] w (Ret fun v w' => v = .int .i64 (ordP p q) ∧ Ent l w') := by
  have hlp := (cuts_len p).1
  have hlq := (cuts_len q).1
  have hS1 := SL.hid (fun (L : List HProp) (w : World) (h : Ent L w) => SplitT_any (p := p) (by omega) h)
  have hS2 := SL.hid (fun (L : List HProp) (w : World) (h : Ent L w) => SplitT_any (p := q) (by omega) h)
  have hC := SL.hid (fun (a : Option Addr) (c : Nat) (b : Option Addr) (d : Nat) (w : World) (h : Ent (rowS b d (cuts q) :: rowS a c (cuts p) :: l) w) =>
    show Calls Tryd.prog 25 #[.slice a (cuts p).length c, .slice b (cuts q).length d] w (Ret fun v w' => v = .int .i64 (ordP p q) ∧ Ent (rowS b d (cuts q) :: rowS a c (cuts p) :: l) w') from
      cmpL_any (by omega) (by omega) (fun w h => reads_row h 1 rfl) (fun w h => reads_row h 0 rfl) h)
  clear hlp hlq
  generalize ordP p q = o at *
  generalize cuts p = cp at *
  generalize cuts q = cq at *
  go_enter Tryd.func14, Tryd.ntmps14
  go_wp2_with (first
    | go_skip
    | (go_at_call 26; refine (hS1.out _ _ hE).mono ?_; clear hE hS1; rintro e w2 ⟨v, rfl, a, c, rfl, hE⟩)
    | (go_at_call 26; refine (hS2.out _ _ hE).mono ?_; clear hE; rintro e w3 ⟨v, rfl, b, d, rfl, hE⟩)
    | (go_at_call 25; refine (hC.out _ _ _ _ _ hE).mono ?_; clear hE; rintro e w4 ⟨v, rfl, rfl, hE⟩))
  go_ret
  exact ⟨_, rfl, rfl, hE.tail.tail⟩
end Go.Proofs.YtjdignaddfhohaaDoor
namespace Go.Proofs
shelf_lay Lays.n221 Nm 221 at Tryd as Tryd.lays221
end Go.Proofs
namespace Go.Proofs.YtjdignaddfhohaaDoor
open Go.RowKit Go.SL

theorem splitK_cuts : ∀ (k : Nat) (s : List UInt8), (cuts s).length ≤ k + 1 → Lib.splitK [47] 0 k s = cuts s
  | 0, s, h => by
    rcases idx_cuts s with ⟨_, he⟩ | ⟨i, hi, _, he⟩
    · rw [he]; rfl
    · rw [he, List.length_cons] at h
      have := List.length_pos_iff.2 (cuts_ne (s.drop (i + 1)))
      omega
  | k + 1, s, h => by
    unfold Lib.splitK
    rw [Lib.index_one]
    rcases idx_cuts s with ⟨hx, he⟩ | ⟨i, hi, hx, he⟩
    · rw [hx, he]; rfl
    · rw [hx, he, if_neg (by simp)]
      rw [he, List.length_cons] at h
      rw [Int.toNat_natCast, Nat.add_zero]
      exact congrArg _ (splitK_cuts k (s.drop (i + 1)) (by omega))
theorem split_data (p : List UInt8) : (Lib.splitB ⟨#[47]⟩ 0 (p.count 47) ⟨p.toArray⟩).map Value.string = (cuts p).map strv := by
  have h := Lib.splitB_data ⟨#[47]⟩ 0 (p.count 47) ⟨p.toArray⟩
  have h2 : Lib.splitK [47] 0 (p.count 47) p = cuts p := splitK_cuts _ p (by rw [cuts_count]; exact Nat.le_refl _)
  rw [← h2, ← show (Lib.splitB ⟨#[47]⟩ 0 (p.count 47) ⟨p.toArray⟩).map (·.data.toList) = Lib.splitK [47] 0 (p.count 47) p from h, List.map_map]
  apply List.map_congr_left
  intro x _
  obtain ⟨⟨x⟩⟩ := x
  rfl
theorem split_w (p : List UInt8) (hp : p.length ≤ 1000000) (w : World) :
    Calls Tryd.prog 26 #[.string ⟨p.toArray⟩, .string ⟨#[47]⟩] w fun e w' => e = .returned (.slice (some ⟨w.heap.size, 0, none⟩) (cuts p).length (cuts p).length) ∧ w' = w.alloc (.cells ((cuts p).map strv).toArray 9) := by
  have hcb : Lib.countB ⟨p.toArray⟩ ⟨#[47]⟩ = p.count 47 := Lib.count_one 47 p
  have hlen := congrArg List.length (split_data p)
  rw [List.length_map, List.length_map] at hlen
  have c := Any.strings_genSplit_core Tryd.lays221 (by kernel_rfl) ⟨p.toArray⟩ ⟨#[47]⟩ 0 (-1) (p.count 47 + 1) w (show p.toArray.size < _ by rw [List.size_toArray]; omega) (by decide) (Nat.zero_le _)
    (fun x c hx => by
      have h := index_one x 47 (w.alloc (.cells c 9))
      rw [← Lib.index_one] at h
      exact h)
    (by
      have h := count_any p w
      rw [hcb]
      exact h) (by decide) (by decide) (by
        rw [if_pos (by decide), hcb]
        have : p.count 47 ≤ p.length := List.count_le_length
        show _ = min _ (((p.toArray.size : Nat) : Int) + 1)
        rw [List.size_toArray]
        omega)
  rw [Nat.add_sub_cancel, hlen] at c
  have e2 : Lib.cellsOf (Lib.splitB ⟨#[47]⟩ 0 (p.count 47) ⟨p.toArray⟩) (p.count 47 + 1) = ((cuts p).map strv).toArray := by
    have h3 : p.count 47 + 1 = (Lib.splitB ⟨#[47]⟩ 0 (p.count 47) ⟨p.toArray⟩).length := by rw [hlen, cuts_count]
    rw [h3, Lib.cellsOf_full, split_data]
  rw [e2] at c
  rw [← cuts_count] at c
  have C := SL.hid (show Calls Tryd.prog 40 #[.string ⟨p.toArray⟩, .string ⟨#[47]⟩, .int .i64 0, .int .i64 (-1)] w _ from c)
  clear c e2 hcb hlen
  go_enter Tryd.func26, Tryd.ntmps26
  go_wp2_with (first | go_skip | (go_at_call 40; refine C.out.mono ?_; rintro e w' ⟨rfl, hw⟩; rw [hw]))
  go_ret
  exact ⟨rfl, rfl⟩
theorem order_w (p q : List UInt8) (hp : p.length ≤ 100000) (hq : q.length ≤ 100000) (w : World) :
    Calls Tryd.prog 14 #[.string ⟨p.toArray⟩, .string ⟨q.toArray⟩] w fun e w' => e = .returned (.int .i64 (ordP p q)) ∧ w' = (w.alloc (.cells ((cuts p).map strv).toArray 9)).alloc (.cells ((cuts q).map strv).toArray 9) := by
  have H1 := SL.hid (fun (w : World) => split_w p (by omega) w)
  have H2 := SL.hid (fun (w : World) => split_w q (by omega) w)
  have hl1 := (cuts_len p).1
  have hl2 := (cuts_len q).1
  obtain ⟨W, hW⟩ : ∃ W, W = (w.alloc (.cells ((cuts p).map strv).toArray 9)).alloc (.cells ((cuts q).map strv).toArray 9) := ⟨_, rfl⟩
  have r2 : reads (.slice (some ⟨w.heap.size + 1, 0, none⟩) (cuts q).length (cuts q).length) (cuts q).length ((cuts q).map strv) W := by
    refine ⟨_, _, rfl, fun h => (by cases h), fun ad had j u hu => ?_⟩
    cases had
    have hb : W.heap[w.heap.size + 1]? = some (.cells ((cuts q).map strv).toArray 9) := by
      have := heap_alloc_new (w.alloc (.cells ((cuts p).map strv).toArray 9)) (.cells ((cuts q).map strv).toArray 9)
      rw [World.size_alloc] at this
      rw [hW]; exact this
    rw [Addr.add_lit]
    simp [World.cell?, hb, hu]
  have r1 : reads (.slice (some ⟨w.heap.size, 0, none⟩) (cuts p).length (cuts p).length) (cuts p).length ((cuts p).map strv) W := by
    refine ⟨_, _, rfl, fun h => (by cases h), fun ad had j u hu => ?_⟩
    cases had
    have hb : W.heap[w.heap.size]? = some (.cells ((cuts p).map strv).toArray 9) := by
      have h1 := heap_alloc_new w (.cells ((cuts p).map strv).toArray 9)
      have h2 := RowKit.Below.heap_alloc (w.alloc (.cells ((cuts p).map strv).toArray 9)) (.cells ((cuts q).map strv).toArray 9) w.heap.size (by rw [World.size_alloc]; omega)
      rw [hW, h2, h1]
    rw [Addr.add_lit]
    simp [World.cell?, hb, hu]
  have H3 := SL.hid (cmpL_gen (a := cuts p) (b := cuts q) (E := fun w' => w' = W) (w := W) (by omega) (by omega) (fun w' h => h ▸ r1) (fun w' h => h ▸ r2) rfl)
  have hord : ordL (cuts p) (cuts q) = ordP p q := rfl
  rw [hord] at H3
  clear r1 r2 hl1 hl2
  subst hW
  go_enter Tryd.func14, Tryd.ntmps14
  have A1 := SL.hid True.intro
  go_wp2_with (first
    | go_skip
    | (go_at_call 26; clear A1; refine (H1.out _).mono ?_; rintro e w1 ⟨rfl, rfl⟩)
    | (go_at_call 26; refine (H2.out _).mono ?_; rintro e w1 ⟨rfl, rfl⟩)
    | (go_at_call 25; have H := H3.out; refine H.mono ?_; rintro e w1 ⟨v, rfl, rfl, rfl⟩))
  go_ret
  exact ⟨rfl, rfl⟩
end Go.Proofs.YtjdignaddfhohaaDoor
namespace Go.Proofs
open Go.Shelf
shelf_lay_g SlLaysF.n6 Slsf 6 at Tryd 35 as Tryd.sortL
end Go.Proofs
namespace Go.Proofs.YtjdignaddfhohaaDoor
open Go.RowKit Go.SL Go.Sort

/-- paths of a bounded length -/
abbrev Pth := { s : List UInt8 // s.length ≤ 100000 }
instance : Inhabited Pth := ⟨⟨[], by simp⟩⟩
def encP (s : Pth) : Value := .string ⟨s.1.toArray⟩
def cfP (x y : Pth) : Int := ordP x.1 y.1
theorem ltP (x y : Pth) : ltOf cfP x y = lessP x.1 y.1 := by
  unfold ltOf cfP ordP
  cases h : lessP x.1 y.1 with
  | true => simp
  | false =>
    cases h2 : lessP y.1 x.1 <;> simp
theorem swoP : SWO (ltOf cfP) where
  irrefl x := by rw [ltP]; exact lessP_irrefl _
  trans x y z h1 h2 := by rw [ltP] at *; exact lessP_trans h1 h2
  ntrans x y z h1 h2 := by
    rw [ltP] at *
    cases h3 : lessP x.1 z.1 with
    | false => rfl
    | true =>
      exfalso
      by_cases e : x.1 = y.1
      · rw [e, h2] at h3; cases h3
      · have := lessP_total e h1
        rw [lessP_trans this h3] at h2; cases h2
theorem cmp_lays (blk off size : Nat) (w : World) : CmpLays1 Tryd.prog 14 #[] encP cfP blk off size w := by
  intro m os dk hs x y
  refine (order_w x.1 y.1 x.2 y.2 _).mono ?_
  rintro e w' ⟨rfl, rfl⟩
  refine ⟨rfl, 0, #[.cells ((cuts x.1).map strv).toArray 9, .cells ((cuts y.1).map strv).toArray 9], ?_⟩
  generalize sortWorld encP w blk off m dk os = W
  obtain ⟨h1, h2, h3, h4, h5⟩ := W
  have e : ∀ a b : Obj, (h1.push a).push b = h1 ++ #[a, b] := fun a b => by apply Array.ext'; simp
  show (⟨(h1.push _).push _, h2, h3, h4, h5⟩ : World) = ⟨h1 ++ #[_, _], h2, h3 + 0, h4, h5⟩
  rw [e, Nat.add_zero]
theorem put_same (w : World) (g n : Nat) (d : Array Pth) (os : Array Obj) : sortWorld encP w g 0 n d os = grow (putRow encStr (Sort.ahead w n) g 0 (d.toList.map Subtype.val).toArray) os := by
  unfold sortWorld putRow
  congr 1
  congr 1
  funext c
  unfold putCells
  apply Array.ext
  · simp
  · intro i h1 h2
    simp only [Array.getElem_mapIdx, Nat.zero_le, true_and, Nat.zero_add, List.size_toArray, List.length_map, Array.length_toList]
    split
    · next h =>
      rw [Nat.sub_zero, getElem!_pos d i h, getElem!_pos _ i (by simpa using h)]
      simp [encP, encStr]
    · rfl
theorem ends_sorted {d d' : Array Pth} (h : PermIn 0 d.size d d') (hs : SortedIn (ltOf cfP) 0 d.size d') : d'.size = d.size ∧ (d'.toList.map Subtype.val).Perm (d.toList.map Subtype.val) ∧ (d'.toList.map Subtype.val).Pairwise fun a b => lessP b a = false := by
  obtain ⟨h1, _, h3⟩ := h
  refine ⟨h1, ?_, ?_⟩
  · have e1 : d'.extract 0 d.size = d' := by rw [← h1]; simp
    have e2 : d.extract 0 d.size = d := by simp
    rw [e1, e2] at h3
    exact h3.map _
  · rw [List.pairwise_iff_getElem]
    intro i j hi hj hij
    simp only [List.length_map, Array.length_toList] at hi hj
    have := hs i j (Nat.zero_le _) hij (by omega)
    rw [ltP, getElem!_pos d' i hi, getElem!_pos d' j hj] at this
    simpa using this
set_option maxRecDepth 100000 in
theorem Sort_keys {ks : List (List UInt8)} (hl : ∀ x ∈ ks, x.length ≤ 100000) (hn : ks.length ≤ 1000000) {ao : Option Addr} {c : Nat} {l : List HProp} {w : World} (hE : Ent (rowS ao c ks :: l) w) :
    Calls Tryd.prog 35 #[.slice ao ks.length c, .func (.func 14) #[] #[]] w (Ret fun v w' => v = .tuple #[] ∧ ∃ ts : List (List UInt8), ts.Perm ks ∧ (ts.Pairwise fun a b => lessP b a = false) ∧ Ent (rowS ao c ts :: l) w') := by
  have how := hE.owns 0 rfl
  rcases how.2 with ⟨h, h0⟩ | ⟨g, cap, cur, h, hbase, hb, h1, h2, h3, h4⟩
  · have hk : ks = [] := List.eq_nil_of_length_eq_zero h0
    subst hk
    cases h
    refine (AnyF.slices_SortFunc_none (P := Tryd.prog) (ρ := Tryd.sortL_ren) { Tryd.sortL with } none 0 _ w).mono ?_
    rintro e w' ⟨rfl, rfl⟩
    exact ⟨_, rfl, rfl, [], List.Perm.refl _, List.Pairwise.nil, hE⟩
  · cases h
    obtain ⟨ds, hds⟩ : ∃ ds : Array Pth, ds = (ks.attachWith (fun s => s.length ≤ 100000) hl).toArray := ⟨_, rfl⟩
    have hsz : ds.size = ks.length := by rw [hds]; simp
    have hmap : ds.toList.map Subtype.val = ks := by rw [hds]; simp
    have hH : Holds encP w g 0 ds := by
      intro j hj
      have hj' : j < ks.length := by omega
      have h5 := holds_of_block hb (ss := ks) (by rw [Nat.mul_one] at h4; exact h4) j (by simpa using hj')
      refine ⟨?_, h5.2⟩
      rw [h5.1, getElem!_pos ds j hj, getElem!_pos ks.toArray j (by simpa using hj')]
      simp [hds, encP, encStr]
    have hC := Any.slices_SortFunc Tryd.sortL encP (fun x => rfl) cfP swoP 14 #[] g 0 c ds w (fun args w => enters_of Tryd.func14 (by kernel_rfl) rfl args w) (cmp_lays g 0 ds.size w) hH (Array.getElem?_eq_some_iff.1 hb).1 (by omega)
    rw [hsz] at hC
    refine hC.mono ?_
    rintro e w' ⟨rfl, d', n, os, hp, hs, rfl⟩
    obtain ⟨e1, e2, e3⟩ := ends_sorted (by rw [hsz]; exact hp) (by rw [hsz]; exact hs)
    rw [hmap] at e2
    refine ⟨_, rfl, rfl, _, e2, e3, ?_⟩
    have hlen := e2.length_eq
    rw [put_same]
    have h6 := ownsRow_sorted (w := w) (n := n) (os := os) (e := 9) hlen hbase hb h1 h2 (by simpa using h3)
    have h7 := Ent.grown hE 0 rfl (grownBy_sorted (w := w) (g := g) (n := n) (os := os) (d'.toList.map Subtype.val).toArray) (n' := ks.length) (xs' := (d'.toList.map Subtype.val).map strv) (v' := .slice (some ⟨g, 0, none⟩) ks.length c) h6 (.inl rfl)
    rw [rowS, hlen]
    exact h7
theorem sorted_rise {ts ks : List (List UInt8)} (hp : ts.Perm ks) (hn : ks.Nodup) (hs : ts.Pairwise fun a b => lessP b a = false) : ts = sortK ks := by
  have hnd : ts.Nodup := hp.nodup_iff.2 hn
  refine riseP_ext ?_ (sortK_rise _) fun k => by rw [sortK_mem]; exact hp.mem_iff
  have h2 : ts.Pairwise fun a b => a ≠ b := hnd
  exact (hs.and h2).imp fun ⟨h3, h4⟩ => lessP_total (Ne.symm h4) h3
set_option maxRecDepth 100000 in
theorem SortedFunc_any {kvs : List (List UInt8 × Value)} (hn : kvs.length ≤ 1000000) (hnd : (kvs.map Prod.fst).Nodup) (hl : ∀ x ∈ kvs.map Prod.fst, x.length ≤ 100000) {r b1 : Nat} {l : List HProp} {w : World} (hE : Ent (pt b1 (.cells #[.map (some r)] 60) :: mapK r kS kvs :: l) w) :
    Calls Tryd.prog 20 #[keysF b1, .func (.func 14) #[] #[]] w (Ret fun v w' => ∃ ao c, v = .slice ao (sortK (kvs.map Prod.fst)).length c ∧ Ent (rowS ao c (sortK (kvs.map Prod.fst)) :: l) w') := by
  have HC := SL.hid (Collect_keys hn hE)
  have HS := SL.hid (fun (ks : List (List UInt8)) (ao : Option Addr) (c : Nat) (w : World) (hp : ks.Perm (kvs.map Prod.fst)) (hE : Ent (rowS ao c ks :: l) w) =>
    show Calls Tryd.prog 35 #[.slice ao ks.length c, .func (.func 14) #[] #[]] w (Ret fun v w' => v = .tuple #[] ∧ Ent (rowS ao c (sortK (kvs.map Prod.fst)) :: l) w' ∧ (sortK (kvs.map Prod.fst)).length = ks.length) from by
      have hlen : ks.length = kvs.length := by rw [hp.length_eq, List.length_map]
      refine (Sort_keys (fun x hx => hl x (hp.mem_iff.1 hx)) (by omega) hE).mono ?_
      rintro e w' ⟨v, rfl, rfl, ts, h1, h2, h3⟩
      have e := sorted_rise (h1.trans hp) hnd h2
      rw [e] at h3
      exact ⟨_, rfl, rfl, h3, by rw [← e, h1.length_eq]⟩)
  clear hE
  generalize sortK (kvs.map Prod.fst) = K at *
  go_enter Tryd.func20, Tryd.ntmps20
  go_wp2_with (first
    | go_skip
    | (go_at_call 34; refine HC.out.mono ?_; rintro e w1 ⟨v, rfl, ao, c, ks, rfl, hp, hE⟩)
    | (go_at_call 35; refine (HS.out ks ao c _ hp hE).mono ?_; clear hE; rintro e w1 ⟨v, rfl, rfl, hE, hlen⟩))
  refine bodyPost_ret (results_tmp rfl _ _ _) rfl ?_
  exact ⟨_, rfl, ao, c, by rw [hlen]; rfl, hE⟩
end Go.Proofs.YtjdignaddfhohaaDoor
namespace Go.SL
/-- the mark of a range over a function -/
def mkD (D : Nat) : Deferred := { target := .collected D, args := #[] }
def ptD (D : Nat) : HProp := pt D (.deferred (some []))
theorem leaves_marks {P : Program} {fn : Func} {tmps : Array Value} {R : Ending → World → Prop} {l : List HProp} : ∀ (Ds : List Nat) (w : World), Ent (Ds.map ptD ++ l) w → (∀ w', Ent l w' → ∃ v, (results fn tmps).run P w' = .ok v w' ∧ R (.returned v) w') →
    LeavesInM Fence.wide 0 P fn tmps R (Ds.map mkD) .returning w
  | [], w, hE, h => h w hE
  | D :: Ds, w, hE, h => by
    refine ⟨by simp, .inl ⟨_, _, rfl, run_takeDeferred hE.head, ?_⟩⟩
    exact leaves_marks Ds _ (hE.setMap 0 (ob' := .deferred none) rfl).tail h
theorem post_marks {P : Program} {fn : Func} {R : Ending → World → Prop} {a : Act} {w : World} {Ds : List Nat} {l : List HProp} (hd : a.defers = Ds.map mkD) (hE : Ent (Ds.map ptD ++ l) w)
    (h : ∀ w', Ent l w' → ∃ v, (results fn a.tmps).run P w' = .ok v w' ∧ R (.returned v) w') : bodyPostM Fence.wide 0 P fn R .ret a w := by
  show LeavesInM Fence.wide 0 P fn a.tmps R a.defers .returning w
  rw [hd]
  exact leaves_marks Ds w hE h
end Go.SL
namespace Go.SL
theorem post_mark2 {P : Program} {fn : Func} {R : Ending → World → Prop} {a : Act} {w : World} {D : Nat} {l : List HProp} (hd : a.defers = [{ target := .collected D, args := #[] }]) (hE : Ent (pt D (.deferred (some [])) :: l) w)
    (h : ∀ w', Ent (pt D (.deferred none) :: l) w' → ∃ v, (results fn a.tmps).run P w' = .ok v w' ∧ R (.returned v) w') : bodyPostM Fence.wide 0 P fn R .ret a w := by
  show LeavesInM Fence.wide 0 P fn a.tmps R a.defers .returning w
  rw [hd]
  refine ⟨by simp, .inl ⟨_, _, rfl, run_takeDeferred hE.head, ?_⟩⟩
  exact h _ (hE.setMap 0 (ob' := .deferred none) rfl)
/-- what a range over a function leaves behind, before and behind the function's end -/
def anyD (D : Nat) : HProp := ex fun z : { o : Obj // o = .deferred (some []) ∨ o = .deferred none } => [pt D z.1]
theorem anyD_some {D : Nat} {l : List HProp} {w : World} (h : Ent (pt D (.deferred (some [])) :: l) w) : Ent (anyD D :: l) w := Ent.pack (f := fun z : { o : Obj // o = .deferred (some []) ∨ o = .deferred none } => [pt D z.1]) ⟨_, .inl rfl⟩ h
theorem anyD_none {D : Nat} {l : List HProp} {w : World} (h : Ent (pt D (.deferred none) :: l) w) : Ent (anyD D :: l) w := Ent.pack (f := fun z : { o : Obj // o = .deferred (some []) ∨ o = .deferred none } => [pt D z.1]) ⟨_, .inr rfl⟩ h
theorem knows_anyD {D : Nat} {l : List HProp} {v : Value} {n : Nat} {xs : List Value} (h : Knows (pt D (.deferred (some [])) :: l) (reads v n xs)) : Knows (anyD D :: l) (reads v n xs) := by
  intro w hE
  obtain ⟨⟨o, ho⟩, hE⟩ := hE.unpack
  rcases ho with rfl | rfl
  · exact h w hE
  · have h2 := h _ (hE.setMap 0 (ob' := .deferred (some [])) rfl)
    have hD : w.heap[D]? = some (.deferred none) := hE.at 0 rfl
    obtain ⟨ao, c, e, h3, h4⟩ := h2
    refine ⟨ao, c, e, h3, fun ad had j u hu => ?_⟩
    have h5 := h4 ad had j u hu
    have hb : (ad.add j).block ≠ D := by
      intro hb
      have hlt : D < w.heap.size := (Array.getElem?_eq_some_iff.1 hD).1
      have e2 : ({ w with heap := w.heap.setIfInBounds D (.deferred (some [])) } : World).heap[(ad.add j).block]? = some (.deferred (some [])) := by
        rw [hb]
        simp [hlt]
      unfold World.cell? at h5
      rw [e2] at h5
      cases h5
    have e3 : ({ w with heap := w.heap.setIfInBounds D (.deferred (some [])) } : World).heap[(ad.add j).block]? = w.heap[(ad.add j).block]? := by
      simp [Array.getElem?_setIfInBounds, Ne.symm hb]
    unfold World.cell? at h5 ⊢
    rw [e3] at h5
    exact h5
theorem leaves_marks2 {P : Program} {fn : Func} {tmps : Array Value} {R : Ending → World → Prop} : ∀ (Ds : List Nat) (l : List HProp) (w : World), Ent (Ds.map ptD ++ l) w → (∀ w', Ent (Ds.map anyD ++ l) w' → ∃ v, (results fn tmps).run P w' = .ok v w' ∧ R (.returned v) w') →
    LeavesInM Fence.wide 0 P fn tmps R (Ds.map mkD) .returning w
  | [], l, w, hE, h => h w hE
  | D :: Ds, l, w, hE, h => by
    refine ⟨by simp, .inl ⟨_, _, rfl, run_takeDeferred hE.head, ?_⟩⟩
    have h1 : Ent (anyD D :: (Ds.map ptD ++ l)) _ := anyD_none (hE.setMap 0 (ob' := .deferred none) rfl)
    refine leaves_marks2 Ds (anyD D :: l) _ (h1.perm List.perm_middle.symm) fun w' hw => h w' ?_
    exact hw.perm List.perm_middle
theorem post_marks2 {P : Program} {fn : Func} {R : Ending → World → Prop} {a : Act} {w : World} {Ds : List Nat} {l : List HProp} (hd : a.defers = Ds.map mkD) (hE : Ent (Ds.map ptD ++ l) w)
    (h : ∀ w', Ent (Ds.map anyD ++ l) w' → ∃ v, (results fn a.tmps).run P w' = .ok v w' ∧ R (.returned v) w') : bodyPostM Fence.wide 0 P fn R .ret a w := by
  show LeavesInM Fence.wide 0 P fn a.tmps R a.defers .returning w
  rw [hd]
  exact leaves_marks2 Ds l w hE h
theorem Knows.perm {l m : List HProp} {p : World → Prop} (h : Knows l p) (hp : m.Perm l) : Knows m p := fun w hw => h w (hw.perm hp)
theorem knows_marks : ∀ {Ds : List Nat} {l : List HProp} {v : Value} {n : Nat} {xs : List Value}, Knows (Ds.map ptD ++ l) (reads v n xs) → Knows (Ds.map anyD ++ l) (reads v n xs)
  | [], _, _, _, _, h => h
  | D :: Ds, l, v, n, xs, h => by
    have h1 : Knows (anyD D :: (Ds.map ptD ++ l)) (reads v n xs) := knows_anyD (show Knows (pt D (.deferred (some [])) :: (Ds.map ptD ++ l)) (reads v n xs) from h)
    have h2 := knows_marks (Ds := Ds) (l := anyD D :: l) (h1.perm List.perm_middle)
    exact h2.perm List.perm_middle.symm
end Go.SL
namespace Go.Proofs.YtjdignaddfhohaaDoor
open Go.RowKit Go.SL
theorem KidsAt.monoR {l m : List HProp} (h : ∀ v n xs, Knows l (reads v n xs) → Knows m (reads v n xs)) {v : Value} {ks : List (List UInt8 × Tr)} (hk : KidsAt l v ks) : KidsAt m v ks := by
  induction hk with
  | mk ao c ks vs hc hl hr _ ih => exact .mk ao c ks vs hc hl (h _ _ _ hr) ih
end Go.Proofs.YtjdignaddfhohaaDoor
namespace Go.Proofs.YtjdignaddfhohaaDoor
open Go.RowKit Go.SL

theorem wide_fnM (f : FuncId) : Fence.wide.fn f = True := rfl
theorem wide_depthM : Fence.wide.depth = none := rfl
attribute [local go_sem] Oper.semAt_some wide_fnM wide_depthM
def cfC (c : Cf) : List Value := [.string ⟨c.path.toArray⟩, .bool c.base.there, .bool c.base.dir, .string ⟨c.base.data.toArray⟩, .bool c.ours.there, .bool c.ours.dir, .string ⟨c.ours.data.toArray⟩, .bool c.theirs.there, .bool c.theirs.dir, .string ⟨c.theirs.data.toArray⟩]
theorem cfC_len (c : Cf) : (cfC c).length = 10 := rfl
theorem cfC_one (c : Cf) : ∀ u ∈ cfC c, u.oneCell' = true := by simp [cfC, Value.oneCell']
theorem cfC_flat_len (xs : List Cf) : (xs.flatMap cfC).length = xs.length * 10 := flatMap_len cfC 10 cfC_len xs
abbrev rowCf (ao : Option Addr) (c : Nat) (xs : List Cf) : HProp := row 46 10 (.slice ao xs.length c) xs.length (xs.flatMap cfC)
theorem info_cf : elemInfo Tryd.prog 46 = some (some 10, 10, 88) := by kernel_rfl
theorem zs_cf : zeroSize Tryd.prog 46 = some 10 := by kernel_rfl
theorem wpl_build3 {ops : Array Oper} {rest : List Oper} {o : Oper} {a : Act} {Q : Exit → Act → World → Prop} {w : World} {l : List HProp} (hE : Ent l w) {x y z : Operand} {r1 r2 r3 : Nat} (ho : o.op = .buildSlice 61 3 #[(0, x), (1, y), (2, z)]) (hw : Region.wanted o (yielded ops a.tmps) = true)
    (hx : a.eval x = .map (some r1)) (hy : a.eval y = .map (some r2)) (hz : a.eval z = .map (some r3))
    (h : ∀ bs w', Ent (pt bs (.cells #[.map (some r1), .map (some r2), .map (some r3)] 58) :: l) w' → wpList Tryd.prog ops Q rest (a.put o.dst (.slice (some ⟨bs, 0, none⟩) 3 3)) w') : wpList Tryd.prog ops Q (o :: rest) a w := by
  refine wpl_run hw (w' := w.alloc (.cells #[.map (some r1), .map (some r2), .map (some r3)] 58)) (v := .slice (some ⟨w.heap.size, 0, none⟩) 3 3) ?_ (h _ _ (hE.alloc _))
  have hr : (Instr.buildSlice 61 3 #[(0, .map (some r1)), (1, .map (some r2)), (2, .map (some r3))]).run Tryd.prog w = .ok (.slice (some ⟨w.heap.size, 0, none⟩) 3 3) (w.alloc (.cells #[.map (some r1), .map (some r2), .map (some r3)] 58)) := by
    simp [go_sem]
  simp [execOp, ho, hx, hy, hz, hr]
abbrev mgL (c6 r1 r2 r3 : Nat) (b o t : List En) (L1 : List HProp) : List HProp := mapK r1 kS (sidesK b) :: mapK r2 kS (sidesK o) :: mapK r3 kS (sidesK t) :: pt c6 (.cells #[.bool false, .string ⟨#[]⟩, .slice none 0 0] 35) :: L1
theorem act_list {C : Code} {Q : Exit → Act → World → Prop} {w : World} {T : List Value} {d : List Deferred} (h : ∀ T', T' = T → C.wp Tryd.prog Q { tmps := T'.toArray, defers := d } w) : C.wp Tryd.prog Q { tmps := T.toArray, defers := d } w := h T rfl
theorem en_grow {a : Option Addr} {c : Nat} {es : List En} {x : En} : row 51 3 (.slice a (es.length + 1) c) (es.length + 1) (es.flatMap enC ++ enC x) = rowEn a c (es ++ [x]) := by simp [rowEn]
theorem cf_grow {a : Option Addr} {c : Nat} {es : List Cf} {x : Cf} : row 46 10 (.slice a (es.length + 1) c) (es.length + 1) (es.flatMap cfC ++ cfC x) = rowCf a c (es ++ [x]) := by simp [rowCf]
theorem perm_end (m D G l : List HProp) (A B C : HProp) : (m ++ (A :: B :: C :: (D ++ (G ++ l)))).Perm (A :: B :: C :: (D ++ ((m ++ G) ++ l))) := by
  have h1 := List.perm_append_comm_assoc m [A, B, C] (D ++ (G ++ l))
  have h2 := List.perm_append_comm_assoc m D (G ++ l)
  rw [List.append_assoc]
  exact h1.trans (h2.append_left [A, B, C])
theorem perm_start (D F pre l : List HProp) (A B C : HProp) : (A :: B :: C :: (F ++ ((pre ++ l) ++ D))).Perm (A :: B :: C :: (D ++ ((F ++ pre) ++ l))) := by
  have h := (List.perm_append_comm (l₁ := F ++ (pre ++ l)) (l₂ := D)).append_left [A, B, C]
  rw [List.append_assoc F _ D] at h
  rw [List.append_assoc F pre l]
  exact h
abbrev fnM (c17 c18 : Nat) : Value := .func (.func 22) #[] #[.pointer (some ⟨c17, 0, none⟩), .pointer (some ⟨c18, 0, none⟩)]
abbrev mgE (c17 c18 c23 rc rb : Nat) (kc kb : List (List UInt8 × Value)) (R : List HProp) : List HProp :=
  mapK rc kS kc :: mapK rb kS kb :: pt c17 (.cells #[.map (some rc)] 58) :: pt c18 (.cells #[.map (some rb)] 60) :: pt c23 (.cells #[fnM c17 c18] 67) :: R
/-- the two maps while the directories above a path are wanted -/
def nI (b o t : List En) (D K : List (List UInt8)) (rc rb : Nat) (R : List HProp) (pre : List (List UInt8)) : List HProp :=
  (ex fun z : { z : List (List UInt8 × Value) × List (List UInt8 × Value) // ChI b o t (D ++ pre) K z.1 z.2 } => [mapK rc kS z.1.1, mapK rb kS z.1.2]) :: R
def MgPost (b o t : List En) (l : List HProp) (v : Value) (w' : World) : Prop :=
  ∃ (m : List HProp) (a : Option Addr) (c : Nat) (kv : Value), v = .tuple #[nodeV (mrgT b o t) kv, .slice a (mrgC b o t).length c, .int .i64 (mrgE b o t)] ∧ Ent (m ++ l) w' ∧ KidsAt (m ++ l) kv (mrgT b o t).kids ∧
    Knows (m ++ l) (reads (.slice a (mrgC b o t).length c) (mrgC b o t).length ((mrgC b o t).flatMap cfC))
/-- the keys that lie in the map of paths while those of one more side are put there -/
def PkI (base es left : List (List UInt8)) (kp : List (List UInt8 × Value)) : Prop :=
  (kp.map Prod.fst).Nodup ∧ (∀ k ∈ kp.map Prod.fst, k ∈ base ∨ k ∈ es) ∧ (∀ k, k ∈ base → k ∈ kp.map Prod.fst) ∧ (∀ k ∈ es, k ∉ left → k ∈ kp.map Prod.fst)
theorem PkI.step {base es A B : List (List UInt8)} {k : List UInt8} {kp : List (List UInt8 × Value)} (h : PkI base es (A ++ k :: B) kp) (hk : k ∈ es) : PkI base es (A ++ B) (setK kp k (.bool true)) := by
  obtain ⟨h1, h2, h3, h4⟩ := h
  refine ⟨set_nodup h1, fun q hq => ?_, fun q hq => set_mem.2 (.inr (h3 q hq)), fun q hq hn => ?_⟩
  · rcases set_mem.1 hq with rfl | hq
    · exact .inr hk
    · exact h2 q hq
  · rw [set_mem]
    by_cases e : q = k
    · exact .inl e
    · refine .inr (h4 q hq fun hm => hn ?_)
      rcases List.mem_append.1 hm with hm | hm
      · exact List.mem_append_left _ hm
      · rcases List.mem_cons.1 hm with hm | hm
        · exact absurd hm e
        · exact List.mem_append_right _ hm
theorem PkI.done {base es : List (List UInt8)} {kp : List (List UInt8 × Value)} (h : PkI base es [] kp) {es' : List (List UInt8)} : PkI (base ++ es) es' es' kp := by
  obtain ⟨h1, h2, h3, h4⟩ := h
  refine ⟨h1, fun k hk => .inl (List.mem_append.2 (h2 k hk)), fun k hk => ?_, fun k hk hn => absurd hk hn⟩
  rcases List.mem_append.1 hk with hk | hk
  · exact h3 k hk
  · exact h4 k hk (by simp)

set_option maxRecDepth 100000 in
set_option maxHeartbeats 16000000 in
attribute [-go_sem] Instr.loadAt in
theorem Merge_any {t1 t2 t3 : Tr} (w1 : Tr.Wf 6 t1) (w2 : Tr.Wf 6 t2) (w3 : Tr.Wf 6 t3) (f1 : Fits (entT 6 [] t1)) (f2 : Fits (entT 6 [] t2)) (f3 : Fits (entT 6 [] t3)) {kv1 kv2 kv3 : Value} {l : List HProp} (k1 : KidsAt l kv1 t1.kids) (k2 : KidsAt l kv2 t2.kids) (k3 : KidsAt l kv3 t3.kids) {w : World} (hE : Ent l w) :
    Calls Tryd.prog 12 #[nodeV t1 kv1, nodeV t2 kv2, nodeV t3 kv3] w (Ret (MgPost (entT 6 [] t1) (entT 6 [] t2) (entT 6 [] t3) l)) := by
  have b1 := f1.few
  have b2 := f2.few
  have b3 := f3.few
  have HO1 := SL.hid (fun (L : List HProp) (w : World) (hs : l <:+ L) (hE : Ent L w) => of_any w1 (by omega) (k1.suf hs) hE)
  have HO2 := SL.hid (fun (L : List HProp) (w : World) (hs : l <:+ L) (hE : Ent L w) => of_any w2 (by omega) (k2.suf hs) hE)
  have HO3 := SL.hid (fun (L : List HProp) (w : World) (hs : l <:+ L) (hE : Ent L w) => of_any w3 (by omega) (k3.suf hs) hE)
  unfold nodeV at *
  generalize entT 6 [] t1 = b at *
  generalize entT 6 [] t2 = o at *
  generalize entT 6 [] t3 = t at *
  generalize t1.dir = d1 at *
  generalize t2.dir = d2 at *
  generalize t3.dir = d3 at *
  generalize t1.data = s1 at *
  generalize t2.data = s2 at *
  generalize t3.data = s3 at *
  clear k1 k2 k3 w1 w2 w3 b1 b2 b3
  have F1 := SL.hid f1
  have F2 := SL.hid f2
  have F3 := SL.hid f3
  clear f1 f2 f3
  refine calls_of_marks Tryd.func12 rfl ?_
  simp only [Tryd.ntmps12, List.size_toArray, List.length_cons, List.length_nil, Nat.reduceAdd, Nat.reduceSub, Array.replicate_succ, Array.replicate_zero, List.push_toArray, List.append_toArray, List.nil_append, List.cons_append]
  go_wp2_with (first
    | go_skip
    | ((with_reducible (show Go.wpList _ _ _ (Go.Oper.mk _ (.box _ (.tmp 0)) _ _ _ _ :: _) _ _)); (refine bxX hE ?_; clear hE; intro c3 w hE))
    | ((with_reducible (show Go.wpList _ _ _ (Go.Oper.mk _ (.box _ (.tmp 1)) _ _ _ _ :: _) _ _)); (refine bxX hE ?_; clear hE; intro c4 w hE))
    | ((with_reducible (show Go.wpList _ _ _ (Go.Oper.mk _ (.box _ (.tmp 2)) _ _ _ _ :: _) _ _)); (refine bxX hE ?_; clear hE; intro c5 w hE))
    | (refine alX hE ?_; clear hE; intro c6 w hE))
  have hO := hE.drew
  clear hE
  refine wp_onlyN ?_
  refine wp_region_held_drew (S := (fun w' => ((Instr.loadAt 35 (.pointer (some ⟨c3, 0, none⟩))).run Tryd.prog w' = .ok (.agg [.bool d1, .string ⟨s1.toArray⟩, kv1].toArray) w') ∧ ((Instr.loadAt 35 (.pointer (some ⟨c4, 0, none⟩))).run Tryd.prog w' = .ok (.agg [.bool d2, .string ⟨s2.toArray⟩, kv2].toArray) w') ∧ ((Instr.loadAt 35 (.pointer (some ⟨c5, 0, none⟩))).run Tryd.prog w' = .ok (.agg [.bool d3, .string ⟨s3.toArray⟩, kv3].toArray) w'))) (by kernel_rfl) ⟨(atWq hO Tryd.isAgg35 Tryd.sizeOf35), (atWq hO Tryd.isAgg35 Tryd.sizeOf35), (atWq hO Tryd.isAgg35 Tryd.sizeOf35)⟩ (fun hS => ?_)
  refine tL 0 hS ?_; refine tL 2 hS ?_; refine tL 4 hS ?_
  refine tO 1 (fun K hK => ?_)
  (go_simp; refine (HO1.out _ _ sfx hO).mono ?_; clear hO; rintro e w5 ⟨v, rfl, r1, m1, rfl, hO⟩; replace hO := Ent.swap (a := mapK r1 kS (sidesK b) :: m1) (b := [_, _, _, _]) hO; simp only [List.cons_append, List.nil_append, List.append_eq] at hO)
  refine tK hK ⟨(atWq hO Tryd.isAgg35 Tryd.sizeOf35), (atWq hO Tryd.isAgg35 Tryd.sizeOf35), (atWq hO Tryd.isAgg35 Tryd.sizeOf35)⟩ (fun hS => ?_); clear hK K
  refine tO 3 (fun K hK => ?_)
  (go_simp; refine (HO2.out _ _ sfx hO).mono ?_; clear hO; rintro e w6 ⟨v, rfl, r2, m2, rfl, hO⟩; replace hO := Ent.swap (a := mapK r2 kS (sidesK o) :: m2) (b := [_, _, _, _, _]) hO; simp only [List.cons_append, List.nil_append, List.append_eq] at hO)
  refine tK hK ⟨(atWq hO Tryd.isAgg35 Tryd.sizeOf35), (atWq hO Tryd.isAgg35 Tryd.sizeOf35), (atWq hO Tryd.isAgg35 Tryd.sizeOf35)⟩ (fun hS => ?_); clear hK K
  refine tO 5 (fun K hK => ?_)
  (go_simp; refine (HO3.out _ _ sfx hO).mono ?_; clear hO; rintro e w7 ⟨v, rfl, r3, m3, rfl, hO⟩; replace hO := Ent.swap (a := mapK r3 kS (sidesK t) :: m3) (b := [_, _, _, _, _, _]) hO; simp only [List.cons_append, List.nil_append, List.append_eq] at hO)
  refine tK hK ⟨(atWq hO Tryd.isAgg35 Tryd.sizeOf35), (atWq hO Tryd.isAgg35 Tryd.sizeOf35), (atWq hO Tryd.isAgg35 Tryd.sizeOf35)⟩ (fun hS => ?_); clear hK K
  refine tV 6 hS ?_; refine tV 7 hS ?_; refine tV 8 hS ?_
  refine wpAnyH_done (by kernel_rfl) ?_ _
  refine onlyN_n ?_
  clear hS HO1 HO2 HO3
  replace hO := ((hO.front 6 rfl).front 6 rfl).front 6 rfl
  simp only [List.eraseIdx_cons_succ, List.eraseIdx_cons_zero] at hO
  obtain ⟨L1, hL1, hE⟩ : ∃ L1, l <:+ L1 ∧ Ent (mapK r1 kS (sidesK b) :: mapK r2 kS (sidesK o) :: mapK r3 kS (sidesK t) :: pt c6 (.cells #[.bool false, .string ⟨#[]⟩, .slice none 0 0] 35) :: L1) w7 := ⟨_, sfx, hO⟩
  have HL1 := SL.hid hL1
  clear hO hL1
  go_wp2_with (first
    | go_skip
    | ((with_reducible (show Go.wpList _ _ _ (Go.Oper.mk _ (.makeMap _ _) _ _ _ _ :: _) _ _)); refine wpl_makeK kS hE rfl rfl ?_; clear hE; intro r12 w8 hE)
    | ((with_reducible (show Go.wpList _ _ _ (Go.Oper.mk _ (.buildSlice _ _ _) _ _ _ _ :: _) _ _)); refine wpl_build3 hE rfl rfl rfl rfl rfl ?_; clear hE; intro bs w9 hE))
  replace hE := hE.front 1 rfl
  simp only [List.eraseIdx_cons_succ, List.eraseIdx_cons_zero] at hE
  obtain ⟨CAN, hCAN⟩ : ∃ CAN : List (List UInt8 × Value) → List HProp, CAN = fun kp => mapK r12 kS kp :: pt bs (.cells #[.map (some r1), .map (some r2), .map (some r3)] 58) :: mapK r1 kS (sidesK b) :: mapK r2 kS (sidesK o) :: mapK r3 kS (sidesK t) :: pt c6 (.cells #[.bool false, .string ⟨#[]⟩, .slice none 0 0] 35) :: L1 := ⟨_, rfl⟩
  have HCAN := SL.hid hCAN
  have hE2 : Ent (CAN []) w9 := by rw [hCAN]; exact hE
  clear hE hCAN
  go_loopw [46] (fun i wr => ∃ (k : Nat) (kp : List (List UInt8 × Value)), k ≤ 3 ∧ i = .int .i64 k ∧ PkI ((([b, o, t].take k).map fun es => es.map En.path).flatten) [] [] kp ∧ Ent (CAN kp) wr) (fun i _ => 3 - (intOf i).toNat)
  case atStart => exact ⟨0, [], by omega, rfl, ⟨by simp, by simp, by simp, by simp⟩, hE2⟩
  case round =>
    clear hE2
    obtain ⟨k, kp, hk3, rfl, hP, hE⟩ := hrel
    by_cases hlt : k < 3
    · obtain ⟨rk, ek, R, hR, hback, hld, hbase⟩ : ∃ (rk : Nat) (ek : List En) (R : List HProp), Ent (mapK r12 kS kp :: mapK rk kS (sidesK ek) :: R) wr ∧ (∀ kp W, Ent (mapK r12 kS kp :: mapK rk kS (sidesK ek) :: R) W → Ent (CAN kp) W) ∧
          (∀ W, Ent (mapK r12 kS kp :: mapK rk kS (sidesK ek) :: R) W → (Instr.loadAt 58 (.pointer (some ⟨bs, k, none⟩))).run Tryd.prog W = .ok (.map (some rk)) W) ∧
          (([b, o, t].take (k + 1)).map fun es => es.map En.path).flatten = (([b, o, t].take k).map fun es => es.map En.path).flatten ++ ek.map En.path := by
        rw [HCAN.out] at hE ⊢
        obtain rfl | rfl | rfl : k = 0 ∨ k = 1 ∨ k = 2 := by omega
        · exact ⟨r1, b, _, (hE.front 2 rfl).front 1 rfl, fun kp W h => (h.front 2 rfl).front 1 rfl, fun W h => atVq h, by simp⟩
        · exact ⟨r2, o, _, (hE.front 3 rfl).front 1 rfl, fun kp W h => (((h.front 2 rfl).front 3 rfl).front 1 rfl).front 2 rfl, fun W h => atVq h, by simp⟩
        · exact ⟨r3, t, _, (hE.front 4 rfl).front 1 rfl, fun kp W h => (((h.front 4 rfl).front 4 rfl).front 4 rfl).front 3 rfl, fun W h => atVq h, by simp⟩
      have Hld := SL.hid hld
      have Hback := SL.hid hback
      have Hbase := SL.hid hbase
      have HP := SL.hid hP
      have hl0 := hld _ hR
      have hkn : decide ((k : Int) < 3) = true := decide_eq_true (by omega)
      have hki : (k : Int) < 3 := by omega
      clear hld hback hbase hE hP
      go_wp2_with (first
        | go_skip
        | ((with_reducible (show Go.wpList _ _ _ (Go.Oper.mk _ (.range _ _) _ _ _ _ :: _) _ _)); refine wpl_rangeK hR 1 rfl rfl rfl rfl Tryd.underlying58 ?_; clear hR; intro it w10 hR; simp only [List.set_cons_succ, List.set_cons_zero] at hR))
      clear hl0
      simp only [Act.put, List.setIfInBounds_toArray, List.set_cons_succ, List.set_cons_zero]
      go_loopw [52] (fun _ wr => ∃ (left : List (List UInt8 × Value)) (cur : Option (List UInt8 × Value)) (kp : List (List UInt8 × Value)), PkI ((([b, o, t].take k).map fun es => es.map En.path).flatten) (ek.map En.path) (left.map Prod.fst) kp ∧ (∀ p ∈ left, p.1 ∈ ek.map En.path) ∧ Ent (mapK r12 kS kp :: itK rk it kS (sidesK ek) left cur :: R) wr) (fun _ wr => leftN rk it wr)
      case atStart =>
        refine ⟨sidesK ek, none, kp, ?_, fun p hp => by rw [← sides_keys]; exact List.mem_map_of_mem hp, hR⟩
        rw [sides_keys]
        have h := PkI.done (es' := ek.map En.path) HP.out
        rwa [List.append_nil] at h
      case round =>
        clear hR HP
        obtain ⟨left, cur, kp, hP, hin, hE⟩ := hrel
        have HP := SL.hid hP
        have Hin := SL.hid hin
        have Hn := SL.hid (leftN_eq hE 1 rfl)
        clear hP hin
        cases left with
        | nil =>
          go_wp2_with (first
            | go_skip
            | ((with_reducible (show Go.wpList _ _ _ (Go.Oper.mk _ (.next _ _) _ _ _ _ :: _) _ _)); refine wpl_nextK hE 1 rfl rfl rfl rfl (fun _ => ?_) (fun A p B w' h => absurd h (by simp))))
          have hF := Hback.out _ _ (hE.ranged 1 rfl)
          go_roundw
          case rel =>
            have h := PkI.done (es' := []) HP.out
            rw [← Hbase.out] at h
            exact ⟨k + 1, kp, hlt, by first | rfl | simp, h, hF⟩
          case measure => simp [intOf] <;> omega
        | cons q left =>
          go_wp2_with (first
            | go_skip
            | ((with_reducible (show Go.wpList _ _ _ (Go.Oper.mk _ (.next _ _) _ _ _ _ :: _) _ _)); refine wpl_nextK hE 1 rfl rfl rfl rfl (fun h => absurd h (by simp)) ?_; clear hE; rintro A ⟨pk, pv⟩ B w3 hl hE; simp only [List.set_cons_succ, List.set_cons_zero] at hE; have hen := run_entryK (P := Tryd.prog) hE 1 rfl; have Hl := SL.hid hl; clear hl)
            | (refine upX (n := pk) keyS hE Tryd.underlying60 Tryd.underlying9 ?_; clear hE hen; intro w4 hE))
          simp only [Act.put, kS]
          go_roundw
          case rel =>
            refine ⟨A ++ B, some (pk, pv), _, ?_, fun p hp => Hin.out p (by rw [Hl.out]; rcases List.mem_append.1 hp with h | h; exact List.mem_append_left _ h; exact List.mem_append_right _ (List.mem_cons_of_mem _ h)), hE⟩
            have h := HP.out
            rw [Hl.out, List.map_append, List.map_cons] at h
            have h2 := h.step (Hin.out (pk, pv) (by rw [Hl.out]; simp))
            rw [List.map_append]
            exact h2
          case measure =>
            rw [leftN_eq hE 1 rfl, Hn.out, Hl.out]
            simp
    · obtain rfl : k = 3 := by omega
      have hkeys : sortK (kp.map Prod.fst) = keysM b o t := by
        refine riseP_ext (sortK_rise _) (keysM_rise b o t) fun k => ?_
        obtain ⟨_, h2, h3, _⟩ := hP
        rw [sortK_mem, keysM_mem]
        simp only [List.take_succ_cons, List.take_zero, List.map_cons, List.map_nil, List.flatten_cons, List.flatten_nil, List.append_nil, List.mem_append, List.not_mem_nil, or_false] at h2 h3
        exact ⟨fun h => h2 k h, fun h => h3 k h⟩
      obtain ⟨hkf, hks⟩ := keys_few F1.out F2.out F3.out
      have hkl : ∀ x ∈ kp.map Prod.fst, x.length ≤ 200 := fun x hx => (hks x (by rw [← hkeys, sortK_mem]; exact hx)).1
      have hkn : kp.length ≤ 1000000 := by
        have h1 := List.Nodup.length_le_of_subset hP.1 (fun x hx => by rw [← sortK_mem, hkeys] at hx; exact hx)
        rw [List.length_map] at h1
        omega
      have HSF := SL.hid (fun (c : Nat) (L : List HProp) (w : World) (hE : Ent (pt c (.cells #[.map (some r12)] 60) :: mapK r12 kS kp :: L) w) => SortedFunc_any hkn hP.1 (fun x hx => by have := hkl x hx; omega) hE)
      rw [hkeys] at HSF
      have Hks := SL.hid hks
      have Hkf := SL.hid hkf
      have Hrise := SL.hid (keysM_rise b o t)
      rw [HCAN.out] at hE
      clear hkeys hkl hkn hks hkf hP HCAN
      generalize hK : keysM b o t = K at *
      have HK := SL.hid hK
      clear hK
      go_wp2_with (first
        | go_skip
        | (go_at_call 21; refine (Keys_any hE).mono ?_; clear hE; rintro e w3 ⟨v, rfl, ck, rfl, hE⟩)
        | (go_at_call 20; refine (HSF.out _ _ _ hE).mono ?_; clear hE HSF; rintro e w4 ⟨v, rfl, ka, kc, rfl, hE⟩)
        | ((with_reducible (show Go.wpList _ _ _ (Go.Oper.mk _ (.makeMap 58 _) _ _ _ _ :: _) _ _)); refine wpl_makeK kS hE rfl rfl ?_; clear hE; intro rc w5 hE)
        | ((with_reducible (show Go.wpList _ _ _ (Go.Oper.mk _ (.makeMap 60 _) _ _ _ _ :: _) _ _)); refine wpl_makeK kS hE rfl rfl ?_; clear hE; intro rb w6 hE)
        | ((with_reducible (show Go.wpList _ _ _ (Go.Oper.mk _ (.alloc 58) _ _ _ _ :: _) _ _)); (refine alX hE ?_; clear hE; intro c17 w hE))
        | ((with_reducible (show Go.wpList _ _ _ (Go.Oper.mk _ (.alloc 60) _ _ _ _ :: _) _ _)); (refine alX hE ?_; clear hE; intro c18 w hE))
        | (refine stX (v := .map (some rc)) hE ?_; clear hE; intro w hE)
        | (refine stX (v := .map (some rb)) hE ?_; clear hE; intro w hE))
      have hE2 : Ent (pt c18 (.cells #[.map (some rb)] 60) :: pt c17 (.cells #[.map (some rc)] 58) :: mapK rb kS (bdK b o t (K.take 0)) :: mapK rc kS (chK b o t (K.take 0)) :: rowS ka kc K :: pt bs (.cells #[.map (some r1), .map (some r2), .map (some r3)] 58) :: mgL c6 r1 r2 r3 b o t L1) w := hE
      clear hE
      go_loopw [66] (fun i wr => ∃ k : Nat, k ≤ K.length ∧ i = .int .i64 k ∧ Ent (pt c18 (.cells #[.map (some rb)] 60) :: pt c17 (.cells #[.map (some rc)] 58) :: mapK rb kS (bdK b o t (K.take k)) :: mapK rc kS (chK b o t (K.take k)) :: rowS ka kc K :: pt bs (.cells #[.map (some r1), .map (some r2), .map (some r3)] 58) :: mgL c6 r1 r2 r3 b o t L1) wr) (fun i _ => K.length - (intOf i).toNat)
      case atStart => exact ⟨0, Nat.zero_le _, rfl, hE2⟩
      case round =>
        clear hE2
        obtain ⟨k, hkn, rfl, hE⟩ := hrel
        have hkf := Hkf.out
        by_cases hlt : k < K.length
        · obtain ⟨pb, po, rfl, hcell⟩ := str_at2 (reads_row hE 4 rfl) hlt
          have hl0 : (Instr.loadAt 9 (.pointer (some ⟨pb, po + k, none⟩))).run Tryd.prog wr = .ok (.string ⟨K[k].toArray⟩) wr := atCell hcell (by simp [go_sem])
          clear hcell
          have S1 := SL.hid (look_sides b K[k])
          have S2 := SL.hid (look_sides o K[k])
          have S3 := SL.hid (look_sides t K[k])
          have HC := SL.hid (fun (L : List HProp) (w : World) (hE : Ent L w) => show Calls Tryd.prog 8 #[sdV (fE b K[k]), sdV (fE o K[k]), sdV (fE t K[k])] w (Ret fun v w' => v = .tuple #[sdV (ch0 b o t K[k]).1, .bool (ch0 b o t K[k]).2] ∧ Ent L w') from Choose_any _ _ _ hE)
          have M1 := SL.hid (show setK (chK b o t (K.take k)) K[k] (sdV (ch0 b o t K[k]).1) = chK b o t (K.take (k + 1)) from map_set (f := fun p => sdV (ch0 b o t p).1) Hrise.out.nodup hlt)
          have M2 := SL.hid (show setK (bdK b o t (K.take k)) K[k] (.bool (!(ch0 b o t K[k]).2)) = bdK b o t (K.take (k + 1)) from map_set (f := fun p => Value.bool (!(ch0 b o t p).2)) Hrise.out.nodup hlt)
          generalize K[k] = p at *
          generalize ch0 b o t p = cc at *
          generalize fE b p = x1 at *
          generalize fE o p = x2 at *
          generalize fE t p = x3 at *
          obtain ⟨⟨ct, cd, cb⟩, cf⟩ := cc
          go_wp2_with (first
            | go_skip
            | (refine lkX keyS hE Tryd.underlying58 Tryd.underlying9 (z := sdV .no) (fun w => by simp [go_sem]; rfl) S1.out ?_)
            | (refine lkX keyS hE Tryd.underlying58 Tryd.underlying9 (z := sdV .no) (fun w => by simp [go_sem]; rfl) S2.out ?_)
            | (refine lkX keyS hE Tryd.underlying58 Tryd.underlying9 (z := sdV .no) (fun w => by simp [go_sem]; rfl) S3.out ?_)
            | (go_at_call 8; refine (HC.out _ _ hE).mono ?_; clear hE; rintro e w3 ⟨v, rfl, rfl, hE⟩)
            | (refine alX hE ?_; clear hE; intro c21 w hE)
            | (refine swX (t := 25) hE [.bool ct, .bool cd, .string ⟨cb.toArray⟩] Tryd.sizeOf25 ?_; clear hE; intro w hE))
          have hO := hE.drew
          clear hE
          refine wp_onlyN ?_
          refine wp_region_held_drew (S := (fun w' => ((Instr.loadAt 58 (.pointer (some ⟨c17, 0, none⟩))).run Tryd.prog w' = .ok (.map (some rc)) w') ∧ ((Instr.loadAt 60 (.pointer (some ⟨c18, 0, none⟩))).run Tryd.prog w' = .ok (.map (some rb)) w') ∧ ((Instr.loadAt 25 (.pointer (some ⟨c21, 0, none⟩))).run Tryd.prog w' = .ok (.agg [.bool ct, .bool cd, .string ⟨cb.toArray⟩].toArray) w'))) (by kernel_rfl) ⟨(atVq hO), (atVq hO), (atWq hO Tryd.isAgg25 Tryd.sizeOf25)⟩ (fun hS => ?_)
          refine tL 0 hS ?_; refine tV 1 hS ?_; refine tL 2 hS ?_; refine tV 3 hS ?_; refine tL 4 hS ?_; refine tV 5 hS ?_; refine tV 6 hS ?_
          refine tO 7 (fun K hK => ?_)
          (refine step_updK keyS hO (n := p) (v := sdV ⟨ct, cd, cb⟩) Tryd.underlying58 Tryd.underlying9 ?_; clear hO; intro w5 hO)
          refine tK hK ⟨(atVq hO), (atVq hO), (atWq hO Tryd.isAgg25 Tryd.sizeOf25)⟩ (fun hS => ?_); clear hK K
          refine tO 8 (fun K hK => ?_)
          (refine step_updK keyS hO (n := p) (v := .bool (!cf)) Tryd.underlying60 Tryd.underlying9 ?_; clear hO; intro w6 hO)
          refine tK hK ⟨(atVq hO), (atVq hO), (atWq hO Tryd.isAgg25 Tryd.sizeOf25)⟩ (fun hS => ?_); clear hK K
          refine wpAnyH_done (by kernel_rfl) ?_ _
          refine onlyN_n ?_
          clear hS
          go_wp2
          go_roundw
          case rel =>
            rw [M1.out, M2.out] at hO
            exact ⟨k + 1, hlt, by first | rfl | simp, hO.tail⟩
          case measure => simp [intOf] <;> omega
        · obtain rfl : k = K.length := by omega
          rw [List.take_length] at hE
          clear hlt hkn
          go_wp2_with (first
            | go_skip
            | ((with_reducible (show Go.wpList _ _ _ (Go.Oper.mk _ (.alloc _) _ _ _ _ :: _) _ _)); (refine alX hE ?_; clear hE; intro c23 w hE))
            | (refine stX (v := fnM c17 c18) hE ?_; clear hE; intro w hE))
          have hE2 : Ent (mgE c17 c18 c23 rc rb (chK b o t K) (bdK b o t K) (rowS ka kc K :: mgL c6 r1 r2 r3 b o t (L1 ++ ([] : List Nat).map ptD))) w := by
            rw [List.map_nil, List.append_nil]
            exact ((((hE.erase 6).front 1 rfl).front 2 rfl).front 3 rfl).front 4 rfl
          clear hE
          refine act_list fun T hT => ?_
          have HT := SL.hid hT
          clear hT
          refine wp_loop (fun a w => ∃ (k : Nat) (Ds : List Nat) (x25 x95 x96 x97 x98 x99 x100 x101 x102 x103 x104 x109 : Value) (kc' kb' : List (List UInt8 × Value)), a = { tmps := (((((((((((((T.set 25 x25).set 95 x95).set 96 x96).set 97 x97).set 98 x98).set 99 x99).set 100 x100).set 101 x101).set 102 x102).set 103 x103).set 104 x104).set 109 x109).set 94 (.int .i64 k)).toArray, defers := Ds.map mkD } ∧ k ≤ K.length ∧ ChI b o t (need0 b o t (K.take k)) K kc' kb' ∧
              Ent (mgE c17 c18 c23 rc rb kc' kb' (rowS ka kc K :: mgL c6 r1 r2 r3 b o t (L1 ++ Ds.map ptD))) w) (fun a _ => K.length - (intOf (a.tmps.getD 94 undef)).toNat)
            ⟨0, [], _, _, _, _, _, _, _, _, _, _, _, _, _, _, by rw [HT.out]; rfl, Nat.zero_le _, by have h := chI_start b o t; rw [HK.out] at h; exact h, hE2⟩ ?_
          clear hE2
          rintro a w ⟨k, Ds, x25, x95, x96, x97, x98, x99, x100, x101, x102, x103, x104, x109, kc', kb', rfl, hkn, hI, hE⟩
          rw [HT.out]
          simp only [List.set_cons_succ, List.set_cons_zero]
          by_cases hlt : k < K.length
          · have hpK := List.getElem_mem hlt
            have hlk := (hI _ hpK).1
            have hth : (stC b o t (need0 b o t (K.take k)) K[k]).there = (ch0 b o t K[k]).1.there := by
              have e := HK.out
              subst e
              exact there_now hlt
            have hst := need_step (b := b) (o := o) (t := t) hlt
            have hpl := (Hks.out _ hpK).1
            obtain ⟨pb, po, rfl, hcell⟩ := str_at2 (reads_row hE 5 rfl) hlt
            have hl0 : (Instr.loadAt 9 (.pointer (some ⟨pb, po + k, none⟩))).run Tryd.prog w = .ok (.string ⟨K[k].toArray⟩) w := atCell hcell (by simp [go_sem])
            clear hcell
            have hkf := Hkf.out
            have hki : (k : Int) < (K.length : Int) := by omega
            have hkd : decide ((k : Int) < (K.length : Int)) = true := decide_eq_true hki
            cases hc : (ch0 b o t K[k]).1.there with
            | false =>
              rw [hc] at hth hst
              rw [if_neg (by simp), List.append_nil] at hst
              have Hv : Go.RowKit.Hid ((lookK kc' K[k]).getD (sdV .no) = .agg #[.bool false, .bool (stC b o t (need0 b o t (K.take k)) K[k]).dir, .string ⟨(stC b o t (need0 b o t (K.take k)) K[k]).data.toArray⟩]) := SL.hid (by rw [hlk]; show sdV _ = _; rw [sdV, hth])
              have HI := SL.hid hI
              have Hst := SL.hid hst
              clear hlk hth hst hI hc hpK hpl
              generalize K[k] = p at *
              generalize (stC b o t (need0 b o t (K.take k)) p).dir = sd at *
              generalize (stC b o t (need0 b o t (K.take k)) p).data = sb at *
              have hfd : ∀ w, (Instr.field 25 (.agg #[.bool false, .bool sd, .string ⟨sb.toArray⟩]) 0).run Tryd.prog w = .ok (.bool false) w := fun w => by kernel_rfl
              go_wp2_with (first
                | go_skip
                | (refine lkX keyS hE Tryd.underlying58 Tryd.underlying9 (z := sdV .no) (fun w => by simp [go_sem]; rfl) Hv.out ?_)
                | (refine ldX hE ?_))
              exact ⟨⟨k + 1, Ds, _, _, _, _, _, _, _, _, _, _, _, _, kc', kb', by first | rfl | simp, hlt, by rw [Hst.out]; exact HI.out, hE⟩, by simp [intOf] <;> omega⟩
            | true =>
              rw [hc] at hth hst
              rw [if_pos rfl] at hst
              have Hin := SL.hid (show ∀ q ∈ abovL K[k], q ∈ K from fun q hq => by
                have e := HK.out
                have h := above_in F2.out.tree F3.out.tree hc hq
                rw [e] at h
                exact h)
              have Hv : Go.RowKit.Hid ((lookK kc' K[k]).getD (sdV .no) = .agg #[.bool true, .bool (stC b o t (need0 b o t (K.take k)) K[k]).dir, .string ⟨(stC b o t (need0 b o t (K.take k)) K[k]).data.toArray⟩]) := SL.hid (by rw [hlk]; show sdV _ = _; rw [sdV, hth])
              have HI := SL.hid hI
              have Hst := SL.hid hst
              clear hlk hth hst hI hc hpK
              generalize K[k] = p at *
              generalize (stC b o t (need0 b o t (K.take k)) p).dir = sd at *
              generalize (stC b o t (need0 b o t (K.take k)) p).data = sb at *
              generalize need0 b o t (K.take k) = D at *
              have hfd : ∀ w, (Instr.field 25 (.agg #[.bool true, .bool sd, .string ⟨sb.toArray⟩]) 0).run Tryd.prog w = .ok (.bool true) w := fun w => by kernel_rfl
              go_wp2_with (first
                | go_skip
                | (refine lkX keyS hE Tryd.underlying58 Tryd.underlying9 (z := sdV .no) (fun w => by simp [go_sem]; rfl) Hv.out ?_)
                | (go_at_call 23; refine (above_any p hE).mono ?_; clear hE; rintro e w3 ⟨v, rfl, ca, rfl, hE⟩)
                | (refine ldX hE ?_))
              refine act_list fun T2 hT2 => ?_
              refine wpIn_wide.1 (wpIn_rangeSLN (β := Unit) (gf := 37) (by rw [hT2]; rfl) (enters_of Tryd.func37 (by kernel_rfl) rfl) (above_iter p (by omega) ca) (fun _ => rfl)
                (nI b o t D K rc rb (pt c17 (.cells #[.map (some rc)] 58) :: pt c18 (.cells #[.map (some rb)] 60) :: pt c23 (.cells #[fnM c17 c18] 67) :: rowS (some ⟨pb, po, none⟩) kc K :: mgL c6 r1 r2 r3 b o t (L1 ++ Ds.map ptD))) (fun _ _ => [ex fun _ : False => []]) ?e0
                (fun x _ => { tmps := ((T2.set 105 (.string ⟨x.toArray⟩)).set 26 (.string ⟨x.toArray⟩)).toArray, defers := [] }) (fun _ _ => []) ?assign ?body ?done ?stop)
              case e0 =>
                have h := (hE.front 2 rfl).front 2 rfl
                exact (Ent.pack (f := fun z : { z : List (List UInt8 × Value) × List (List UInt8 × Value) // ChI b o t (D ++ []) K z.1 z.2 } => [mapK rc kS z.1.1, mapK rb kS z.1.2]) ⟨(kc', kb'), by rw [List.append_nil]; exact HI.out⟩ h).front 1 rfl
              case assign =>
                intro lp x W L KK hL hKK
                subst hT2
                simp only [List.set_cons_succ, List.set_cons_zero] at hKK
                gi_wp2
                exact hKK () _ hL
              case stop =>
                intro D' c pre W hpre hW
                obtain ⟨h, _⟩ := (hW.front 1 rfl).unpack
                exact h.elim
              case body =>
                intro lp pre x _ W L hpre hW
                have hx := Hin.out x (hpre.subset (by simp))
                obtain ⟨⟨⟨kc2, kb2⟩, hI2⟩, hW'⟩ := (hW.front 0 rfl).unpack
                replace hW : Ent (mgE c17 c18 c23 rc rb kc2 kb2 (rowS (some ⟨pb, po, none⟩) kc K :: mgL c6 r1 r2 r3 b o t (L1 ++ Ds.map ptD) ++ L)) W := hW'
                clear hW'
                have HN := SL.hid (needs_any hI2 hx hW)
                subst hT2
                simp only [List.set_cons_succ, List.set_cons_zero]
                gi_wp2_with (first
                  | (refine wplIn_one rfl rfl rfl (by intro c h; cases h) (by rintro ⟨_, _, h⟩; exact h) ?_; refine ldX hW ?_; refine wplIn_nil ?_))
                refine (CallsIn.inRound lp (callsIn_wide.2 HN.out)).mono ?_
                clear hW
                rintro e w' ⟨v, rfl, kc3, kb3, hI3, hW3⟩
                gi_wp2
                exact Ent.pack (f := fun z : { z : List (List UInt8 × Value) × List (List UInt8 × Value) // ChI b o t (D ++ (pre ++ [x])) K z.1 z.2 } => [mapK rc kS z.1.1, mapK rb kS z.1.2]) ⟨(kc3, kb3), by rw [← List.append_assoc]; exact hI3⟩ hW3
              case done =>
                intro D' pre W hfin hW
                subst hfin
                obtain ⟨⟨⟨kc2, kb2⟩, hI2⟩, hW'⟩ := (hW.front 1 rfl).unpack
                subst hT2
                replace hW : Ent (mgE c17 c18 c23 rc rb kc2 kb2 (rowS (some ⟨pb, po, none⟩) kc K :: mgL c6 r1 r2 r3 b o t (L1 ++ (D' :: Ds).map ptD))) W :=
                  (hW'.front 2 rfl).perm (List.perm_middle (a := ptD D') (l₁ := _ :: _ :: _ :: _ :: _ :: _ :: _ :: _ :: _ :: _ :: L1) (l₂ := Ds.map ptD)).symm
                clear hW' hE
                go_wp2
                exact ⟨⟨k + 1, D' :: Ds, ⟨by simp, rfl⟩, hlt, kc2, kb2, by rw [Hst.out]; exact hI2, hW⟩, by simp [intOf] <;> omega⟩
          · obtain rfl : k = K.length := by omega
            rw [List.take_length] at hI
            have HI := SL.hid (show ∀ p ∈ K, lookK kc' p = some (sdV (finM b o t p)) ∧ lookK kb' p = some (.bool (badM b o t p)) from fun p hp => by
              have e := HK.out
              have h1 := hI p hp
              rw [← e] at h1
              have h2 := st_fin (b := b) (o := o) (t := t) (Hks.out p hp).2
              rw [h2.1, h2.2] at h1
              exact h1)
            have Hlk := SL.hid (show ∀ k, (outK b o t (K.take k)).length ≤ 300 ∧ (conK b o t (K.take k)).length ≤ 300 from fun k => by
              have h1 := Hkf.out
              have h2 : (outK b o t (K.take k)).length ≤ (K.take k).length := List.length_filterMap_le ..
              have h3 : (conK b o t (K.take k)).length ≤ (K.take k).length := List.length_filterMap_le ..
              rw [List.length_take] at h2 h3
              omega)
            have HOF := SL.hid (out_fits F1.out F2.out F3.out)
            clear hI hlt hkn Hrise
            go_wp2
            have hE2 : Ent (rowEn none 0 (outK b o t (K.take 0)) :: rowCf none 0 (conK b o t (K.take 0)) :: mgE c17 c18 c23 rc rb kc' kb' (rowS ka kc K :: mgL c6 r1 r2 r3 b o t (L1 ++ Ds.map ptD))) w := (hE.nil _ _).nil _ _
            clear hE
            go_loopw [27, 28, 112] (fun v27 v28 i wr => ∃ (k : Nat) (a1 : Option Addr) (c1 : Nat) (a2 : Option Addr) (c2 : Nat), k ≤ K.length ∧ i = .int .i64 k ∧ v27 = .slice a1 (outK b o t (K.take k)).length c1 ∧ v28 = .slice a2 (conK b o t (K.take k)).length c2 ∧
              Ent (rowEn a1 c1 (outK b o t (K.take k)) :: rowCf a2 c2 (conK b o t (K.take k)) :: mgE c17 c18 c23 rc rb kc' kb' (rowS ka kc K :: mgL c6 r1 r2 r3 b o t (L1 ++ Ds.map ptD))) wr) (fun _ _ i _ => K.length - (intOf i).toNat)
            case atStart => exact ⟨0, none, 0, none, 0, Nat.zero_le _, rfl, rfl, rfl, hE2⟩
            case round =>
              clear hE2
              obtain ⟨k, a1, c1, a2, c2, hkn, rfl, rfl, rfl, hE⟩ := hrel
              have hkf := Hkf.out
              by_cases hlt : k < K.length
              · have hpK := List.getElem_mem hlt
                obtain ⟨pb, po, rfl, hcell⟩ := str_at2 (reads_row hE 7 rfl) hlt
                have hl0 : (Instr.loadAt 9 (.pointer (some ⟨pb, po + k, none⟩))).run Tryd.prog wr = .ok (.string ⟨K[k].toArray⟩) wr := atCell hcell (by simp [go_sem])
                clear hcell
                have hki : (k : Int) < (K.length : Int) := by omega
                have hkd : decide ((k : Int) < (K.length : Int)) = true := decide_eq_true hki
                have Ho := SL.hid (outK_step (b := b) (o := o) (t := t) hlt)
                have Hc := SL.hid (conK_step (b := b) (o := o) (t := t) hlt)
                have Hle1 := (Hlk.out k).1
                have Hle2 := (Hlk.out k).2
                have Hv := SL.hid (show (lookK kc' K[k]).getD (sdV .no) = sdV (finM b o t K[k]) from by rw [(HI.out _ hpK).1]; rfl)
                have Hb := SL.hid (show (lookK kb' K[k]).getD (.bool false) = .bool (badM b o t K[k]) from by rw [(HI.out _ hpK).2]; rfl)
                have S1 := SL.hid (look_sides b K[k])
                have S2 := SL.hid (look_sides o K[k])
                have S3 := SL.hid (look_sides t K[k])
                clear hpK hkn
                generalize K[k] = p at *
                generalize outK b o t (K.take k) = es at *
                generalize conK b o t (K.take k) = cs at *
                generalize finM b o t p = ff at *
                generalize badM b o t p = bm at *
                generalize fE b p = x1 at *
                generalize fE o p = x2 at *
                generalize fE t p = x3 at *
                obtain ⟨ft, fd, fb⟩ := ff
                obtain ⟨x1t, x1d, x1b⟩ := x1
                obtain ⟨x2t, x2d, x2b⟩ := x2
                obtain ⟨x3t, x3d, x3b⟩ := x3
                unfold sdV at Hv S1 S2 S3
                simp only at Hv S1 S2 S3
                cases ft <;> cases bm
                all_goals
                  go_wp2_with (first
                    | go_skip
                    | (refine lkX keyS hE Tryd.underlying58 Tryd.underlying9 (z := sdV .no) (fun w => by simp [go_sem]; rfl) Hv.out ?_)
                    | (refine lkX keyS hE Tryd.underlying60 Tryd.underlying9 (z := .bool false) (fun w => by simp [go_sem]) Hb.out ?_)
                    | (refine lkX keyS hE Tryd.underlying58 Tryd.underlying9 (z := sdV .no) (fun w => by simp [go_sem]; rfl) S1.out ?_)
                    | (refine lkX keyS hE Tryd.underlying58 Tryd.underlying9 (z := sdV .no) (fun w => by simp [go_sem]; rfl) S2.out ?_)
                    | (refine lkX keyS hE Tryd.underlying58 Tryd.underlying9 (z := sdV .no) (fun w => by simp [go_sem]; rfl) S3.out ?_)
                    | (refine alX hE ?_; clear hE; intro c31 w hE)
                    | ((with_reducible (show Go.wpList _ _ _ (Go.Oper.mk _ (.buildSlice 32 _ _) _ _ _ _ :: _) _ _)); refine wpl_build1 hE rfl rfl (xs := enC ⟨p, fd, fb⟩) rfl Tryd.underlying32 zs_en Tryd.sizeOf51 (by decide) (by decide) rfl ?_; clear hE; intro be w1 hE)
                    | ((with_reducible (show Go.wpList _ _ _ (Go.Oper.mk _ (.buildSlice 38 _ _) _ _ _ _ :: _) _ _)); refine wpl_build1 hE rfl rfl (xs := cfC ⟨p, ⟨x1t, x1d, x1b⟩, ⟨x2t, x2d, x2b⟩, ⟨x3t, x3d, x3b⟩⟩) rfl Tryd.underlying38 zs_cf Tryd.sizeOf46 (by decide) (by decide) rfl ?_; clear hE; intro bf w2 hE)
                    | ((with_reducible (show Go.wpList _ _ _ (Go.Oper.mk _ (.call { callee := .builtin .append, args := _, argTypes := #[32, 32] }) _ _ _ _ :: _) _ _)); refine wpl_appendG hE 2 rfl rfl rfl rfl rfl Tryd.underlying32 info_en (by decide) (m := 1) (news := enC ⟨p, fd, fb⟩) (reads_pt hE 0 rfl (off := 0) (fun j u hu => by rw [Nat.zero_add, List.getElem?_toArray]; exact hu)) rfl (by simp [enC, Value.oneCell']) (by omega) (by omega) ?_; clear hE; intro a1' c1' w3 hE; simp only [List.set_cons_zero, List.set_cons_succ] at hE; rw [en_grow] at hE; replace hE := hE.tail)
                    | ((with_reducible (show Go.wpList _ _ _ (Go.Oper.mk _ (.call { callee := .builtin .append, args := _, argTypes := #[38, 38] }) _ _ _ _ :: _) _ _)); refine wpl_appendG hE 3 rfl rfl rfl rfl rfl Tryd.underlying38 info_cf (by decide) (m := 1) (news := cfC ⟨p, ⟨x1t, x1d, x1b⟩, ⟨x2t, x2d, x2b⟩, ⟨x3t, x3d, x3b⟩⟩) (reads_pt hE 0 rfl (off := 0) (fun j u hu => by rw [Nat.zero_add, List.getElem?_toArray]; exact hu)) rfl (cfC_one _) (by omega) (by omega) ?_; clear hE; intro a2' c2' w4 hE; simp only [List.set_cons_zero, List.set_cons_succ] at hE; rw [cf_grow] at hE; replace hE := hE.tail)
                    | (refine swX (t := 25) hE [.bool false, .bool fd, .string ⟨fb.toArray⟩] Tryd.sizeOf25 ?_; clear hE; intro w hE)
                    | (refine swX (t := 25) hE [.bool true, .bool fd, .string ⟨fb.toArray⟩] Tryd.sizeOf25 ?_; clear hE; intro w hE)
                    | (refine ldX hE ?_))
                  go_roundw
                  case rel =>
                    have e1 := Ho.out
                    have e2 := Hc.out
                    simp only [if_true, Bool.false_eq_true, if_false, List.append_nil] at e1 e2
                    replace hE := hE.tail
                    rw [← e1, ← e2] at hE
                    exact ⟨k + 1, _, _, _, _, hlt, by first | rfl | simp, by simp only [e1, List.length_append, List.length_cons, List.length_nil, Nat.zero_add], by simp only [e2, List.length_append, List.length_cons, List.length_nil, Nat.zero_add], hE⟩
                  case measure => simp [intOf] <;> omega
              · obtain rfl : k = K.length := by omega
                have e1 : outK b o t (K.take K.length) = outM b o t := by rw [List.take_length]; have e := HK.out; subst e; rfl
                have e2 : conK b o t (K.take K.length) = conM b o t := by rw [List.take_length]; have e := HK.out; subst e; rfl
                rw [e1, e2] at hE ⊢
                have HBu := SL.hid (fun (L : List HProp) (w : World) (a1 : Option Addr) (c1 : Nat) (hk : Knows L (reads (.slice a1 (outM b o t).length c1) (outM b o t).length ((outM b o t).flatMap enC))) (h : Ent L w) => Build_any (es := outM b o t) (ao := a1) (c := c1) (by have := HOF.out.1; omega) (fun x hx => ⟨by have := (HOF.out.2 x hx).1; omega, by have := (HOF.out.2 x hx).2; omega⟩) hk h)
                have HT := SL.hid (show mrgT b o t = (buildT (outM b o t)).2 from rfl)
                have HCm := SL.hid (show mrgC b o t = if (buildT (outM b o t)).1 = 0 then conM b o t else [] from rfl)
                have HEe := SL.hid (show mrgE b o t = (buildT (outM b o t)).1 from rfl)
                have hz := buildT_zero (l := outM b o t)
                clear HOF F1 F2 F3 HI Hlk Hks Hkf HK e1 e2
                generalize outM b o t = out at *
                generalize conM b o t = con at *
                generalize buildT out = bt at *
                obtain ⟨er, tr⟩ := bt
                dsimp only at HBu HT HCm HEe hz
                obtain ⟨pre, rfl⟩ := HL1.out
                obtain ⟨G, hG⟩ : ∃ G : List HProp, Ent (anyN c6 :: rowEn a1 c1 out :: rowCf a2 c2 con :: (Ds.map ptD ++ (G ++ l))) wr := by
                  have h : Ent (anyN c6 :: rowEn a1 c1 out :: rowCf a2 c2 con :: ([_, _, _, _, _, _, _, _, _] ++ ((pre ++ l) ++ Ds.map ptD))) wr := anyN_of (hE.front 11 rfl)
                  exact ⟨_, h.perm (perm_start (Ds.map ptD) _ pre l _ _ _)⟩
                have hE := hG
                clear hG HL1
                have HB2 := SL.hid (fun (w : World) (h : Ent (anyN c6 :: rowEn a1 c1 out :: rowCf a2 c2 con :: (Ds.map ptD ++ (G ++ l))) w) => show Calls Tryd.prog 17 #[.slice a1 out.length c1] w (Ret fun v w' => ∃ G' a c, v = .tuple #[.agg #[.bool tr.dir, .string ⟨tr.data.toArray⟩, .slice a tr.kids.length c], .int .i64 er] ∧ Ent (anyN c6 :: rowEn a1 c1 out :: rowCf a2 c2 con :: (Ds.map ptD ++ (G' ++ l))) w' ∧
                    KidsAt (anyN c6 :: rowEn a1 c1 out :: rowCf a2 c2 con :: (Ds.map ptD ++ (G' ++ l))) (.slice a tr.kids.length c) tr.kids) from by
                  refine (HBu.out _ _ a1 c1 (fun W hW => reads_row hW 1 rfl) h).mono ?_
                  rintro e w' ⟨v, rfl, m, kv, rfl, hE, hK⟩
                  obtain ⟨a, c', rfl⟩ := hK.slice
                  have hp := perm_end m (Ds.map ptD) G l (anyN c6) (rowEn a1 c1 out) (rowCf a2 c2 con)
                  exact ⟨_, rfl, m ++ G, a, c', rfl, hE.perm hp, hK.mono (fun p hq W hW => hq W (hW.perm hp.symm))⟩)
                clear HBu
                have hpm : ∀ (A B C : HProp) (X : List HProp), (A :: B :: C :: (Ds.map ptD ++ X)).Perm (Ds.map ptD ++ (A :: B :: C :: X)) := fun A B C X => List.perm_append_comm_assoc [A, B, C] (Ds.map ptD) X
                by_cases h0 : er = 0
                · subst h0
                  rw [if_pos rfl] at HCm
                  clear hz
                  go_wp2_with (first
                    | go_skip
                    | (refine alX hE ?_; clear hE; intro c32 w hE)
                    | (go_at_call 17; refine (HB2.out _ hE).mono ?_; clear hE HB2; rintro e w5 ⟨v, rfl, G', a, c, rfl, hE, hK⟩)
                    | ((with_reducible (show Go.wpList _ _ _ (Go.Oper.mk _ (.store 35 (.tmp 6) _) _ _ _ _ :: _) _ _)); obtain ⟨⟨z0, z1, z2⟩, hU⟩ := (hE.front 1 rfl).unpack; clear hE; refine wpl_storeW hU 0 rfl rfl rfl (xs := [.bool tr.dir, .string ⟨tr.data.toArray⟩, .slice a tr.kids.length c]) rfl rfl Tryd.sizeOf35 rfl (by simp [Value.oneCell']) rfl ?_; clear hU; intro w hE; simp only [List.set_cons_zero, List.cons_append, List.nil_append] at hE)
                    | ((with_reducible (show Go.wpList _ _ _ (Go.Oper.mk _ (.load 35 _) _ _ _ _ :: _) _ _)); refine wpl_loadW hE 0 rfl rfl rfl rfl Tryd.isAgg35 Tryd.sizeOf35 rfl ?_)
                    | (refine swX (t := 35) hE [.bool tr.dir, .string ⟨tr.data.toArray⟩, .slice a tr.kids.length c] Tryd.sizeOf35 ?_; clear hE; intro w hE))
                  have hE3 : Ent (pt c6 (.cells #[.bool tr.dir, .string ⟨tr.data.toArray⟩, .slice a tr.kids.length c] 35) :: rowEn a1 c1 out :: rowCf a2 c2 con :: (Ds.map ptD ++ (G' ++ l))) _ := hE.erase 1
                  refine post_marks2 rfl (hE3.perm (hpm _ _ _ _)) (fun w' hw' => ⟨_, results_c3 rfl hw'.drop 0 rfl rfl Tryd.isAgg35 Tryd.sizeOf35 rfl rfl rfl, _, rfl, ?_⟩)
                  have hw2 : Ent (Ds.map anyD ++ (anyN c6 :: rowEn a1 c1 out :: rowCf a2 c2 con :: (G' ++ l))) w' := (anyN_of (hw'.perm List.perm_middle)).perm List.perm_middle.symm
                  refine ⟨Ds.map anyD ++ (anyN c6 :: rowEn a1 c1 out :: rowCf a2 c2 con :: G'), a2, c2, .slice a tr.kids.length c, by rw [HT.out, HCm.out, HEe.out]; rfl, by simpa only [List.append_assoc, List.cons_append] using hw2, ?_, ?_⟩
                  · rw [HT.out]
                    have h := KidsAt.monoR (fun v n xs h => knows_marks (Ds := Ds) (h.perm (hpm _ _ _ _).symm)) hK
                    simpa only [List.append_assoc, List.cons_append] using h
                  · rw [HCm.out]
                    intro W hW
                    simp only [List.append_assoc, List.cons_append] at hW
                    exact reads_row hW.drop 2 rfl
                · have hne : (er != 0) = true := by simpa using h0
                  rw [if_neg h0] at HCm
                  have hz := hz h0
                  subst hz
                  go_wp2_with (first
                    | go_skip
                    | (refine alX hE ?_; clear hE; intro c32 w hE)
                    | (go_at_call 17; refine (HB2.out _ hE).mono ?_; clear hE HB2; rintro e w5 ⟨v, rfl, G', a, c, rfl, hE, hK⟩)
                    | ((with_reducible (show Go.wpList _ _ _ (Go.Oper.mk _ (.store 35 (.tmp 6) _) _ _ _ _ :: _) _ _)); obtain ⟨⟨z0, z1, z2⟩, hU⟩ := (hE.front 1 rfl).unpack; clear hE; refine wpl_storeW hU 0 rfl rfl rfl (xs := [.bool false, .string ⟨#[]⟩, .slice none 0 0]) rfl rfl Tryd.sizeOf35 rfl (by simp [Value.oneCell']) rfl ?_; clear hU; intro w hE; simp only [List.set_cons_zero, List.cons_append, List.nil_append] at hE)
                    | (refine swX (t := 35) hE [.bool false, .string ⟨#[]⟩, .slice a 0 c] Tryd.sizeOf35 ?_; clear hE; intro w hE))
                  have hE3 : Ent (pt c6 (.cells #[.bool false, .string ⟨#[]⟩, .slice none 0 0] 35) :: rowEn a1 c1 out :: rowCf a2 c2 con :: (Ds.map ptD ++ (G' ++ l))) _ := hE.erase 1
                  refine post_marks2 rfl (hE3.perm (hpm _ _ _ _)) (fun w' hw' => ⟨_, results_c3 rfl hw'.drop 0 rfl rfl Tryd.isAgg35 Tryd.sizeOf35 rfl rfl rfl, _, rfl, ?_⟩)
                  have hw2 : Ent (Ds.map anyD ++ (anyN c6 :: rowEn a1 c1 out :: rowCf a2 c2 con :: (G' ++ l))) w' := (anyN_of (hw'.perm List.perm_middle)).perm List.perm_middle.symm
                  refine ⟨Ds.map anyD ++ (anyN c6 :: rowEn a1 c1 out :: rowCf a2 c2 con :: G'), none, 0, .slice none 0 0, by rw [HT.out, HCm.out, HEe.out]; rfl, by simpa only [List.append_assoc, List.cons_append] using hw2, ?_, ?_⟩
                  · rw [HT.out]
                    exact KidsAt.nil _
                  · rw [HCm.out]
                    exact fun W _ => reads_nil 0 0 rfl _
end Go.Proofs.YtjdignaddfhohaaDoor
namespace Go.Proofs.YtjdignaddfhohaaDoor
open Go.RowKit Go.SL

section
variable {P : Program} {ops : Array Oper} {rest : List Oper} {o : Oper} {a : Act} {Q : Exit → Act → World → Prop} {w : World}
/-- a load that is known by a fact -/
theorem wpl_loadK {t : TypeId} {x : Operand} (ho : o.op = .load t x) (hw : Region.wanted o (yielded ops a.tmps) = true) {p : Option Addr} (hx : a.eval x = .pointer p) {v : Value} (hf : (Instr.loadAt t (.pointer p)).run P w = .ok v w) (h : wpList P ops Q rest (a.put o.dst v) w) : wpList P ops Q (o :: rest) a w := by
  refine wpl_run hw (w' := w) (v := v) ?_ h
  simp [execOp, ho, hx, hf]
end
theorem node_kids {b : Nat} {x y v : Value} {R : List HProp} {w : World} (_ : Ent (pt b (.cells #[x, y, v] 35) :: R) w) : ∀ w, Ent (pt b (.cells #[x, y, v] 35) :: R) w → (Instr.loadAt 33 (.pointer (some ⟨b, 2, none⟩))).run Tryd.prog w = .ok v w := fun _ h => run_load1 h 0 rfl (by simp [go_sem]) rfl
theorem mkid_data {L : List HProp} {a : Option Addr} {c : Nat} (hk : KidsAt L (.slice a 2 c) mT5.kids) {w : World} (hE : Ent L w) : ∃ g o, a = some ⟨g, o, none⟩ ∧ ∀ w, Ent L w → (Instr.loadAt 9 (.pointer (some ⟨g, o + 1 + 1, none⟩))).run Tryd.prog w = .ok (.string ⟨#[98]⟩) w := by
  obtain ⟨ao, c', vs, e, _, hl, hr, _, _⟩ := hk.open
  cases e
  obtain ⟨v, u, rfl⟩ : ∃ v u, vs = [v, u] := by
    match vs, hl with
    | [v, u], _ => exact ⟨v, u, rfl⟩
  obtain ⟨g, o, rfl, _⟩ := reads_form (hr _ hE) (by decide) (by rw [kCs_len rfl]; decide)
  refine ⟨g, o, rfl, fun w h => ?_⟩
  obtain ⟨b', o', e, hz⟩ := reads_form (hr w h) (by decide) (by rw [kCs_len rfl]; decide)
  cases e
  exact atCell (hz 2 (.string ⟨#[98]⟩) rfl) (by simp [go_sem])
theorem mcf_loads {L : List HProp} {a : Option Addr} {c : Nat} (hk : Knows L (reads (.slice a 1 c) 1 (mcf.flatMap cfC))) {w : World} (hE : Ent L w) : ∃ g o, a = some ⟨g, o, none⟩ ∧ ∀ w, Ent L w → (Instr.loadAt 9 (.pointer (some ⟨g, o, none⟩))).run Tryd.prog w = .ok (.string ⟨#[120]⟩) w ∧ (Instr.loadAt 9 (.pointer (some ⟨g, o + 7 + 2, none⟩))).run Tryd.prog w = .ok (.string ⟨#[122]⟩) w := by
  obtain ⟨g, o, rfl, _⟩ := reads_form (hk _ hE) (by decide) (by decide)
  refine ⟨g, o, rfl, fun w h => ?_⟩
  obtain ⟨b', o', e, hz⟩ := reads_form (hk w h) (by decide) (by decide)
  cases e
  exact ⟨atCell (hz 0 (.string ⟨#[120]⟩) rfl) (by simp [go_sem]), atCell (hz 9 (.string ⟨#[122]⟩) rfl) (by simp [go_sem])⟩
set_option maxRecDepth 100000 in
set_option maxHeartbeats 8000000 in
attribute [-go_sem] Instr.loadAt in
theorem wakes29_any {l : List HProp} {w : World} (hE : Ent l w) : Calls Tryd.prog 7 #[] w (Ret fun v w' => v = .bool true ∧ ∃ m, Ent (m ++ l) w') := by
  have HB1 := SL.hid (fun (b : Nat) (L : List HProp) (w : World) (hE : Ent (pt b (.cells #[.string ⟨#[120]⟩, .bool false, .string ⟨#[97]⟩] 51) :: L) w) =>
    show Calls Tryd.prog 17 #[.slice (some ⟨b, 0, none⟩) 1 1] w (Ret fun v w' => ∃ m a c, v = .tuple #[.agg #[.bool true, .string ⟨#[]⟩, .slice a 1 c], .int .i64 0] ∧ Ent (m ++ L) w' ∧ KidsAt (m ++ L) (.slice a 1 c) mT1.kids) from by
      refine (Build_any (es := me1) (by decide) (fun x hx => by have := mf1.small x (by rw [mn1]; exact hx); omega) (fun w h => reads_pt h 0 rfl (off := 0) (fun j u hu => by rw [Nat.zero_add, List.getElem?_toArray]; exact hu)) hE).mono ?_
      rintro e w' ⟨v, rfl, m, kv, h, hE, hk⟩
      rw [mb1] at h hk
      obtain ⟨a, c, rfl⟩ := hk.slice
      exact ⟨_, rfl, m ++ [pt b (.cells #[.string ⟨#[120]⟩, .bool false, .string ⟨#[97]⟩] 51)], a, c, h, by rw [List.append_assoc]; exact hE, by rw [List.append_assoc]; exact hk⟩)
  have HB2 := SL.hid (fun (b : Nat) (L : List HProp) (w : World) (hE : Ent (pt b (.cells #[.string ⟨#[120]⟩, .bool false, .string ⟨#[98]⟩] 51) :: L) w) =>
    show Calls Tryd.prog 17 #[.slice (some ⟨b, 0, none⟩) 1 1] w (Ret fun v w' => ∃ m a c, v = .tuple #[.agg #[.bool true, .string ⟨#[]⟩, .slice a 1 c], .int .i64 0] ∧ Ent (m ++ L) w' ∧ KidsAt (m ++ L) (.slice a 1 c) mT2.kids) from by
      refine (Build_any (es := me2) (by decide) (fun x hx => by have := mf2.small x (by rw [mn2]; exact hx); omega) (fun w h => reads_pt h 0 rfl (off := 0) (fun j u hu => by rw [Nat.zero_add, List.getElem?_toArray]; exact hu)) hE).mono ?_
      rintro e w' ⟨v, rfl, m, kv, h, hE, hk⟩
      rw [mb2] at h hk
      obtain ⟨a, c, rfl⟩ := hk.slice
      exact ⟨_, rfl, m ++ [pt b (.cells #[.string ⟨#[120]⟩, .bool false, .string ⟨#[98]⟩] 51)], a, c, h, by rw [List.append_assoc]; exact hE, by rw [List.append_assoc]; exact hk⟩)
  have HB3 := SL.hid (fun (b : Nat) (L : List HProp) (w : World) (hE : Ent (pt b (.cells #[.string ⟨#[120]⟩, .bool false, .string ⟨#[97]⟩, .string ⟨#[121]⟩, .bool false, .string ⟨#[99]⟩] 51) :: L) w) =>
    show Calls Tryd.prog 17 #[.slice (some ⟨b, 0, none⟩) 2 2] w (Ret fun v w' => ∃ m a c, v = .tuple #[.agg #[.bool true, .string ⟨#[]⟩, .slice a 2 c], .int .i64 0] ∧ Ent (m ++ L) w' ∧ KidsAt (m ++ L) (.slice a 2 c) mT3.kids) from by
      refine (Build_any (es := me3) (by decide) (fun x hx => by have := mf3.small x (by rw [mn3]; exact hx); omega) (fun w h => reads_pt h 0 rfl (off := 0) (fun j u hu => by rw [Nat.zero_add, List.getElem?_toArray]; exact hu)) hE).mono ?_
      rintro e w' ⟨v, rfl, m, kv, h, hE, hk⟩
      rw [mb3] at h hk
      obtain ⟨a, c, rfl⟩ := hk.slice
      exact ⟨_, rfl, m ++ [pt b (.cells #[.string ⟨#[120]⟩, .bool false, .string ⟨#[97]⟩, .string ⟨#[121]⟩, .bool false, .string ⟨#[99]⟩] 51)], a, c, h, by rw [List.append_assoc]; exact hE, by rw [List.append_assoc]; exact hk⟩)
  have HB4 := SL.hid (fun (b : Nat) (L : List HProp) (w : World) (hE : Ent (pt b (.cells #[.string ⟨#[120]⟩, .bool false, .string ⟨#[122]⟩] 51) :: L) w) =>
    show Calls Tryd.prog 17 #[.slice (some ⟨b, 0, none⟩) 1 1] w (Ret fun v w' => ∃ m a c, v = .tuple #[.agg #[.bool true, .string ⟨#[]⟩, .slice a 1 c], .int .i64 0] ∧ Ent (m ++ L) w' ∧ KidsAt (m ++ L) (.slice a 1 c) mT4.kids) from by
      refine (Build_any (es := me4) (by decide) (fun x hx => by have := mf4.small x (by rw [mn4]; exact hx); omega) (fun w h => reads_pt h 0 rfl (off := 0) (fun j u hu => by rw [Nat.zero_add, List.getElem?_toArray]; exact hu)) hE).mono ?_
      rintro e w' ⟨v, rfl, m, kv, h, hE, hk⟩
      rw [mb4] at h hk
      obtain ⟨a, c, rfl⟩ := hk.slice
      exact ⟨_, rfl, m ++ [pt b (.cells #[.string ⟨#[120]⟩, .bool false, .string ⟨#[122]⟩] 51)], a, c, h, by rw [List.append_assoc]; exact hE, by rw [List.append_assoc]; exact hk⟩)
  have HM1 := SL.hid (fun (a1 a2 a3 : Option Addr) (c1 c2 c3 : Nat) (L : List HProp) (w : World) (k1 : KidsAt L (.slice a1 1 c1) mT1.kids) (k2 : KidsAt L (.slice a2 1 c2) mT2.kids) (k3 : KidsAt L (.slice a3 2 c3) mT3.kids) (hE : Ent L w) =>
    show Calls Tryd.prog 12 #[.agg #[.bool true, .string ⟨#[]⟩, .slice a1 1 c1], .agg #[.bool true, .string ⟨#[]⟩, .slice a2 1 c2], .agg #[.bool true, .string ⟨#[]⟩, .slice a3 2 c3]] w (Ret fun v w' => ∃ m a c a' c', v = .tuple #[.agg #[.bool true, .string ⟨#[]⟩, .slice a 2 c], .slice a' 0 c', .int .i64 0] ∧ Ent (m ++ L) w' ∧ KidsAt (m ++ L) (.slice a 2 c) mT5.kids ∧ Knows (m ++ L) (reads (.slice a' 0 c') 0 (List.flatMap cfC []))) from by
      refine (Merge_any (wf_built mb1) (wf_built mb2) (wf_built mb3) mf1 mf2 mf3 k1 k2 k3 hE).mono ?_
      rintro e w' ⟨v, rfl, m, a', c', kv, h, hE, hK, hR⟩
      rw [mn1, mn2, mn3] at h hK hR
      rw [mm1.1] at hK
      rw [mm1.1, mm1.2.1, mm1.2.2] at h
      rw [mm1.2.1] at hR
      obtain ⟨a, c, rfl⟩ := hK.slice
      exact ⟨_, rfl, m, a, c, a', c', h, hE, hK, hR⟩)
  have HM2 := SL.hid (fun (a1 a2 a3 : Option Addr) (c1 c2 c3 : Nat) (L : List HProp) (w : World) (k1 : KidsAt L (.slice a1 1 c1) mT1.kids) (k2 : KidsAt L (.slice a2 1 c2) mT2.kids) (k3 : KidsAt L (.slice a3 1 c3) mT4.kids) (hE : Ent L w) =>
    show Calls Tryd.prog 12 #[.agg #[.bool true, .string ⟨#[]⟩, .slice a1 1 c1], .agg #[.bool true, .string ⟨#[]⟩, .slice a2 1 c2], .agg #[.bool true, .string ⟨#[]⟩, .slice a3 1 c3]] w (Ret fun v w' => ∃ m a c a' c', v = .tuple #[.agg #[.bool true, .string ⟨#[]⟩, .slice a 1 c], .slice a' 1 c', .int .i64 0] ∧ Ent (m ++ L) w' ∧ KidsAt (m ++ L) (.slice a 1 c) mT2.kids ∧ Knows (m ++ L) (reads (.slice a' 1 c') 1 (List.flatMap cfC mcf))) from by
      refine (Merge_any (wf_built mb1) (wf_built mb2) (wf_built mb4) mf1 mf2 mf4 k1 k2 k3 hE).mono ?_
      rintro e w' ⟨v, rfl, m, a', c', kv, h, hE, hK, hR⟩
      rw [mn1, mn2, mn4] at h hK hR
      rw [mm2.1] at hK
      rw [mm2.1, mm2.2.1, mm2.2.2] at h
      rw [mm2.2.1] at hR
      obtain ⟨a, c, rfl⟩ := hK.slice
      exact ⟨_, rfl, m, a, c, a', c', h, hE, hK, hR⟩)
  have A1 := SL.hid True.intro
  have A2 := SL.hid True.intro
  have A3 := SL.hid True.intro
  have A4 := SL.hid True.intro
  go_enter Tryd.func7, Tryd.ntmps7
  go_wp2_with (first
    | go_skip
    | ((with_reducible (show Go.wpList _ _ _ (Go.Oper.mk _ (.buildSlice 32 2 _) _ _ _ _ :: _) _ _)); refine wpl_build2 hE rfl rfl (xs := [.string ⟨#[120]⟩, .bool false, .string ⟨#[97]⟩]) (ys := [.string ⟨#[121]⟩, .bool false, .string ⟨#[99]⟩]) rfl rfl Tryd.underlying32 zs_en Tryd.sizeOf51 (by decide) (by decide) rfl rfl ?_; clear hE; intro s3 w hE)
    | ((with_reducible (show Go.wpList _ _ _ (Go.Oper.mk _ (.buildSlice 32 1 #[(0, .tmp 16)]) _ _ _ _ :: _) _ _)); refine wpl_build1 hE rfl rfl (xs := [.string ⟨#[120]⟩, .bool false, .string ⟨#[97]⟩]) rfl Tryd.underlying32 zs_en Tryd.sizeOf51 (by decide) (by decide) rfl ?_; clear hE; intro s w hE)
    | ((with_reducible (show Go.wpList _ _ _ (Go.Oper.mk _ (.buildSlice 32 1 #[(0, .tmp 22)]) _ _ _ _ :: _) _ _)); refine wpl_build1 hE rfl rfl (xs := [.string ⟨#[120]⟩, .bool false, .string ⟨#[98]⟩]) rfl Tryd.underlying32 zs_en Tryd.sizeOf51 (by decide) (by decide) rfl ?_; clear hE; intro s w hE)
    | ((with_reducible (show Go.wpList _ _ _ (Go.Oper.mk _ (.buildSlice 32 1 #[(0, .tmp 43)]) _ _ _ _ :: _) _ _)); refine wpl_build1 hE rfl rfl (xs := [.string ⟨#[120]⟩, .bool false, .string ⟨#[122]⟩]) rfl Tryd.underlying32 zs_en Tryd.sizeOf51 (by decide) (by decide) rfl ?_; clear hE; intro s w hE)
    | (clear A1; go_at_call 17; refine (HB1.out _ _ _ hE).mono ?_; clear hE; rintro e w2 ⟨v, h1, m, k1, d1, h2, hE, hK1⟩; cases h1; cases h2)
    | (clear A2; go_at_call 17; refine (HB2.out _ _ _ hE).mono ?_; clear hE; rintro e w2 ⟨v, h1, m, k2, d2, h2, hE, hK2⟩; cases h1; cases h2)
    | (clear A3; go_at_call 17; refine (HB3.out _ _ _ hE).mono ?_; clear hE; rintro e w2 ⟨v, h1, m, k3, d3, h2, hE, hK3⟩; cases h1; cases h2)
    | (go_at_call 17; refine (HB4.out _ _ _ hE).mono ?_; clear hE; rintro e w2 ⟨v, h1, m, k4, d4, h2, hE, hK4⟩; cases h1; cases h2)
    | ((with_reducible (show Go.wpList _ _ _ (Go.Oper.mk _ (.alloc 35) _ _ _ _ :: _) _ _)); refine wpl_alloc hE rfl rfl (by simp [go_sem]; rfl) ?_; clear hE; intro b w hE; simp only [Act.eval, Act.put, List.setIfInBounds_toArray, List.set_cons_zero, List.set_cons_succ, getD_lit, List.getD_cons_succ, List.getD_cons_zero, Value.cells] at hE)
    | ((with_reducible (show Go.wpList _ _ _ (Go.Oper.mk _ (.store 35 (.tmp 1) _) _ _ _ _ :: _) _ _)); refine wpl_storeW hE 0 rfl rfl rfl (xs := [_, _, _]) rfl rfl Tryd.sizeOf35 rfl (by simp [Value.oneCell']) rfl ?_; clear hE; intro w hE; simp only [List.set_cons_zero] at hE; have F1 := SL.hid (node_knows hE))
    | ((with_reducible (show Go.wpList _ _ _ (Go.Oper.mk _ (.store 35 (.tmp 3) _) _ _ _ _ :: _) _ _)); refine wpl_storeW hE 0 rfl rfl rfl (xs := [_, _, _]) rfl rfl Tryd.sizeOf35 rfl (by simp [Value.oneCell']) rfl ?_; clear hE; intro w hE; simp only [List.set_cons_zero] at hE; have F3 := SL.hid (node_knows hE))
    | ((with_reducible (show Go.wpList _ _ _ (Go.Oper.mk _ (.store 35 (.tmp 5) _) _ _ _ _ :: _) _ _)); refine wpl_storeW hE 0 rfl rfl rfl (xs := [_, _, _]) rfl rfl Tryd.sizeOf35 rfl (by simp [Value.oneCell']) rfl ?_; clear hE; intro w hE; simp only [List.set_cons_zero] at hE; have F5 := SL.hid (node_knows hE))
    | ((with_reducible (show Go.wpList _ _ _ (Go.Oper.mk _ (.store 35 (.tmp 7) _) _ _ _ _ :: _) _ _)); refine wpl_storeW hE 0 rfl rfl rfl (xs := [_, _, _]) rfl rfl Tryd.sizeOf35 rfl (by simp [Value.oneCell']) rfl ?_; clear hE; intro w hE; simp only [List.set_cons_zero] at hE; have F7 := SL.hid (node_kids hE))
    | ((with_reducible (show Go.wpList _ _ _ (Go.Oper.mk _ (.store 35 (.tmp 10) _) _ _ _ _ :: _) _ _)); refine wpl_storeW hE 0 rfl rfl rfl (xs := [_, _, _]) rfl rfl Tryd.sizeOf35 rfl (by simp [Value.oneCell']) rfl ?_; clear hE; intro w hE; simp only [List.set_cons_zero] at hE; have F10 := SL.hid (node_knows hE))
    | ((with_reducible (show Go.wpList _ _ _ (Go.Oper.mk _ (.store 35 (.tmp 12) _) _ _ _ _ :: _) _ _)); refine wpl_storeW hE 0 rfl rfl rfl (xs := [_, _, _]) rfl rfl Tryd.sizeOf35 rfl (by simp [Value.oneCell']) rfl ?_; clear hE; intro w hE; simp only [List.set_cons_zero] at hE; skip)
    | ((with_reducible (show Go.wpList _ _ _ (Go.Oper.mk _ (.load 35 (.tmp 1)) _ _ _ _ :: _) _ _)); refine wpl_loadK rfl rfl rfl (F1.out _ (hE.suf sfx)) ?_)
    | ((with_reducible (show Go.wpList _ _ _ (Go.Oper.mk _ (.load 35 (.tmp 3)) _ _ _ _ :: _) _ _)); refine wpl_loadK rfl rfl rfl (F3.out _ (hE.suf sfx)) ?_)
    | ((with_reducible (show Go.wpList _ _ _ (Go.Oper.mk _ (.load 35 (.tmp 5)) _ _ _ _ :: _) _ _)); refine wpl_loadK rfl rfl rfl (F5.out _ (hE.suf sfx)) ?_)
    | ((with_reducible (show Go.wpList _ _ _ (Go.Oper.mk _ (.load 35 (.tmp 10)) _ _ _ _ :: _) _ _)); refine wpl_loadK rfl rfl rfl (F10.out _ (hE.suf sfx)) ?_)
    | ((with_reducible (show Go.wpList _ _ _ (Go.Oper.mk _ (.load 33 _) _ _ _ _ :: _) _ _)); refine wpl_loadK rfl rfl rfl (F7.out _ (hE.suf sfx)) ?_)
    | (clear A4; go_at_call 12; refine (HM1.out _ _ _ _ _ _ _ _ (hK1.suf sfx) (hK2.suf sfx) (hK3.suf sfx) hE).mono ?_; clear hE; rintro e w2 ⟨v, h1, m, a7, c7, a8, c8, h2, hE, hK7, hR8⟩; cases h1; cases h2; obtain ⟨g7, o7, h7, G7⟩ := mkid_data hK7 hE; cases h7; have G7 := SL.hid G7; clear hR8)
    | (go_at_call 12; refine (HM2.out _ _ _ _ _ _ _ _ (hK1.suf sfx) (hK2.suf sfx) (hK4.suf sfx) hE).mono ?_; clear hE; rintro e w2 ⟨v, h1, m, a9, c9, a10, c10, h2, hE, hK9, hR10⟩; cases h1; cases h2; obtain ⟨g10, o10, h10, G10⟩ := mcf_loads hR10 hE; cases h10; have G10 := SL.hid G10; clear hR10)
    | ((with_reducible (show Go.wpList _ _ _ (Go.Oper.mk _ (.load 9 (.tmp 90)) _ _ _ _ :: _) _ _)); refine wpl_loadK rfl rfl rfl (G7.out _ (hE.suf sfx)) ?_)
    | ((with_reducible (show Go.wpList _ _ _ (Go.Oper.mk _ (.load 9 (.tmp 106)) _ _ _ _ :: _) _ _)); refine wpl_loadK rfl rfl rfl (G10.out _ (hE.suf sfx)).1 ?_)
    | ((with_reducible (show Go.wpList _ _ _ (Go.Oper.mk _ (.load 9 (.tmp 114)) _ _ _ _ :: _) _ _)); refine wpl_loadK rfl rfl rfl (G10.out _ (hE.suf sfx)).2 ?_))
  refine bodyPost_ret (results_tmp rfl _ _ _) rfl ?_
  refine ⟨_, rfl, rfl, [], ?_⟩
  exact hE.tail.drop.tail.drop.tail.drop.tail.drop.tail.drop.tail.drop
end Go.Proofs.YtjdignaddfhohaaDoor
namespace Go.Proofs.YtjdignaddfhohaaDoor
open Go.RowKit Go.SL

instance decEn : DecidableEq En := fun a b => decidable_of_iff (a.path = b.path ∧ a.dir = b.dir ∧ a.data = b.data) (by obtain ⟨p, d, x⟩ := a; obtain ⟨q, e, y⟩ := b; simp only [En.mk.injEq])
theorem eqEnG (a b : En) (w : World) : (Op.equalIn 10000 51 (.agg (enC a).toArray) (.agg (enC b).toArray)).run Tryd.prog w = .ok (a == b) w := by
  obtain ⟨p, d, x⟩ := a
  obtain ⟨q, e, y⟩ := b
  have h := run_equalIn_agg (P := Tryd.prog) (w := w) 9999 51 #[.string ⟨p.toArray⟩, .bool d, .string ⟨x.toArray⟩] #[.string ⟨q.toArray⟩, .bool e, .string ⟨y.toArray⟩] (by kernel_rfl) (by kernel_rfl)
  refine h.trans ?_
  have e1 : ((⟨p, d, x⟩ : En) == ⟨q, e, y⟩) = (p == q && (d == e && x == y)) := by
    rw [Bool.eq_iff_iff]
    simp [En.mk.injEq]
  rw [e1]
  cases hpq : (p == q) <;> cases hxy : (x == y) <;> cases d <;> cases e <;> simp [go_sem, hpq, hxy]
def ErRel (xs ys : List En) (l : List HProp) (i : Value) (wr : World) : Prop :=
  ∃ k : Nat, k ≤ xs.length ∧ i = .int .i64 k ∧ xs.take k = ys.take k ∧ Ent l wr
def ErPost (xs ys : List En) (l : List HProp) (v : Value) (w' : World) : Prop := v = .bool (decide (xs = ys)) ∧ Ent l w'
theorem ErPost.mk {xs ys : List En} {l : List HProp} {w : World} (b : Bool) (hE : Ent l w) (h : b = true ↔ xs = ys) : ErPost xs ys l (.bool b) w := ⟨by rw [show decide (xs = ys) = b by rw [Bool.eq_iff_iff]; simp [h]], hE⟩
set_option maxRecDepth 100000 in
set_option maxHeartbeats 4000000 in
attribute [-go_sem] Instr.loadAt Go.run_equalIn_agg in
theorem eRow_any {xs ys : List En} (hn : xs.length ≤ 1000000) {ao bo : Option Addr} {c d : Nat} {l : List HProp} {w : World} (hx : Knows l (reads (.slice ao xs.length c) xs.length (xs.flatMap enC))) (hy : Knows l (reads (.slice bo ys.length d) ys.length (ys.flatMap enC))) (hE : Ent l w) :
    Calls Tryd.prog 24 #[.slice ao xs.length c, .slice bo ys.length d] w (Ret (ErPost xs ys l)) := by
  by_cases hl : xs.length = ys.length
  · have Hl := SL.hid hl
    obtain ⟨n, hn1⟩ : ∃ n, xs.length = n := ⟨_, rfl⟩
    have hn2 : ys.length = n := by omega
    rw [hn1] at hn ⊢
    rw [hn2]
    have N1 := SL.hid hn1
    have N2 := SL.hid hn2
    clear hn1 hn2 hl
    go_enter Tryd.func24, Tryd.ntmps24
    go_wp2
    go_loopw [5] (fun i wr => ErRel xs ys l i wr) (fun i _ => n - (intOf i).toNat)
    case atStart => exact ⟨0, Nat.zero_le _, rfl, rfl, hE⟩
    case round =>
      clear hE
      obtain ⟨k, hkl, rfl, htk, hE⟩ := hrel
      rw [N1.out] at hkl
      by_cases hlt : k < n
      · have hlx : k < xs.length := by have := N1.out; omega
        have hly : k < ys.length := by have := N2.out; omega
        obtain ⟨b, off, rfl, hz⟩ := en_at (hx _ hE) hlx
        obtain ⟨b2, off2, rfl, hz2⟩ := en_at (hy _ hE) hly
        clear hz hz2
        have f0 := SL.hid (show ∀ w, Ent l w → _ from fun w h => (load_en (hx w h) hlx).1)
        have f1 := SL.hid (show ∀ w, Ent l w → _ from fun w h => (load_en (hy w h) hly).1)
        have Hx := SL.hid (List.take_succ_eq_append_getElem hlx)
        have Hy := SL.hid (List.take_succ_eq_append_getElem hly)
        have Hne := SL.hid (show xs[k] ≠ ys[k] → xs ≠ ys from fun h e => h (by subst e; rfl))
        have hEq := fun w => eqEnG xs[k] ys[k] w
        have Htk := SL.hid htk
        clear htk
        generalize xs[k] = x at *
        generalize ys[k] = y at *
        have Hxy := SL.hid (show (x == y) = true ↔ x = y from beq_iff_eq)
        generalize (x == y) = eq at *
        clear hlx hly
        cases eq with
        | true =>
          go_wp2
          refine wp_region_held_drew (S := (fun w' => ((Instr.loadAt 51 (.pointer (some ⟨b, off + k * 3, none⟩))).run Tryd.prog w' = .ok (.agg (enC x).toArray) w') ∧ ((Instr.loadAt 51 (.pointer (some ⟨b2, off2 + k * 3, none⟩))).run Tryd.prog w' = .ok (.agg (enC y).toArray) w'))) (by kernel_rfl) ⟨(f0.out _ hE.drew), (f1.out _ hE.drew)⟩ (fun hS => ?_)
          refine tV 0 hS ?_; refine tV 1 hS ?_; refine tV 2 hS ?_; refine tL 3 hS ?_; refine tV 4 hS ?_; refine tV 5 hS ?_; refine tV 6 hS ?_; refine tL 7 hS ?_; refine tV 8 hS ?_
          refine wpAnyH_done (by kernel_rfl) ?_ _
          all_goals
            clear hS
            replace hE := hE.drew
            go_wp2
            go_roundw
            case rel => exact ⟨k + 1, by rw [N1.out]; exact hlt, by first | rfl | simp, by rw [Hx.out, Hy.out, Htk.out]; have := Hxy.out; simp at this; rw [this], hE⟩
            case measure => simp [intOf] <;> omega
        | false =>
          go_wp2
          refine wp_region_held_drew (S := (fun w' => ((Instr.loadAt 51 (.pointer (some ⟨b, off + k * 3, none⟩))).run Tryd.prog w' = .ok (.agg (enC x).toArray) w') ∧ ((Instr.loadAt 51 (.pointer (some ⟨b2, off2 + k * 3, none⟩))).run Tryd.prog w' = .ok (.agg (enC y).toArray) w'))) (by kernel_rfl) ⟨(f0.out _ hE.drew), (f1.out _ hE.drew)⟩ (fun hS => ?_)
          refine tV 0 hS ?_; refine tV 1 hS ?_; refine tV 2 hS ?_; refine tL 3 hS ?_; refine tV 4 hS ?_; refine tV 5 hS ?_; refine tV 6 hS ?_; refine tL 7 hS ?_; refine tV 8 hS ?_
          refine wpAnyH_done (by kernel_rfl) ?_ _
          all_goals
            clear hS
            replace hE := hE.drew
            go_wp2
            refine bodyPost_ret (results_tmp rfl _ _ _) rfl ?_
            exact ⟨_, rfl, .mk false hE (iff_of_false (by decide) (Hne.out (fun e => by have := Hxy.out.2 e; cases this)))⟩
      · obtain rfl : k = n := by omega
        have htk2 : xs = ys := by
          have h1 := N1.out
          have h2 := N2.out
          rwa [List.take_of_length_le (by omega), List.take_of_length_le (by omega)] at htk
        have R := SL.hid htk2
        clear htk htk2
        go_wp2
        refine bodyPost_ret (results_tmp rfl _ _ _) rfl ?_
        exact ⟨_, rfl, .mk true hE (iff_of_true rfl R.out)⟩
  · have R := SL.hid (show xs ≠ ys from fun e => hl (by rw [e]))
    have h1 : ¬ (xs.length : Int) = (ys.length : Int) := by omega
    go_enter Tryd.func24, Tryd.ntmps24
    go_wp2
    refine bodyPost_ret (results_tmp rfl _ _ _) rfl ?_
    exact ⟨_, rfl, .mk false hE (iff_of_false (by decide) R.out)⟩
end Go.Proofs.YtjdignaddfhohaaDoor
namespace Go.Proofs.YtjdignaddfhohaaDoor
open Go.RowKit Go.SL

set_option maxRecDepth 100000 in
theorem side29_any (s : Sd) {l : List HProp} {w : World} (hE : Ent l w) :
    Calls Tryd.prog 9 #[sdV s] w (Ret fun v w' => v = sdV s ∧ Ent l w') := by
  unfold sdV
  generalize s.there = st at *
  generalize s.dir = sd at *
  generalize s.data = sb at *
  go_enter Tryd.func9, Tryd.ntmps9
  go_wp2_with (first
    | go_skip
    | (refine bxX hE ?_; clear hE; intro b1 w hE)
    | (refine alX hE ?_; clear hE; intro b2 w hE)
    | (refine swX (t := 25) hE [.bool st, .bool sd, .string ⟨sb.toArray⟩] Tryd.sizeOf25 ?_; clear hE; intro w hE)
    | (refine ldX hE ?_))
  refine bodyPost_ret (results_cellA rfl hE 0 rfl rfl Tryd.isAgg25 Tryd.sizeOf25 rfl) rfl ?_
  exact ⟨_, rfl, rfl, hE.tail.tail⟩
set_option maxRecDepth 100000 in
set_option maxHeartbeats 4000000 in
attribute [-go_sem] Go.run_equalIn_agg Instr.loadAt in
theorem rChoose_any (b o t : Sd) {l : List HProp} {w : World} (hE : Ent l w) :
    Calls Tryd.prog 10 #[sdV b, sdV o, sdV t] w (Ret fun v w' => v = .tuple #[sdV (chooseS b o t).1, .bool (chooseS b o t).2] ∧ Ent l w') := by
  have e1 := fun w => eqSr 9998 o t w
  have e2 := fun w => eqSr 9998 t b w
  have e3 := fun w => eqSr 9998 o b w
  rw [choose_b3]
  cases h1 : (o == t) <;> cases h2 : (t == b) <;> cases h3 : (o == b) <;> rw [h1] at e1 <;> rw [h2] at e2 <;> rw [h3] at e3 <;> simp only [Bool.or_true, Bool.or_false, Bool.or_self, if_true, if_false, Bool.false_eq_true]
  case false.true.true =>
    rw [eq_of_beq h2, eq_of_beq h3] at h1
    simp at h1
  all_goals
    clear h1 h2 h3
    unfold sdV
    simp only [sdC] at e1 e2 e3
    generalize o.there = ot at *
    generalize o.dir = od at *
    generalize o.data = ob at *
    generalize t.there = tt at *
    generalize t.dir = td at *
    generalize t.data = tb at *
    generalize b.there = bt at *
    generalize b.dir = bd at *
    generalize b.data = bb at *
    go_enter Tryd.func10, Tryd.ntmps10
    go_wp2_with (first
      | go_skip
      | ((with_reducible (show Go.wpList _ _ _ (Go.Oper.mk _ (.box _ (.tmp 0)) _ _ _ _ :: _) _ _)); (refine bxX hE ?_; clear hE; intro c3 w hE))
      | ((with_reducible (show Go.wpList _ _ _ (Go.Oper.mk _ (.box _ (.tmp 1)) _ _ _ _ :: _) _ _)); (refine bxX hE ?_; clear hE; intro c4 w hE))
      | ((with_reducible (show Go.wpList _ _ _ (Go.Oper.mk _ (.box _ (.tmp 2)) _ _ _ _ :: _) _ _)); (refine bxX hE ?_; clear hE; intro c5 w hE))
      | (refine alX hE ?_; clear hE; intro c6 w hE)
      | (refine lwX (t := 23) hE Tryd.isAgg23 Tryd.sizeOf23 ?_)
      | (refine swX (t := 23) hE [.bool ot, .bool od, .string ⟨ob.toArray⟩] Tryd.sizeOf23 ?_; clear hE; intro w hE)
      | (refine swX (t := 23) hE [.bool tt, .bool td, .string ⟨tb.toArray⟩] Tryd.sizeOf23 ?_; clear hE; intro w hE))
  all_goals try
    refine bodyPost_ret (results_cell2 rfl hE 0 rfl rfl Tryd.isAgg23 Tryd.sizeOf23 rfl rfl) rfl ?_
    exact ⟨_, rfl, rfl, hE.tail.tail.tail.tail⟩
  all_goals
    have hO := hE.drew
    clear hE
    refine wp_region_held_drew (S := (fun w' => ((Instr.loadAt 23 (.pointer (some ⟨c3, 0, none⟩))).run Tryd.prog w' = .ok (.agg [.bool bt, .bool bd, .string ⟨bb.toArray⟩].toArray) w') ∧ ((Instr.loadAt 23 (.pointer (some ⟨c4, 0, none⟩))).run Tryd.prog w' = .ok (.agg [.bool ot, .bool od, .string ⟨ob.toArray⟩].toArray) w') ∧ ((Instr.loadAt 23 (.pointer (some ⟨c5, 0, none⟩))).run Tryd.prog w' = .ok (.agg [.bool tt, .bool td, .string ⟨tb.toArray⟩].toArray) w'))) (by kernel_rfl) ⟨(atWq hO Tryd.isAgg23 Tryd.sizeOf23), (atWq hO Tryd.isAgg23 Tryd.sizeOf23), (atWq hO Tryd.isAgg23 Tryd.sizeOf23)⟩ (fun hS => ?_)
    refine tL 0 hS ?_; refine tL 1 hS ?_; refine tL 2 hS ?_; refine tV 3 hS ?_
    refine tO 4 (fun K hK => ?_)
    (refine step_storeW hO 0 rfl (by rfl) (by rfl) (by rfl) (xs := [.bool ot, .bool od, .string ⟨ob.toArray⟩]) (by rfl) Tryd.sizeOf23 rfl (by simp [Value.oneCell']) rfl ?_; clear hO; intro w7 hO; simp only [List.set_cons_zero, List.set_cons_succ] at hO)
    refine tK hK ⟨(atWq hO Tryd.isAgg23 Tryd.sizeOf23), (atWq hO Tryd.isAgg23 Tryd.sizeOf23), (atWq hO Tryd.isAgg23 Tryd.sizeOf23)⟩ (fun hS => ?_); clear hK K
    refine tV 5 hS ?_
    refine wpAnyH_done (by kernel_rfl) ?_ _
    all_goals
      clear hS
      go_wp2
      refine bodyPost_ret (results_cell2 rfl hO 0 rfl rfl Tryd.isAgg23 Tryd.sizeOf23 rfl rfl) rfl ?_
      exact ⟨_, rfl, rfl, hO.tail.tail.tail.tail⟩
set_option maxRecDepth 100000 in
set_option maxHeartbeats 4000000 in
attribute [-go_sem] Instr.loadAt in
theorem alike_any {t1 t2 : Tr} (w1 : Tr.Wf 6 t1) (w2 : Tr.Wf 6 t2) (n1 : (entT 6 [] t1).length ≤ 1000) (n2 : (entT 6 [] t2).length ≤ 1000) {kv1 kv2 : Value} {l : List HProp} (k1 : KidsAt l kv1 t1.kids) (k2 : KidsAt l kv2 t2.kids) {w : World} (hE : Ent l w) :
    Calls Tryd.prog 13 #[nodeV t1 kv1, nodeV t2 kv2] w (Ret fun v w' => v = .bool (decide (entT 6 [] t1 = entT 6 [] t2)) ∧ ∃ m, Ent (m ++ l) w') := by
  have HE1 := SL.hid (fun (L : List HProp) (w : World) (hs : l <:+ L) (h : Ent L w) => Entries_any (t := t1) (kv := kv1) w1 (by decide) (k1.suf hs) (by omega) h)
  have HE2 := SL.hid (fun (L : List HProp) (w : World) (hs : l <:+ L) (h : Ent L w) => Entries_any (t := t2) (kv := kv2) w2 (by decide) (k2.suf hs) (by omega) h)
  unfold nodeV at *
  generalize entT 6 [] t1 = x1 at *
  generalize entT 6 [] t2 = x2 at *
  generalize t1.dir = d1 at *
  generalize t2.dir = d2 at *
  generalize t1.data = s1 at *
  generalize t2.data = s2 at *
  clear k1 k2 w1 w2
  have HR := SL.hid (fun (a c b d) (L : List HProp) (w : World) hx hy (h : Ent L w) => eRow_any (xs := x1) (ys := x2) (by omega) (ao := a) (c := c) (bo := b) (d := d) hx hy h)
  go_enter Tryd.func13, Tryd.ntmps13
  go_wp2_with (first
    | go_skip
    | ((with_reducible (show Go.wpList _ _ _ (Go.Oper.mk _ (.box _ (.tmp 0)) _ _ _ _ :: _) _ _)); (refine bxX hE ?_; clear hE; intro c2 w hE))
    | ((with_reducible (show Go.wpList _ _ _ (Go.Oper.mk _ (.box _ (.tmp 1)) _ _ _ _ :: _) _ _)); (refine bxX hE ?_; clear hE; intro c3 w hE)))
  have hO := hE.drew
  clear hE
  refine wp_region_held_drew (S := (fun w' => ((Instr.loadAt 35 (.pointer (some ⟨c2, 0, none⟩))).run Tryd.prog w' = .ok (.agg [.bool d1, .string ⟨s1.toArray⟩, kv1].toArray) w') ∧ ((Instr.loadAt 35 (.pointer (some ⟨c3, 0, none⟩))).run Tryd.prog w' = .ok (.agg [.bool d2, .string ⟨s2.toArray⟩, kv2].toArray) w'))) (by kernel_rfl) ⟨(atWq hO Tryd.isAgg35 Tryd.sizeOf35), (atWq hO Tryd.isAgg35 Tryd.sizeOf35)⟩ (fun hS => ?_)
  refine tL 0 hS ?_; refine tL 2 hS ?_
  refine tO 1 (fun K hK => ?_)
  (go_simp; refine (HE1.out _ _ sfx hO).mono ?_; clear hO; rintro e w5 ⟨v, rfl, a1, c1, m1, rfl, hO⟩; replace hO := Ent.swap (a := rowEn a1 c1 x1 :: m1) (b := [_, _]) hO; simp only [List.cons_append, List.nil_append, List.append_eq] at hO)
  refine tK hK ⟨(atWq hO Tryd.isAgg35 Tryd.sizeOf35), (atWq hO Tryd.isAgg35 Tryd.sizeOf35)⟩ (fun hS => ?_); clear hK K
  refine tO 3 (fun K hK => ?_)
  (go_simp; refine (HE2.out _ _ sfx hO).mono ?_; clear hO; rintro e w6 ⟨v, rfl, a2, c2, m2, rfl, hO⟩; replace hO := Ent.swap (a := rowEn a2 c2 x2 :: m2) (b := [_, _, _]) hO; simp only [List.cons_append, List.nil_append, List.append_eq] at hO)
  refine tK hK ⟨(atWq hO Tryd.isAgg35 Tryd.sizeOf35), (atWq hO Tryd.isAgg35 Tryd.sizeOf35)⟩ (fun hS => ?_); clear hK K
  refine tO 4 (fun K hK => ?_)
  (go_simp; refine (HR.out _ _ _ _ _ _ (fun w h => reads_row h 2 rfl) (fun w h => reads_row h 3 rfl) hO).mono ?_; clear hO; rintro e w7 ⟨v, rfl, rfl, hO⟩)
  refine tK hK ⟨(atWq hO Tryd.isAgg35 Tryd.sizeOf35), (atWq hO Tryd.isAgg35 Tryd.sizeOf35)⟩ (fun hS => ?_); clear hK K
  refine tV 5 hS ?_
  refine wpAnyH_done (by kernel_rfl) ?_ _
  all_goals
    clear hS
    go_wp2
    refine bodyPost_ret (results_tmp rfl _ _ _) rfl ?_
    exact ⟨_, rfl, rfl, _, hO.tail.tail.tail.tail.drop⟩
end Go.Proofs.YtjdignaddfhohaaDoor
namespace Go.Proofs.YtjdignaddfhohaaDoor
open Go.RowKit Go.SL

theorem tree_fits {es : List En} {t : Tr} (h : treeP es = some t) : Fits (entT 6 [] t) := by
  obtain ⟨w1, _, _, l1, k1, _, _⟩ := tree_ents h
  exact ⟨tree_es w1, l1, k1⟩
theorem merged_facts {b o t : List En} (hb : Fits b) (ho : Fits o) (ht : Fits t) (he : mrgE b o t = 0) : Tr.Wf 6 (mrgT b o t) ∧ entT 6 [] (mrgT b o t) = outM b o t ∧ Fits (outM b o t) ∧ mrgC b o t = conM b o t := by
  obtain ⟨h1, h2⟩ := build_out (outM_rise b o t) he
  refine ⟨h1, h2, ⟨by have := tree_es h1; rwa [h2] at this, ?_, (out_fits hb ho ht).2⟩, if_pos he⟩
  apply Classical.byContradiction
  intro hl
  have h3 : buildT (outM b o t) = (6, .zero) := by rw [buildT, if_pos (by omega)]
  rw [mrgE, h3] at he
  cases he
theorem twice_facts {b o t : List En} (hb : Fits b) (ho : Fits o) (ht : Fits t) (he : mrgE b o t = 0) (hc : (mrgC b o t).length = 0) :
    (mrgT b (outM b o t) t = mrgT b o t ∧ (mrgC b (outM b o t) t).length = 0 ∧ mrgE b (outM b o t) t = 0) ∧ (mrgT b (outM b o t) o = mrgT b o t ∧ (mrgC b (outM b o t) o).length = 0 ∧ mrgE b (outM b o t) o = 0) := by
  obtain ⟨h1, h2, h3, h4⟩ := merged_facts hb ho ht he
  rw [h4] at hc
  obtain ⟨⟨a1, a2⟩, b1, b2⟩ := merge_twice hb.tree ho.tree ht.tree h3.tree (List.length_eq_zero_iff.1 hc)
  have he2 : (buildT (outM b o t)).1 = 0 := he
  unfold mrgT mrgC mrgE
  rw [a1, a2, b1, b2, if_pos he2]
  exact ⟨⟨rfl, rfl, he2⟩, rfl, rfl, he2⟩
def GmPost (T : Tr) (n : Nat) (e : Int) (l : List HProp) (v : Value) (w' : World) : Prop :=
  ∃ (m : List HProp) (a : Option Addr) (c : Nat) (a' : Option Addr) (c' : Nat), v = .tuple #[.agg #[.bool T.dir, .string ⟨T.data.toArray⟩, .slice a T.kids.length c], .slice a' n c', .int .i64 e] ∧ Ent (m ++ l) w' ∧ KidsAt (m ++ l) (.slice a T.kids.length c) T.kids
theorem Merge_at {t1 t2 t3 T : Tr} {n : Nat} {e : Int} {e1 e2 e3 : List En} (w1 : Tr.Wf 6 t1) (w2 : Tr.Wf 6 t2) (w3 : Tr.Wf 6 t3) (g1 : entT 6 [] t1 = e1) (g2 : entT 6 [] t2 = e2) (g3 : entT 6 [] t3 = e3) (f1 : Fits e1) (f2 : Fits e2) (f3 : Fits e3)
    (hT : mrgT e1 e2 e3 = T) (hC : (mrgC e1 e2 e3).length = n) (hEe : mrgE e1 e2 e3 = e) {a1 a2 a3 : Option Addr} {c1 c2 c3 : Nat} {l : List HProp}
    (k1 : KidsAt l (.slice a1 t1.kids.length c1) t1.kids) (k2 : KidsAt l (.slice a2 t2.kids.length c2) t2.kids) (k3 : KidsAt l (.slice a3 t3.kids.length c3) t3.kids) {w : World} (hE : Ent l w) :
    Calls Tryd.prog 12 #[.agg #[.bool t1.dir, .string ⟨t1.data.toArray⟩, .slice a1 t1.kids.length c1], .agg #[.bool t2.dir, .string ⟨t2.data.toArray⟩, .slice a2 t2.kids.length c2], .agg #[.bool t3.dir, .string ⟨t3.data.toArray⟩, .slice a3 t3.kids.length c3]] w (Ret (GmPost T n e l)) := by
  subst g1 g2 g3 hT hC hEe
  refine (Merge_any w1 w2 w3 f1 f2 f3 k1 k2 k3 hE).mono ?_
  rintro e w' ⟨v, rfl, m, a', c', kv, h, hE, hK, _⟩
  obtain ⟨a, c, rfl⟩ := hK.slice
  exact ⟨_, rfl, m, a, c, a', c', h, hE, hK⟩
theorem alike_at {t1 t2 : Tr} {b : Bool} (w1 : Tr.Wf 6 t1) (w2 : Tr.Wf 6 t2) (n1 : (entT 6 [] t1).length ≤ 1000) (n2 : (entT 6 [] t2).length ≤ 1000) (hb : decide (entT 6 [] t1 = entT 6 [] t2) = b) {a1 a2 : Option Addr} {c1 c2 : Nat} {l : List HProp}
    (k1 : KidsAt l (.slice a1 t1.kids.length c1) t1.kids) (k2 : KidsAt l (.slice a2 t2.kids.length c2) t2.kids) {w : World} (hE : Ent l w) :
    Calls Tryd.prog 13 #[.agg #[.bool t1.dir, .string ⟨t1.data.toArray⟩, .slice a1 t1.kids.length c1], .agg #[.bool t2.dir, .string ⟨t2.data.toArray⟩, .slice a2 t2.kids.length c2]] w (Ret fun v w' => v = .bool b ∧ ∃ m, Ent (m ++ l) w') := by
  subst hb
  exact alike_any w1 w2 n1 n2 k1 k2 hE
end Go.Proofs.YtjdignaddfhohaaDoor
