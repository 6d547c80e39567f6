/-
  One more node in a tree: the walk of the program's with. Printed by gen_fw4.py.
-/
import Derived.Test.YtjmllpgmbaoebaaDoorManQF2
import Derived.Shelf.RegionOpen
import Derived.Shelf.Small.Strs
import Derived.Shelf.Lay
import Derived.Lib.FrozenHead
namespace Go.Proofs.YtjmllpgmbaoebaaDoor
open Go.RowKit Go.SL

theorem ins_kids {l : List HProp} {ks : List (List UInt8 × Tr)} {vs : List Value} (hl : vs.length = ks.length) (hk : ∀ (i : Nat) (h : i < ks.length) (h' : i < vs.length), KidsAt l vs[i] ks[i].2.kids) {p : Nat} (hp : p ≤ ks.length) {n : List UInt8} {x : Tr} {v : Value} (hx : KidsAt l v x.kids) :
    ∀ (i : Nat) (h : i < (Tr.insAt p (n, x) ks).length) (h' : i < (Tr.insAt p v vs).length), KidsAt l (Tr.insAt p v vs)[i] (Tr.insAt p (n, x) ks)[i].2.kids := by
  intro i h h'
  rw [Tr.insAt_get hp i h, Tr.insAt_get (by omega) i h']
  by_cases h1 : i < p
  · rw [dif_pos h1, dif_pos h1]
    exact hk i (by omega) (by omega)
  · rw [dif_neg h1, dif_neg h1]
    by_cases h2 : i = p
    · rw [dif_pos h2, dif_pos h2]; exact hx
    · rw [dif_neg h2, dif_neg h2]
      rw [Tr.insAt_len hp] at h
      exact hk (i - 1) (by omega) (by omega)
theorem set_kids {l m : List HProp} {ks : List (List UInt8 × Tr)} {vs : List Value} (hl : vs.length = ks.length) (hk : ∀ (i : Nat) (h : i < ks.length) (h' : i < vs.length), KidsAt m vs[i] ks[i].2.kids) (hm : m <:+ l) (p : Nat) {n : List UInt8} {x : Tr} {v : Value} (hx : KidsAt l v x.kids) :
    ∀ (i : Nat) (h : i < (ks.set p (n, x)).length) (h' : i < (vs.set p v).length), KidsAt l (vs.set p v)[i] (ks.set p (n, x))[i].2.kids := by
  intro i h h'
  rw [List.getElem_set, List.getElem_set]
  split
  · exact hx
  · exact (hk i (by simpa using h) (by simpa using h')).suf hm
theorem withT_more {n : List UInt8} {q : List (List UInt8)} (hq : q ≠ []) (xd : Bool) (xb : List UInt8) (t : Tr) : Tr.withT (n :: q) xd xb t = if t.dir && isIn t.names n then
      (match Tr.withT q xd xb ((t.kids.getD (placeOf t.names n) ([], .zero)).2) with
       | (e, k) => if e = 0 then (0, .nd true [] (t.kids.set (placeOf t.names n) (n, k))) else (e, .zero)) else (8, .zero) := by
  cases q with
  | nil => exact absurd rfl hq
  | cons m r => rw [Tr.withT]
theorem withT_dir {n : List UInt8} {q : List (List UInt8)} (hq : q ≠ []) (xd : Bool) (xb dt : List UInt8) (ks : List (List UInt8 × Tr)) : Tr.withT (n :: q) xd xb (.nd true dt ks) =
    if isIn (ks.map Prod.fst) n = true then (if (Tr.withT q xd xb (ks.getD (placeOf (ks.map Prod.fst) n) ([], .zero)).2).1 = 0 then (0, .nd true [] (ks.set (placeOf (ks.map Prod.fst) n) (n, (Tr.withT q xd xb (ks.getD (placeOf (ks.map Prod.fst) n) ([], .zero)).2).2))) else ((Tr.withT q xd xb (ks.getD (placeOf (ks.map Prod.fst) n) ([], .zero)).2).1, .zero)) else (8, .zero) := by
  rw [withT_more hq]
  rfl
theorem _root_.Go.SL.Ent.mid {F m R : List HProp} {w : World} (h : Ent (F ++ (m ++ R)) w) : Ent (F ++ R) w := by
  have hp : (F ++ (m ++ R)).Perm (m ++ (F ++ R)) := by
    rw [← List.append_assoc, ← List.append_assoc]
    exact List.perm_append_comm.append_right R
  exact (h.perm hp).drop
def zkid : List Value := [.string ⟨#[]⟩, .bool false, .string ⟨#[]⟩, .slice none 0 0]
theorem zkids_len (n : Nat) : (List.replicate n zkid).flatten.length = n * 4 := by
  induction n with
  | zero => rfl
  | succ n ih => rw [List.replicate_succ, List.flatten_cons, List.length_append, ih]; simp [zkid]; omega
/-- the rows of kids with one more, or another one -/
theorem kCs_ins {ks : List (List UInt8 × Tr)} {vs : List Value} (hl : vs.length = ks.length) {p : Nat} (hp : p ≤ ks.length) (k : List UInt8 × Tr) (v : Value) (z : List Value) (hz : z.length = (ks.length + 1) * 4) :
    splice (splice (splice z (0 * 4) ((kCs ks vs).take (p * 4))) ((p + 1) * 4) ((kCs ks vs).drop (p * 4))) (p * 4) (kC k v) = kCs (Tr.insAt p k ks) (Tr.insAt p v vs) := by
  have e1 := kCs_take hl p
  have e2 := kCs_drop hl hp
  have l1 : (kCs (ks.take p) (vs.take p)).length = p * 4 := by rw [kCs_len (by rw [List.length_take, List.length_take]; omega), List.length_take, Nat.min_eq_left hp]
  have l2 : (kCs (ks.drop p) (vs.drop p)).length = (ks.length - p) * 4 := by rw [kCs_len (by rw [List.length_drop, List.length_drop]; omega), List.length_drop]
  rw [e1, e2]
  have h := splice_ins (z := z) (A := kCs (ks.take p) (vs.take p)) (B := kCs (ks.drop p) (vs.drop p)) (N := kC k v) (by rw [l1, l2, kC_len]; omega)
  rw [l1, kC_len] at h
  rw [Nat.zero_mul, show (p + 1) * 4 = p * 4 + 4 by omega, h, Tr.insAt, Tr.insAt, kCs_app (by rw [List.length_take, List.length_take]; omega), kCs_cons, List.append_assoc]
theorem kCs_set {ks : List (List UInt8 × Tr)} {vs : List Value} (hl : vs.length = ks.length) {p : Nat} (hp : p < ks.length) (x : Tr) (v : Value) (z : List Value) (hz : z.length = ks.length * 4) :
    splice (splice (splice z (0 * 4) ((kCs ks vs).take (p * 4))) (p * 4) ((kCs ks vs).drop (p * 4))) (p * 4 + 1) [.bool x.dir, .string ⟨x.data.toArray⟩, v] = kCs (ks.set p (ks[p].1, x)) (vs.set p v) := by
  have l0 := kCs_len hl
  have l1 : ((kCs ks vs).take (p * 4)).length = p * 4 := by rw [List.length_take, l0]; omega
  have h := splice_all (z := z) (A := (kCs ks vs).take (p * 4)) (B := (kCs ks vs).drop (p * 4)) (by rw [l1, List.length_drop, l0]; omega)
  rw [l1] at h
  rw [Nat.zero_mul, h, List.take_append_drop]
  have hk : ks = ks.take p ++ ks[p] :: ks.drop (p + 1) := by rw [← List.drop_eq_getElem_cons hp, List.take_append_drop]
  have hv : vs = vs.take p ++ vs[p]'(by omega) :: vs.drop (p + 1) := by rw [← List.drop_eq_getElem_cons (by omega), List.take_append_drop]
  have lk : (ks.take p).length = p := by rw [List.length_take]; omega
  have lv : (vs.take p).length = p := by rw [List.length_take]; omega
  have e : kCs ks vs = (kCs (ks.take p) (vs.take p) ++ [.string ⟨ks[p].1.toArray⟩]) ++ ([.bool ks[p].2.dir, .string ⟨ks[p].2.data.toArray⟩, vs[p]'(by omega)] ++ kCs (ks.drop (p + 1)) (vs.drop (p + 1))) := by
    conv => lhs; rw [hk, hv, kCs_app (by rw [lk, lv]), kCs_cons]
    simp [kC]
  have l3 : (kCs (ks.take p) (vs.take p) ++ [Value.string ⟨ks[p].1.toArray⟩]).length = p * 4 + 1 := by
    rw [List.length_append, kCs_len (by rw [lk, lv]), lk]; rfl
  have hm := splice_mid (kCs (ks.take p) (vs.take p) ++ [Value.string ⟨ks[p].1.toArray⟩]) [.bool ks[p].2.dir, .string ⟨ks[p].2.data.toArray⟩, vs[p]'(by omega)] [.bool x.dir, .string ⟨x.data.toArray⟩, v] (kCs (ks.drop (p + 1)) (vs.drop (p + 1))) rfl
  rw [e, ← l3, hm]
  have hk2 : ks.set p (ks[p].1, x) = ks.take p ++ (ks[p].1, x) :: ks.drop (p + 1) := by rw [List.set_eq_take_append_cons_drop, if_pos hp]
  have hv2 : vs.set p v = vs.take p ++ v :: vs.drop (p + 1) := by rw [List.set_eq_take_append_cons_drop, if_pos (by omega)]
  rw [hk2, hv2, kCs_app (by rw [lk, lv]), kCs_cons]
  simp [kC]
theorem nd_bytes : zeroList Tryd.prog 51 = some (zkid, 4, 64) := by kernel_rfl
theorem sz_kid : (Tryd.prog.info? 51).map (·.size) = some 4 := by kernel_rfl

set_option maxRecDepth 100000 in
theorem with_bad {d : Bool} {dt : List UInt8} {kv : Value} {L : Nat} (h : d = false ∨ L = 0) {an : Option Addr} {cn : Nat} {xd : Bool} {xb : List UInt8} {l : List HProp} {w : World} (hE : Ent l w) :
    Calls Tryd.prog 29 #[.agg #[.bool d, .string ⟨dt.toArray⟩, kv], .slice an L cn, .agg #[.bool xd, .string ⟨xb.toArray⟩, .slice none 0 0]] w
      (Ret fun v w' => v = .tuple #[.agg #[.bool false, .string ⟨#[]⟩, .slice none 0 0], .int .i64 8] ∧ Ent l w') := by
  cases d with
  | false =>
    go_enter Tryd.func29, Tryd.ntmps29
    go_wp2_with (first
      | go_skip
      | ((with_reducible (show Go.wpList _ _ _ (Go.Oper.mk _ (.box _ (.tmp 0)) _ _ _ _ :: _) _ _)); ((with_reducible (show Go.wpList _ _ _ (Go.Oper.mk _ (.box _ _) _ _ _ _ :: _) _ _)); refine wpl_box hE rfl rfl rfl ?_; clear hE; intro b3 w hE; simp only [Act.eval, Act.put, List.setIfInBounds_toArray, List.set_cons_zero, List.set_cons_succ, getD_lit, List.getD_cons_succ, List.getD_cons_zero, Value.cells] at hE))
      | ((with_reducible (show Go.wpList _ _ _ (Go.Oper.mk _ (.box _ (.tmp 2)) _ _ _ _ :: _) _ _)); ((with_reducible (show Go.wpList _ _ _ (Go.Oper.mk _ (.box _ _) _ _ _ _ :: _) _ _)); refine wpl_box hE rfl rfl rfl ?_; clear hE; intro b5 w hE; simp only [Act.eval, Act.put, List.setIfInBounds_toArray, List.set_cons_zero, List.set_cons_succ, getD_lit, List.getD_cons_succ, List.getD_cons_zero, Value.cells] at hE))
      | ((with_reducible (show Go.wpList _ _ _ (Go.Oper.mk _ (.alloc _) _ _ _ _ :: _) _ _)); refine wpl_alloc hE rfl rfl (by simp [go_sem]; rfl) ?_; clear hE; intro b6 w hE; simp only [Act.eval, Act.put, List.setIfInBounds_toArray, List.set_cons_zero, List.set_cons_succ, getD_lit, List.getD_cons_succ, List.getD_cons_zero, Value.cells] at hE)
      | ((with_reducible (show Go.wpList _ _ _ (Go.Oper.mk _ (.load _ _) _ _ _ _ :: _) _ _)); (first | (refine wpl_load1 hE 0 rfl rfl rfl rfl (by simp [go_sem]) rfl ?_) | (refine wpl_load1 hE 1 rfl rfl rfl rfl (by simp [go_sem]) rfl ?_) | (refine wpl_load1 hE 2 rfl rfl rfl rfl (by simp [go_sem]) rfl ?_) | (refine wpl_load1 hE 3 rfl rfl rfl rfl (by simp [go_sem]) rfl ?_) | (refine wpl_load1 hE 4 rfl rfl rfl rfl (by simp [go_sem]) rfl ?_) | (refine wpl_load1 hE 5 rfl rfl rfl rfl (by simp [go_sem]) rfl ?_) | (refine wpl_load1 hE 6 rfl rfl rfl rfl (by simp [go_sem]) rfl ?_) | (refine wpl_load1 hE 7 rfl rfl rfl rfl (by simp [go_sem]) rfl ?_)))
      | ((with_reducible (show Go.wpList _ _ _ (Go.Oper.mk _ (.store 28 _ _) _ _ _ _ :: _) _ _)); (first | (refine wpl_storeW hE 0 rfl rfl rfl (xs := [.bool false, .string ⟨#[]⟩, .slice none 0 0]) rfl rfl Tryd.sizeOf28 rfl (by simp [Value.oneCell']) rfl ?_) | (refine wpl_storeW hE 1 rfl rfl rfl (xs := [.bool false, .string ⟨#[]⟩, .slice none 0 0]) rfl rfl Tryd.sizeOf28 rfl (by simp [Value.oneCell']) rfl ?_) | (refine wpl_storeW hE 2 rfl rfl rfl (xs := [.bool false, .string ⟨#[]⟩, .slice none 0 0]) rfl rfl Tryd.sizeOf28 rfl (by simp [Value.oneCell']) rfl ?_) | (refine wpl_storeW hE 3 rfl rfl rfl (xs := [.bool false, .string ⟨#[]⟩, .slice none 0 0]) rfl rfl Tryd.sizeOf28 rfl (by simp [Value.oneCell']) rfl ?_) | (refine wpl_storeW hE 4 rfl rfl rfl (xs := [.bool false, .string ⟨#[]⟩, .slice none 0 0]) rfl rfl Tryd.sizeOf28 rfl (by simp [Value.oneCell']) rfl ?_) | (refine wpl_storeW hE 5 rfl rfl rfl (xs := [.bool false, .string ⟨#[]⟩, .slice none 0 0]) rfl rfl Tryd.sizeOf28 rfl (by simp [Value.oneCell']) rfl ?_) | (refine wpl_storeW hE 6 rfl rfl rfl (xs := [.bool false, .string ⟨#[]⟩, .slice none 0 0]) rfl rfl Tryd.sizeOf28 rfl (by simp [Value.oneCell']) rfl ?_) | (refine wpl_storeW hE 7 rfl rfl rfl (xs := [.bool false, .string ⟨#[]⟩, .slice none 0 0]) rfl rfl Tryd.sizeOf28 rfl (by simp [Value.oneCell']) rfl ?_)); clear hE; intro w hE; simp only [List.set_cons_zero, List.set_cons_succ] at hE))
    refine bodyPost_ret (results_cell2 rfl hE 0 rfl rfl Tryd.isAgg28 Tryd.sizeOf28 rfl rfl) rfl ?_
    exact ⟨_, rfl, rfl, hE.tail.tail.tail⟩
  | true =>
    obtain rfl : L = 0 := by simpa using h
    go_enter Tryd.func29, Tryd.ntmps29
    go_wp2_with (first
      | go_skip
      | ((with_reducible (show Go.wpList _ _ _ (Go.Oper.mk _ (.box _ (.tmp 0)) _ _ _ _ :: _) _ _)); ((with_reducible (show Go.wpList _ _ _ (Go.Oper.mk _ (.box _ _) _ _ _ _ :: _) _ _)); refine wpl_box hE rfl rfl rfl ?_; clear hE; intro b3 w hE; simp only [Act.eval, Act.put, List.setIfInBounds_toArray, List.set_cons_zero, List.set_cons_succ, getD_lit, List.getD_cons_succ, List.getD_cons_zero, Value.cells] at hE))
      | ((with_reducible (show Go.wpList _ _ _ (Go.Oper.mk _ (.box _ (.tmp 2)) _ _ _ _ :: _) _ _)); ((with_reducible (show Go.wpList _ _ _ (Go.Oper.mk _ (.box _ _) _ _ _ _ :: _) _ _)); refine wpl_box hE rfl rfl rfl ?_; clear hE; intro b5 w hE; simp only [Act.eval, Act.put, List.setIfInBounds_toArray, List.set_cons_zero, List.set_cons_succ, getD_lit, List.getD_cons_succ, List.getD_cons_zero, Value.cells] at hE))
      | ((with_reducible (show Go.wpList _ _ _ (Go.Oper.mk _ (.alloc _) _ _ _ _ :: _) _ _)); refine wpl_alloc hE rfl rfl (by simp [go_sem]; rfl) ?_; clear hE; intro b6 w hE; simp only [Act.eval, Act.put, List.setIfInBounds_toArray, List.set_cons_zero, List.set_cons_succ, getD_lit, List.getD_cons_succ, List.getD_cons_zero, Value.cells] at hE)
      | ((with_reducible (show Go.wpList _ _ _ (Go.Oper.mk _ (.load _ _) _ _ _ _ :: _) _ _)); (first | (refine wpl_load1 hE 0 rfl rfl rfl rfl (by simp [go_sem]) rfl ?_) | (refine wpl_load1 hE 1 rfl rfl rfl rfl (by simp [go_sem]) rfl ?_) | (refine wpl_load1 hE 2 rfl rfl rfl rfl (by simp [go_sem]) rfl ?_) | (refine wpl_load1 hE 3 rfl rfl rfl rfl (by simp [go_sem]) rfl ?_) | (refine wpl_load1 hE 4 rfl rfl rfl rfl (by simp [go_sem]) rfl ?_) | (refine wpl_load1 hE 5 rfl rfl rfl rfl (by simp [go_sem]) rfl ?_) | (refine wpl_load1 hE 6 rfl rfl rfl rfl (by simp [go_sem]) rfl ?_) | (refine wpl_load1 hE 7 rfl rfl rfl rfl (by simp [go_sem]) rfl ?_)))
      | ((with_reducible (show Go.wpList _ _ _ (Go.Oper.mk _ (.store 28 _ _) _ _ _ _ :: _) _ _)); (first | (refine wpl_storeW hE 0 rfl rfl rfl (xs := [.bool false, .string ⟨#[]⟩, .slice none 0 0]) rfl rfl Tryd.sizeOf28 rfl (by simp [Value.oneCell']) rfl ?_) | (refine wpl_storeW hE 1 rfl rfl rfl (xs := [.bool false, .string ⟨#[]⟩, .slice none 0 0]) rfl rfl Tryd.sizeOf28 rfl (by simp [Value.oneCell']) rfl ?_) | (refine wpl_storeW hE 2 rfl rfl rfl (xs := [.bool false, .string ⟨#[]⟩, .slice none 0 0]) rfl rfl Tryd.sizeOf28 rfl (by simp [Value.oneCell']) rfl ?_) | (refine wpl_storeW hE 3 rfl rfl rfl (xs := [.bool false, .string ⟨#[]⟩, .slice none 0 0]) rfl rfl Tryd.sizeOf28 rfl (by simp [Value.oneCell']) rfl ?_) | (refine wpl_storeW hE 4 rfl rfl rfl (xs := [.bool false, .string ⟨#[]⟩, .slice none 0 0]) rfl rfl Tryd.sizeOf28 rfl (by simp [Value.oneCell']) rfl ?_) | (refine wpl_storeW hE 5 rfl rfl rfl (xs := [.bool false, .string ⟨#[]⟩, .slice none 0 0]) rfl rfl Tryd.sizeOf28 rfl (by simp [Value.oneCell']) rfl ?_) | (refine wpl_storeW hE 6 rfl rfl rfl (xs := [.bool false, .string ⟨#[]⟩, .slice none 0 0]) rfl rfl Tryd.sizeOf28 rfl (by simp [Value.oneCell']) rfl ?_) | (refine wpl_storeW hE 7 rfl rfl rfl (xs := [.bool false, .string ⟨#[]⟩, .slice none 0 0]) rfl rfl Tryd.sizeOf28 rfl (by simp [Value.oneCell']) rfl ?_)); clear hE; intro w hE; simp only [List.set_cons_zero, List.set_cons_succ] at hE))
    refine bodyPost_ret (results_cell2 rfl hE 0 rfl rfl Tryd.isAgg28 Tryd.sizeOf28 rfl rfl) rfl ?_
    exact ⟨_, rfl, rfl, hE.tail.tail.tail⟩

set_option maxRecDepth 100000 in
set_option maxHeartbeats 8000000 in
attribute [-go_sem] Instr.loadAt in
theorem with_last {dt : List UInt8} {ks : List (List UInt8 × Tr)} {kv : Value} {pre lb : List HProp} (hkv : KidsAt lb kv ks) (hr : Rising (ks.map Prod.fst)) (h6 : ks.length ≤ 6) {n : List UInt8} {an : Option Addr} {cn : Nat} {xd : Bool} {xb : List UInt8} (hx : xb.length ≤ 1000000)
    (hn : Knows (pre ++ lb) (reads (.slice an 1 cn) 1 [strv n])) {w : World} (hE : Ent (pre ++ lb) w) :
    Calls Tryd.prog 29 #[.agg #[.bool true, .string ⟨dt.toArray⟩, kv], .slice an 1 cn, .agg #[.bool xd, .string ⟨xb.toArray⟩, .slice none 0 0]] w
      (Ret fun v w' => ∃ m kv', v = .tuple #[nodeV (Tr.withT [n] xd xb (.nd true dt ks)).2 kv', .int .i64 (Tr.withT [n] xd xb (.nd true dt ks)).1] ∧ Ent (pre ++ (m ++ lb)) w' ∧ KidsAt (m ++ lb) kv' (Tr.withT [n] xd xb (.nd true dt ks)).2.kids) := by
  have HT := SL.hid (show Tr.withT [n] xd xb (.nd true dt ks) = if !isIn (ks.map Prod.fst) n then (if 6 < ks.length + 1 ∨ 8192 < xb.length then (6, .zero) else (0, .nd true [] (Tr.insAt (placeOf (ks.map Prod.fst) n) (n, .leafOf xd xb) ks))) else (8, .zero) from by rw [Tr.withT]; rfl)
  have hp := (find_at hr n).2.1
  rw [List.length_map] at hp
  obtain ⟨ao, c, vs, rfl, hc, hl, hkn, hks, hone⟩ := hkv.open
  obtain ⟨bn, on, rfl, hz⟩ := reads_form (hn _ hE) (by omega) (by simp)
  clear hz
  have hNm := SL.hid (show ∀ W, Ent (pre ++ lb) W → W.cell? ⟨bn, on, none⟩ = some (.string ⟨n.toArray⟩) from fun W hW => by
    obtain ⟨b', o', e, h⟩ := reads_form (hn _ hW) (by omega) (by simp)
    cases e
    exact h 0 _ rfl)
  have hF := SL.hid (show ∀ (L : List HProp), (pre ++ lb) <:+ L → ∀ w, Ent L w → Calls Tryd.prog 34 #[.slice ao ks.length c, .string ⟨n.toArray⟩, .func (.func 35) #[] #[]] w
      (Ret fun r w' => r = .tuple #[.int .i64 (placeOf (ks.map Prod.fst) n), .bool (isIn (ks.map Prod.fst) n)] ∧ Ent L w') from fun L hL w hw => find_any (hkv.suf ((List.suffix_append pre lb).trans hL)) hr (by omega) n hw)
  have Hkn := SL.hid (show Knows (pre ++ lb) (reads (.slice ao ks.length c) ks.length (kCs ks vs)) from hkn.append)
  have Hlen := SL.hid (kCs_len hl)
  have Hone := SL.hid hone
  have Hins := SL.hid (fun z hz => kCs_ins (vs := vs) hl hp (n, .leafOf xd xb) (.slice none 0 0) z hz)
  have Hkk := SL.hid (ins_kids hl hks hp (n := n) (x := .leafOf xd xb) (KidsAt.nil lb))
  have Hil := SL.hid (Tr.insAt_len (x := (n, Tr.leafOf xd xb)) hp)
  have Hvl := SL.hid (Tr.insAt_len (x := Value.slice none 0 0) (l := vs) (i := placeOf (ks.map Prod.fst) n) (by omega))
  have Hl := SL.hid hl
  clear hn hkv hr hkn hone hl hks
  generalize placeOf (ks.map Prod.fst) n = p at *
  generalize isIn (ks.map Prod.fst) n = is at *
  cases is with
  | true =>
    rw [if_neg (by simp)] at HT
    rw [HT.out]
    as_aux_lemma =>
    go_enter Tryd.func29, Tryd.ntmps29
    go_wp2_with (first
      | go_skip
      | ((with_reducible (show Go.wpList _ _ _ (Go.Oper.mk _ (.box _ (.tmp 0)) _ _ _ _ :: _) _ _)); ((with_reducible (show Go.wpList _ _ _ (Go.Oper.mk _ (.box _ _) _ _ _ _ :: _) _ _)); refine wpl_box hE rfl rfl rfl ?_; clear hE; intro b3 w hE; simp only [Act.eval, Act.put, List.setIfInBounds_toArray, List.set_cons_zero, List.set_cons_succ, getD_lit, List.getD_cons_succ, List.getD_cons_zero, Value.cells] at hE))
      | ((with_reducible (show Go.wpList _ _ _ (Go.Oper.mk _ (.box _ (.tmp 2)) _ _ _ _ :: _) _ _)); ((with_reducible (show Go.wpList _ _ _ (Go.Oper.mk _ (.box _ _) _ _ _ _ :: _) _ _)); refine wpl_box hE rfl rfl rfl ?_; clear hE; intro b5 w hE; simp only [Act.eval, Act.put, List.setIfInBounds_toArray, List.set_cons_zero, List.set_cons_succ, getD_lit, List.getD_cons_succ, List.getD_cons_zero, Value.cells] at hE))
      | ((with_reducible (show Go.wpList _ _ _ (Go.Oper.mk _ (.alloc _) _ _ _ _ :: _) _ _)); refine wpl_alloc hE rfl rfl (by simp [go_sem]; rfl) ?_; clear hE; intro b6 w hE; simp only [Act.eval, Act.put, List.setIfInBounds_toArray, List.set_cons_zero, List.set_cons_succ, getD_lit, List.getD_cons_succ, List.getD_cons_zero, Value.cells] at hE)
      | ((with_reducible (show Go.wpList _ _ _ (Go.Oper.mk _ (.load _ _) _ _ _ _ :: _) _ _)); (first | (refine wpl_load1 hE 0 rfl rfl rfl rfl (by simp [go_sem]) rfl ?_) | (refine wpl_load1 hE 1 rfl rfl rfl rfl (by simp [go_sem]) rfl ?_) | (refine wpl_load1 hE 2 rfl rfl rfl rfl (by simp [go_sem]) rfl ?_) | (refine wpl_load1 hE 3 rfl rfl rfl rfl (by simp [go_sem]) rfl ?_) | (refine wpl_load1 hE 4 rfl rfl rfl rfl (by simp [go_sem]) rfl ?_) | (refine wpl_load1 hE 5 rfl rfl rfl rfl (by simp [go_sem]) rfl ?_) | (refine wpl_load1 hE 6 rfl rfl rfl rfl (by simp [go_sem]) rfl ?_) | (refine wpl_load1 hE 7 rfl rfl rfl rfl (by simp [go_sem]) rfl ?_))))
    refine wp_region_held_drew (S := (fun w' => ((Instr.loadAt 26 (.pointer (some ⟨b3, 2, none⟩))).run Tryd.prog w' = .ok (.slice ao ks.length c) w') ∧ ((Instr.loadAt 9 (.pointer (some ⟨bn, on, none⟩))).run Tryd.prog w' = .ok (.string ⟨n.toArray⟩) w'))) (by kernel_rfl) ⟨(atVm hE.drew (by repeat (first | exact List.Mem.head _ | refine List.Mem.tail _ ?_)) (by simp [go_sem]) rfl), (atCell (hNm.out _ (hE.drew.suf (by repeat (first | exact List.suffix_refl _ | refine List.IsSuffix.trans ?_ (List.suffix_cons _ _))))) (by simp [go_sem]))⟩ (fun hS => ?_)
    refine takeW 0 ⟨some 25, .fieldAddr 28 (.tmp 3) 2, 0, "fold.go:45", #[], none⟩ ?_ (.inl ⟨by rfl, ?_⟩) hS ?_
    rotate_left
    · (intro w hSw; (try dsimp only at hSw); go_simp; (try with_reducible rfl))
    try simp only [Act.put, sb, s0, sz]
    refine takeW 1 ⟨some 26, .load 26 (.tmp 25), 26, "fold.go:45", #[⟨0, .data⟩], none⟩ ?_ (.inl ⟨by rfl, ?_⟩) hS ?_
    rotate_left
    · (intro w hSw; (try dsimp only at hSw); go_simp; (try with_reducible rfl))
    try simp only [Act.put, sb, s0, sz]
    refine takeW 2 ⟨some 27, .move (.tmp 1), 23, "fold.go:45", #[], none⟩ ?_ (.inl ⟨by rfl, ?_⟩) hS ?_
    rotate_left
    · (intro w hSw; (try dsimp only at hSw); go_simp; (try with_reducible rfl))
    try simp only [Act.put, sb, s0, sz]
    refine takeW 3 ⟨some 28, .indexAddr 23 (.tmp 27) (.const (.int .i64 0)), 0, "fold.go:45", #[⟨2, .data⟩], none⟩ ?_ (.inl ⟨by rfl, ?_⟩) hS ?_
    rotate_left
    · (intro w hSw; (try dsimp only at hSw); go_simp; (try with_reducible rfl))
    try simp only [Act.put, sb, s0, sz]
    refine takeW 4 ⟨some 29, .load 9 (.tmp 28), 9, "fold.go:45", #[⟨3, .data⟩], none⟩ ?_ (.inl ⟨by rfl, ?_⟩) hS ?_
    rotate_left
    · (intro w hSw; (try dsimp only at hSw); go_simp; (try with_reducible rfl))
    try simp only [Act.put, sb, s0, sz]
    refine wpAnyH_ready (rs := [5]) (by kernel_rfl) (by simp) ?_
    refine (AllReadyH.cons (o := { dst := some 30, op := Go.Op.call { callee := Go.Callee.value (Go.Operand.func 34), args := #[Go.Operand.tmp 26, Go.Operand.tmp 29, Go.Operand.func 35], argTypes := #[26, 9, 71] }, type := 69, pos := "fold.go:45", after := #[{ on := 1, ground := Go.Ground.data }, { on := 4, ground := Go.Ground.data }], guard := none }) rfl (fun K hK => ?_) AllReadyH.nil)
    (go_simp; refine (hF.out _ (by repeat (first | exact List.suffix_refl _ | refine List.IsSuffix.trans ?_ (List.suffix_cons _ _))) _ hE.drew).mono ?_; rintro e w3 ⟨v, rfl, rfl, hE3⟩)
    refine hK.out _ _ ⟨(atVm hE3 (by repeat (first | exact List.Mem.head _ | refine List.Mem.tail _ ?_)) (by simp [go_sem]) rfl), (atCell (hNm.out _ (hE3.suf (by repeat (first | exact List.suffix_refl _ | refine List.IsSuffix.trans ?_ (List.suffix_cons _ _))))) (by simp [go_sem]))⟩ (fun hS => ?_)
    clear hK K
    try simp only [Act.put, sb, s0, sz]
    refine takeW 6 ⟨some 24, .move (.tmp 30), 69, "fold.go:45", #[⟨5, .data⟩], none⟩ ?_ (.inl ⟨by rfl, ?_⟩) hS ?_
    rotate_left
    · (intro w hSw; (try dsimp only at hSw); go_simp; (try with_reducible rfl))
    try simp only [Act.put, sb, s0, sz]
    refine takeW 7 ⟨some 31, .extract (.tmp 24) 0, 3, "fold.go:45", #[⟨6, .data⟩], none⟩ ?_ (.inl ⟨by rfl, ?_⟩) hS ?_
    rotate_left
    · (intro w hSw; (try dsimp only at hSw); go_simp; (try with_reducible rfl))
    try simp only [Act.put, sb, s0, sz]
    refine takeW 8 ⟨some 32, .extract (.tmp 24) 1, 4, "fold.go:45", #[⟨6, .data⟩, { on := 9, ground := Go.Ground.gcOnly Go.Departure.lateStores }], none⟩ ?_ (.inl ⟨by rfl, ?_⟩) hS ?_
    rotate_left
    · (intro w hSw; (try dsimp only at hSw); go_simp; (try with_reducible rfl))
    try simp only [Act.put, sb, s0, sz]
    refine takeW 9 ⟨some 8, .assign (.tmp 31), 3, "fold.go:45", #[⟨7, .data⟩, ⟨5, .chain⟩, ⟨0, .phase⟩, ⟨1, .phase⟩, ⟨2, .phase⟩, ⟨3, .phase⟩, ⟨4, .phase⟩, ⟨5, .phase⟩, ⟨6, .phase⟩, ⟨7, .phase⟩, { on := 8, ground := Go.Ground.textOnly Go.Departure.lateStores }], none⟩ ?_ (.inl ⟨by rfl, ?_⟩) hS ?_
    rotate_left
    · (intro w hSw; (try dsimp only at hSw); go_simp; (try with_reducible rfl))
    try simp only [Act.put, sb, s0, sz]
    refine takeW 10 ⟨some 9, .assign (.tmp 32), 4, "fold.go:45", #[⟨8, .data⟩, ⟨9, .chain⟩, ⟨0, .phase⟩, ⟨1, .phase⟩, ⟨2, .phase⟩, ⟨3, .phase⟩, ⟨4, .phase⟩, ⟨5, .phase⟩, ⟨6, .phase⟩, ⟨7, .phase⟩, ⟨8, .phase⟩, ⟨9, .phase⟩], none⟩ ?_ (.inl ⟨by rfl, ?_⟩) hS ?_
    rotate_left
    · (intro w hSw; (try dsimp only at hSw); go_simp; (try with_reducible rfl))
    try simp only [Act.put, sb, s0, sz]
    refine wpAnyH_done (by kernel_rfl) ?_ _
    clear hE hS
    have hE := hE3
    clear hE3
    go_wp2_with (first
      | go_skip
      | ((with_reducible (show Go.wpList _ _ _ (Go.Oper.mk _ (.load _ _) _ _ _ _ :: _) _ _)); (first | (refine wpl_load1 hE 0 rfl rfl rfl rfl (by simp [go_sem]) rfl ?_) | (refine wpl_load1 hE 1 rfl rfl rfl rfl (by simp [go_sem]) rfl ?_) | (refine wpl_load1 hE 2 rfl rfl rfl rfl (by simp [go_sem]) rfl ?_) | (refine wpl_load1 hE 3 rfl rfl rfl rfl (by simp [go_sem]) rfl ?_) | (refine wpl_load1 hE 4 rfl rfl rfl rfl (by simp [go_sem]) rfl ?_) | (refine wpl_load1 hE 5 rfl rfl rfl rfl (by simp [go_sem]) rfl ?_) | (refine wpl_load1 hE 6 rfl rfl rfl rfl (by simp [go_sem]) rfl ?_) | (refine wpl_load1 hE 7 rfl rfl rfl rfl (by simp [go_sem]) rfl ?_)))
      | ((with_reducible (show Go.wpList _ _ _ (Go.Oper.mk _ (.store 28 _ _) _ _ _ _ :: _) _ _)); (first | (refine wpl_storeW hE 0 rfl rfl rfl (xs := [.bool false, .string ⟨#[]⟩, .slice none 0 0]) rfl rfl Tryd.sizeOf28 rfl (by simp [Value.oneCell']) rfl ?_) | (refine wpl_storeW hE 1 rfl rfl rfl (xs := [.bool false, .string ⟨#[]⟩, .slice none 0 0]) rfl rfl Tryd.sizeOf28 rfl (by simp [Value.oneCell']) rfl ?_) | (refine wpl_storeW hE 2 rfl rfl rfl (xs := [.bool false, .string ⟨#[]⟩, .slice none 0 0]) rfl rfl Tryd.sizeOf28 rfl (by simp [Value.oneCell']) rfl ?_) | (refine wpl_storeW hE 3 rfl rfl rfl (xs := [.bool false, .string ⟨#[]⟩, .slice none 0 0]) rfl rfl Tryd.sizeOf28 rfl (by simp [Value.oneCell']) rfl ?_) | (refine wpl_storeW hE 4 rfl rfl rfl (xs := [.bool false, .string ⟨#[]⟩, .slice none 0 0]) rfl rfl Tryd.sizeOf28 rfl (by simp [Value.oneCell']) rfl ?_) | (refine wpl_storeW hE 5 rfl rfl rfl (xs := [.bool false, .string ⟨#[]⟩, .slice none 0 0]) rfl rfl Tryd.sizeOf28 rfl (by simp [Value.oneCell']) rfl ?_) | (refine wpl_storeW hE 6 rfl rfl rfl (xs := [.bool false, .string ⟨#[]⟩, .slice none 0 0]) rfl rfl Tryd.sizeOf28 rfl (by simp [Value.oneCell']) rfl ?_) | (refine wpl_storeW hE 7 rfl rfl rfl (xs := [.bool false, .string ⟨#[]⟩, .slice none 0 0]) rfl rfl Tryd.sizeOf28 rfl (by simp [Value.oneCell']) rfl ?_)); clear hE; intro w hE; simp only [List.set_cons_zero, List.set_cons_succ] at hE))
    refine bodyPost_ret (results_cell2 rfl hE 0 rfl rfl Tryd.isAgg28 Tryd.sizeOf28 rfl rfl) rfl ?_
    exact ⟨_, rfl, [], .slice none 0 0, rfl, hE.tail.tail.tail, KidsAt.nil _⟩
  | false =>
    rw [if_pos (by simp)] at HT
    have h0p : (0 : Int) ≤ (p : Int) + 1 := by omega
    have hwp : IntKind.i64.wrap ((p : Int) + 1) = (p : Int) + 1 := wrap_id (by omega)
    have hs1 : ∀ w, (Instr.sliceAt 26 (.slice ao ks.length c) none (some (.int .i64 p)) none).run Tryd.prog w = .ok (.slice ao p c) w := fun w => by
      rw [sliceAt_slice Tryd.underlying26, run_cut_hi Tryd.underlying26 Tryd.sizeOf51 ao _ c .i64 p (by omega), cut_zero]; rfl
    have hs2 : ∀ w, (Instr.sliceAt 26 (.slice ao ks.length c) (some (.int .i64 p)) none none).run Tryd.prog w = .ok (.slice (cutAt 4 ao c p) (ks.length - p) (c - p)) w := fun w => by
      rw [sliceAt_slice Tryd.underlying26, run_cut_lo Tryd.underlying26 Tryd.sizeOf51 ao _ c .i64 p (by omega)]
    have hs3 : ∀ g w, (Instr.sliceAt 26 (.slice (some ⟨g, 0, none⟩) (ks.length + 1) (ks.length + 1)) (some (.int .i64 ((p : Int) + 1))) none none).run Tryd.prog w = .ok (.slice (cutAt 4 (some ⟨g, 0, none⟩) (ks.length + 1) (p + 1)) (ks.length - p) (ks.length - p)) w := fun g w => by
      rw [sliceAt_slice Tryd.underlying26, show (p : Int) + 1 = ((p + 1 : Nat) : Int) from rfl, run_cut_lo Tryd.underlying26 Tryd.sizeOf51 _ _ (ks.length + 1) .i64 (p + 1) (by omega), Nat.add_sub_add_right]
    have hpN : (p : Int) < (ks.length : Int) + 1 := by omega
    have hpN2 : p < ks.length + 1 := by omega
    have HpN := SL.hid (show p ≤ ks.length ∧ ks.length ≤ c ∧ ks.length ≤ 6 from by omega)
    have Hc1 := SL.hid (show (6 < ks.length + 1 ∨ 8192 < xb.length) ↔ ((decide ((6 : Int) < (ks.length : Int) + 1) || decide ((8192 : Int) < (xb.length : Int))) = true) from by
      rw [Bool.or_eq_true, decide_eq_true_eq, decide_eq_true_eq]; omega)
    clear hc
    as_aux_lemma =>
    go_enter Tryd.func29, Tryd.ntmps29
    go_wp2_with (first
      | go_skip
      | ((with_reducible (show Go.wpList _ _ _ (Go.Oper.mk _ (.box _ (.tmp 0)) _ _ _ _ :: _) _ _)); ((with_reducible (show Go.wpList _ _ _ (Go.Oper.mk _ (.box _ _) _ _ _ _ :: _) _ _)); refine wpl_box hE rfl rfl rfl ?_; clear hE; intro b3 w hE; simp only [Act.eval, Act.put, List.setIfInBounds_toArray, List.set_cons_zero, List.set_cons_succ, getD_lit, List.getD_cons_succ, List.getD_cons_zero, Value.cells] at hE))
      | ((with_reducible (show Go.wpList _ _ _ (Go.Oper.mk _ (.box _ (.tmp 2)) _ _ _ _ :: _) _ _)); ((with_reducible (show Go.wpList _ _ _ (Go.Oper.mk _ (.box _ _) _ _ _ _ :: _) _ _)); refine wpl_box hE rfl rfl rfl ?_; clear hE; intro b5 w hE; simp only [Act.eval, Act.put, List.setIfInBounds_toArray, List.set_cons_zero, List.set_cons_succ, getD_lit, List.getD_cons_succ, List.getD_cons_zero, Value.cells] at hE))
      | ((with_reducible (show Go.wpList _ _ _ (Go.Oper.mk _ (.alloc _) _ _ _ _ :: _) _ _)); refine wpl_alloc hE rfl rfl (by simp [go_sem]; rfl) ?_; clear hE; intro b6 w hE; simp only [Act.eval, Act.put, List.setIfInBounds_toArray, List.set_cons_zero, List.set_cons_succ, getD_lit, List.getD_cons_succ, List.getD_cons_zero, Value.cells] at hE)
      | ((with_reducible (show Go.wpList _ _ _ (Go.Oper.mk _ (.load _ _) _ _ _ _ :: _) _ _)); (first | (refine wpl_load1 hE 0 rfl rfl rfl rfl (by simp [go_sem]) rfl ?_) | (refine wpl_load1 hE 1 rfl rfl rfl rfl (by simp [go_sem]) rfl ?_) | (refine wpl_load1 hE 2 rfl rfl rfl rfl (by simp [go_sem]) rfl ?_) | (refine wpl_load1 hE 3 rfl rfl rfl rfl (by simp [go_sem]) rfl ?_) | (refine wpl_load1 hE 4 rfl rfl rfl rfl (by simp [go_sem]) rfl ?_) | (refine wpl_load1 hE 5 rfl rfl rfl rfl (by simp [go_sem]) rfl ?_) | (refine wpl_load1 hE 6 rfl rfl rfl rfl (by simp [go_sem]) rfl ?_) | (refine wpl_load1 hE 7 rfl rfl rfl rfl (by simp [go_sem]) rfl ?_))))
    refine wp_region_held_drew (S := (fun w' => ((Instr.loadAt 26 (.pointer (some ⟨b3, 2, none⟩))).run Tryd.prog w' = .ok (.slice ao ks.length c) w') ∧ ((Instr.loadAt 9 (.pointer (some ⟨bn, on, none⟩))).run Tryd.prog w' = .ok (.string ⟨n.toArray⟩) w'))) (by kernel_rfl) ⟨(atVm hE.drew (by repeat (first | exact List.Mem.head _ | refine List.Mem.tail _ ?_)) (by simp [go_sem]) rfl), (atCell (hNm.out _ (hE.drew.suf (by repeat (first | exact List.suffix_refl _ | refine List.IsSuffix.trans ?_ (List.suffix_cons _ _))))) (by simp [go_sem]))⟩ (fun hS => ?_)
    refine takeW 0 ⟨some 25, .fieldAddr 28 (.tmp 3) 2, 0, "fold.go:45", #[], none⟩ ?_ (.inl ⟨by rfl, ?_⟩) hS ?_
    rotate_left
    · (intro w hSw; (try dsimp only at hSw); go_simp; (try with_reducible rfl))
    try simp only [Act.put, sb, s0, sz]
    refine takeW 1 ⟨some 26, .load 26 (.tmp 25), 26, "fold.go:45", #[⟨0, .data⟩], none⟩ ?_ (.inl ⟨by rfl, ?_⟩) hS ?_
    rotate_left
    · (intro w hSw; (try dsimp only at hSw); go_simp; (try with_reducible rfl))
    try simp only [Act.put, sb, s0, sz]
    refine takeW 2 ⟨some 27, .move (.tmp 1), 23, "fold.go:45", #[], none⟩ ?_ (.inl ⟨by rfl, ?_⟩) hS ?_
    rotate_left
    · (intro w hSw; (try dsimp only at hSw); go_simp; (try with_reducible rfl))
    try simp only [Act.put, sb, s0, sz]
    refine takeW 3 ⟨some 28, .indexAddr 23 (.tmp 27) (.const (.int .i64 0)), 0, "fold.go:45", #[⟨2, .data⟩], none⟩ ?_ (.inl ⟨by rfl, ?_⟩) hS ?_
    rotate_left
    · (intro w hSw; (try dsimp only at hSw); go_simp; (try with_reducible rfl))
    try simp only [Act.put, sb, s0, sz]
    refine takeW 4 ⟨some 29, .load 9 (.tmp 28), 9, "fold.go:45", #[⟨3, .data⟩], none⟩ ?_ (.inl ⟨by rfl, ?_⟩) hS ?_
    rotate_left
    · (intro w hSw; (try dsimp only at hSw); go_simp; (try with_reducible rfl))
    try simp only [Act.put, sb, s0, sz]
    refine wpAnyH_ready (rs := [5]) (by kernel_rfl) (by simp) ?_
    refine (AllReadyH.cons (o := { dst := some 30, op := Go.Op.call { callee := Go.Callee.value (Go.Operand.func 34), args := #[Go.Operand.tmp 26, Go.Operand.tmp 29, Go.Operand.func 35], argTypes := #[26, 9, 71] }, type := 69, pos := "fold.go:45", after := #[{ on := 1, ground := Go.Ground.data }, { on := 4, ground := Go.Ground.data }], guard := none }) rfl (fun K hK => ?_) AllReadyH.nil)
    (go_simp; refine (hF.out _ (by repeat (first | exact List.suffix_refl _ | refine List.IsSuffix.trans ?_ (List.suffix_cons _ _))) _ hE.drew).mono ?_; rintro e w3 ⟨v, rfl, rfl, hE3⟩)
    refine hK.out _ _ ⟨(atVm hE3 (by repeat (first | exact List.Mem.head _ | refine List.Mem.tail _ ?_)) (by simp [go_sem]) rfl), (atCell (hNm.out _ (hE3.suf (by repeat (first | exact List.suffix_refl _ | refine List.IsSuffix.trans ?_ (List.suffix_cons _ _))))) (by simp [go_sem]))⟩ (fun hS => ?_)
    clear hK K
    try simp only [Act.put, sb, s0, sz]
    refine takeW 6 ⟨some 24, .move (.tmp 30), 69, "fold.go:45", #[⟨5, .data⟩], none⟩ ?_ (.inl ⟨by rfl, ?_⟩) hS ?_
    rotate_left
    · (intro w hSw; (try dsimp only at hSw); go_simp; (try with_reducible rfl))
    try simp only [Act.put, sb, s0, sz]
    refine takeW 7 ⟨some 31, .extract (.tmp 24) 0, 3, "fold.go:45", #[⟨6, .data⟩], none⟩ ?_ (.inl ⟨by rfl, ?_⟩) hS ?_
    rotate_left
    · (intro w hSw; (try dsimp only at hSw); go_simp; (try with_reducible rfl))
    try simp only [Act.put, sb, s0, sz]
    refine takeW 8 ⟨some 32, .extract (.tmp 24) 1, 4, "fold.go:45", #[⟨6, .data⟩, { on := 9, ground := Go.Ground.gcOnly Go.Departure.lateStores }], none⟩ ?_ (.inl ⟨by rfl, ?_⟩) hS ?_
    rotate_left
    · (intro w hSw; (try dsimp only at hSw); go_simp; (try with_reducible rfl))
    try simp only [Act.put, sb, s0, sz]
    refine takeW 9 ⟨some 8, .assign (.tmp 31), 3, "fold.go:45", #[⟨7, .data⟩, ⟨5, .chain⟩, ⟨0, .phase⟩, ⟨1, .phase⟩, ⟨2, .phase⟩, ⟨3, .phase⟩, ⟨4, .phase⟩, ⟨5, .phase⟩, ⟨6, .phase⟩, ⟨7, .phase⟩, { on := 8, ground := Go.Ground.textOnly Go.Departure.lateStores }], none⟩ ?_ (.inl ⟨by rfl, ?_⟩) hS ?_
    rotate_left
    · (intro w hSw; (try dsimp only at hSw); go_simp; (try with_reducible rfl))
    try simp only [Act.put, sb, s0, sz]
    refine takeW 10 ⟨some 9, .assign (.tmp 32), 4, "fold.go:45", #[⟨8, .data⟩, ⟨9, .chain⟩, ⟨0, .phase⟩, ⟨1, .phase⟩, ⟨2, .phase⟩, ⟨3, .phase⟩, ⟨4, .phase⟩, ⟨5, .phase⟩, ⟨6, .phase⟩, ⟨7, .phase⟩, ⟨8, .phase⟩, ⟨9, .phase⟩], none⟩ ?_ (.inl ⟨by rfl, ?_⟩) hS ?_
    rotate_left
    · (intro w hSw; (try dsimp only at hSw); go_simp; (try with_reducible rfl))
    try simp only [Act.put, sb, s0, sz]
    refine wpAnyH_done (by kernel_rfl) ?_ _
    clear hE hS
    have hE := hE3
    clear hE3
    go_wp2_with (first
      | go_skip
      | ((with_reducible (show Go.wpList _ _ _ (Go.Oper.mk _ (.load _ _) _ _ _ _ :: _) _ _)); (first | (refine wpl_load1 hE 0 rfl rfl rfl rfl (by simp [go_sem]) rfl ?_) | (refine wpl_load1 hE 1 rfl rfl rfl rfl (by simp [go_sem]) rfl ?_) | (refine wpl_load1 hE 2 rfl rfl rfl rfl (by simp [go_sem]) rfl ?_) | (refine wpl_load1 hE 3 rfl rfl rfl rfl (by simp [go_sem]) rfl ?_) | (refine wpl_load1 hE 4 rfl rfl rfl rfl (by simp [go_sem]) rfl ?_) | (refine wpl_load1 hE 5 rfl rfl rfl rfl (by simp [go_sem]) rfl ?_) | (refine wpl_load1 hE 6 rfl rfl rfl rfl (by simp [go_sem]) rfl ?_) | (refine wpl_load1 hE 7 rfl rfl rfl rfl (by simp [go_sem]) rfl ?_)))
      | ((with_reducible (show Go.wpList _ _ _ (Go.Oper.mk _ (.makeSlice _ _ _) _ _ _ _ :: _) _ _)); refine wpl_make hE rfl rfl Tryd.underlying26 nd_bytes rfl (by decide) (ks.length + 1) rfl rfl (by have := HpN.out; omega) (by have := HpN.out; omega) ?_; clear hE; intro g w4 hE)
      | ((with_reducible (show Go.wpList _ _ _ (Go.Oper.mk _ (.call { callee := .builtin .copy, args := _, argTypes := _ }) _ _ _ _ :: _) _ _)); refine wpl_copyK (size := 4) (j := 0) (dLen := ks.length + 1) (dCap := ks.length + 1) hE 0 rfl rfl rfl (by rw [cut_zero]; rfl) rfl Tryd.underlying26 sz_kid (m := p) (ys := (kCs ks vs).take (p * 4)) (reads_first (Hkn.out _ (hE.suf (by repeat (first | exact List.suffix_refl _ | refine List.IsSuffix.trans ?_ (List.suffix_cons _ _))))) HpN.out.1) (by rw [List.length_take, Hlen.out]; have := HpN.out; omega) (fun u hu => Hone.out u (List.mem_of_mem_take hu)) (by have := HpN.out; omega) (by have := HpN.out; omega) ?_; clear hE; intro w5 hE; simp only [List.set_cons_zero] at hE))
    have hs4 := hs3 g
    clear hs3 hs1
    refine wp_region_held_drew (S := (fun w' => ((Instr.loadAt 26 (.pointer (some ⟨b3, 2, none⟩))).run Tryd.prog w' = .ok (.slice ao ks.length c) w'))) (by kernel_rfl) (atVm hE.drew (by repeat (first | exact List.Mem.head _ | refine List.Mem.tail _ ?_)) (by simp [go_sem]) rfl) (fun hS => ?_)
    refine takeW 0 ⟨some 55, .move (.tmp 12), 26, "fold.go:57", #[], none⟩ ?_ (.inl ⟨by rfl, ?_⟩) hS ?_
    rotate_left
    · (intro w hSw; (try dsimp only at hSw); go_simp; (try with_reducible rfl))
    try simp only [Act.put, sb, s0, sz]
    refine takeW 1 ⟨some 56, .move (.tmp 8), 3, "fold.go:57", #[], none⟩ ?_ (.inl ⟨by rfl, ?_⟩) hS ?_
    rotate_left
    · (intro w hSw; (try dsimp only at hSw); go_simp; (try with_reducible rfl))
    try simp only [Act.put, sb, s0, sz]
    refine takeW 2 ⟨some 57, .binOp .add 3 (.tmp 56) (.const (.int .i64 1)) 3, 3, "fold.go:57", #[⟨1, .data⟩], none⟩ ?_ (.inl ⟨by rfl, ?_⟩) hS ?_
    rotate_left
    · (intro w hSw; (try dsimp only at hSw); go_simp; (try with_reducible rfl))
    try simp only [Act.put, sb, s0, sz]
    refine takeW 3 ⟨some 58, .slice 26 (.tmp 55) (some (.tmp 57)) none none, 26, "fold.go:57", #[⟨0, .data⟩, ⟨2, .data⟩], none⟩ ?_ (.inl ⟨by rfl, ?_⟩) hS ?_
    rotate_left
    · (intro w hSw; (try dsimp only at hSw); go_simp; (try with_reducible rfl))
    try simp only [Act.put, sb, s0, sz]
    refine takeW 4 ⟨some 59, .fieldAddr 28 (.tmp 3) 2, 0, "fold.go:57", #[], none⟩ ?_ (.inl ⟨by rfl, ?_⟩) hS ?_
    rotate_left
    · (intro w hSw; (try dsimp only at hSw); go_simp; (try with_reducible rfl))
    try simp only [Act.put, sb, s0, sz]
    refine takeW 5 ⟨some 60, .load 26 (.tmp 59), 26, "fold.go:57", #[⟨4, .data⟩], none⟩ ?_ (.inl ⟨by rfl, ?_⟩) hS ?_
    rotate_left
    · (intro w hSw; (try dsimp only at hSw); go_simp; (try with_reducible rfl))
    try simp only [Act.put, sb, s0, sz]
    refine takeW 6 ⟨some 61, .move (.tmp 8), 3, "fold.go:57", #[], none⟩ ?_ (.inl ⟨by rfl, ?_⟩) hS ?_
    rotate_left
    · (intro w hSw; (try dsimp only at hSw); go_simp; (try with_reducible rfl))
    try simp only [Act.put, sb, s0, sz]
    refine takeW 7 ⟨some 62, .slice 26 (.tmp 60) (some (.tmp 61)) none none, 26, "fold.go:57", #[⟨5, .data⟩, ⟨6, .data⟩], none⟩ ?_ (.inl ⟨by rfl, ?_⟩) hS ?_
    rotate_left
    · (intro w hSw; (try dsimp only at hSw); go_simp; (try with_reducible rfl))
    try simp only [Act.put, sb, s0, sz]
    refine wpAnyH_ready (rs := [8]) (by kernel_rfl) (by simp) ?_
    refine (AllReadyH.cons (o := { dst := some 63, op := Go.Op.call { callee := Go.Callee.builtin Go.Builtin.copy, args := #[Go.Operand.tmp 58, Go.Operand.tmp 62], argTypes := #[26, 26] }, type := 3, pos := "fold.go:57", after := #[{ on := 3, ground := Go.Ground.data }, { on := 7, ground := Go.Ground.data }], guard := none }) rfl (fun K hK => ?_) AllReadyH.nil)
    (refine step_copyK (size := 4) (j := p + 1) (dLen := ks.length - p) (dCap := ks.length - p) hE.drew 0 rfl rfl (by rfl) (by rfl) (by rfl) Tryd.underlying26 sz_kid (m := ks.length - p) (ys := (kCs ks vs).drop (p * 4)) (reads_behind (Hkn.out _ (hE.drew.suf (by repeat (first | exact List.suffix_refl _ | refine List.IsSuffix.trans ?_ (List.suffix_cons _ _))))) Hlen.out HpN.out.2.1 HpN.out.1) (by rw [List.length_drop, Hlen.out, Nat.sub_mul]) (fun u hu => Hone.out u (List.mem_of_mem_drop hu)) (by have := HpN.out; omega) (by have := HpN.out; omega) ?_; intro w6 hE6; simp only [List.set_cons_zero] at hE6)
    refine hK.out _ _ (atVm hE6 (by repeat (first | exact List.Mem.head _ | refine List.Mem.tail _ ?_)) (by simp [go_sem]) rfl) (fun hS => ?_)
    clear hK K
    try simp only [Act.put, sb, s0, sz]
    refine wpAnyH_done (by kernel_rfl) ?_ _
    clear hE hS hs2 hs4
    have hE := hE6
    clear hE6
    go_wp2_with (first | go_skip)
    refine wp_region_held_drew (S := (fun w' => ((Instr.loadAt 9 (.pointer (some ⟨bn, on, none⟩))).run Tryd.prog w' = .ok (.string ⟨n.toArray⟩) w') ∧ ((Instr.loadAt 28 (.pointer (some ⟨b5, 0, none⟩))).run Tryd.prog w' = .ok (.agg #[.bool xd, .string ⟨xb.toArray⟩, .slice none 0 0]) w'))) (by kernel_rfl) ⟨(atCell (hNm.out _ (hE.drew.suf (by repeat (first | exact List.suffix_refl _ | refine List.IsSuffix.trans ?_ (List.suffix_cons _ _))))) (by simp [go_sem])), (atWm (vs := [.bool xd, .string ⟨xb.toArray⟩, .slice none 0 0]) hE.drew (by repeat (first | exact List.Mem.head _ | refine List.Mem.tail _ ?_)) Tryd.isAgg28 Tryd.sizeOf28 rfl)⟩ (fun hS => ?_)
    refine takeW 0 ⟨some 64, .move (.tmp 12), 26, "fold.go:58", #[], none⟩ ?_ (.inl ⟨by rfl, ?_⟩) hS ?_
    rotate_left
    · (intro w hSw; (try dsimp only at hSw); go_simp; (try with_reducible rfl))
    try simp only [Act.put, sb, s0, sz]
    refine takeW 1 ⟨some 65, .move (.tmp 8), 3, "fold.go:58", #[], none⟩ ?_ (.inl ⟨by rfl, ?_⟩) hS ?_
    rotate_left
    · (intro w hSw; (try dsimp only at hSw); go_simp; (try with_reducible rfl))
    try simp only [Act.put, sb, s0, sz]
    refine takeW 2 ⟨some 66, .move (.tmp 1), 23, "fold.go:58", #[], none⟩ ?_ (.inl ⟨by rfl, ?_⟩) hS ?_
    rotate_left
    · (intro w hSw; (try dsimp only at hSw); go_simp; (try with_reducible rfl))
    try simp only [Act.put, sb, s0, sz]
    refine takeW 3 ⟨some 67, .indexAddr 23 (.tmp 66) (.const (.int .i64 0)), 0, "fold.go:58", #[⟨2, .data⟩], none⟩ ?_ (.inl ⟨by rfl, ?_⟩) hS ?_
    rotate_left
    · (intro w hSw; (try dsimp only at hSw); go_simp; (try with_reducible rfl))
    try simp only [Act.put, sb, s0, sz]
    refine takeW 4 ⟨some 68, .load 9 (.tmp 67), 9, "fold.go:58", #[⟨3, .data⟩], none⟩ ?_ (.inl ⟨by rfl, ?_⟩) hS ?_
    rotate_left
    · (intro w hSw; (try dsimp only at hSw); go_simp; (try with_reducible rfl))
    try simp only [Act.put, sb, s0, sz]
    refine takeW 5 ⟨some 69, .load 28 (.tmp 5), 28, "fold.go:58", #[], none⟩ ?_ (.inl ⟨by rfl, ?_⟩) hS ?_
    rotate_left
    · (intro w hSw; (try dsimp only at hSw); go_simp; (try with_reducible rfl))
    try simp only [Act.put, sb, s0, sz]
    refine takeW 6 ⟨some 70, .build 51 #[(0, .tmp 68), (1, .tmp 69)], 51, "fold.go:58", #[⟨4, .data⟩, ⟨5, .data⟩], none⟩ ?_ (.inl ⟨by rfl, ?_⟩) hS ?_
    rotate_left
    · (intro w hSw; (try dsimp only at hSw); go_simp; (try with_reducible rfl))
    try simp only [Act.put, sb, s0, sz]
    refine takeW 7 ⟨some 71, .indexAddr 26 (.tmp 64) (.tmp 65), 0, "fold.go:58", #[⟨0, .data⟩, ⟨1, .data⟩, ⟨0, .phase⟩, ⟨1, .phase⟩, ⟨2, .phase⟩, ⟨3, .phase⟩, ⟨4, .phase⟩, ⟨5, .phase⟩, ⟨6, .phase⟩], none⟩ ?_ (.inl ⟨by rfl, ?_⟩) hS ?_
    rotate_left
    · (intro w hSw; (try dsimp only at hSw); go_simp; (try with_reducible rfl))
    try simp only [Act.put, sb, s0, sz]
    refine wpAnyH_ready (rs := [8]) (by kernel_rfl) (by simp) ?_
    refine (AllReadyH.cons (o := { dst := none, op := Go.Op.store 51 (Go.Operand.tmp 71) (Go.Operand.tmp 70), type := 0, pos := "fold.go:58", after := #[{ on := 7, ground := Go.Ground.data }, { on := 6, ground := Go.Ground.data }, { on := 0, ground := Go.Ground.phase }, { on := 1, ground := Go.Ground.phase }, { on := 2, ground := Go.Ground.phase }, { on := 3, ground := Go.Ground.phase }, { on := 4, ground := Go.Ground.phase }, { on := 5, ground := Go.Ground.phase }, { on := 6, ground := Go.Ground.phase }], guard := none }) rfl (fun K hK => ?_) AllReadyH.nil)
    (refine step_storeRow hE.drew 0 (kC (n, .leafOf xd xb) (.slice none 0 0)) rfl rfl (by rfl) (by rfl) (by rfl) Tryd.sizeOf51 rfl (by simp [kC, Value.oneCell']) (off := p * 4) (by have := HpN.out; omega) ?_; intro w7 hE7; simp only [List.set_cons_zero] at hE7)
    refine hK.out _ _ ⟨(atCell (hNm.out _ (hE7.suf (by repeat (first | exact List.suffix_refl _ | refine List.IsSuffix.trans ?_ (List.suffix_cons _ _))))) (by simp [go_sem])), (atWm (vs := [.bool xd, .string ⟨xb.toArray⟩, .slice none 0 0]) hE7 (by repeat (first | exact List.Mem.head _ | refine List.Mem.tail _ ?_)) Tryd.isAgg28 Tryd.sizeOf28 rfl)⟩ (fun hS => ?_)
    clear hK K
    try simp only [Act.put, sb, s0, sz]
    refine wpAnyH_done (by kernel_rfl) ?_ _
    clear hE hS
    have hE := hE7
    clear hE7
    have hZ := Hins.out (List.replicate (ks.length + 1) zkid).flatten (zkids_len _)
    rw [hZ] at hE
    cases c1 : decide ((6 : Int) < (ks.length : Int) + 1) <;> cases c2 : decide ((8192 : Int) < (xb.length : Int))
    all_goals rw [c1, c2] at Hc1
    rotate_left
    all_goals try (
      rw [if_pos (Hc1.out.2 (by rfl))] at HT
      go_wp2_with (first
        | go_skip
        | ((with_reducible (show Go.wpList _ _ _ (Go.Oper.mk _ (.load _ _) _ _ _ _ :: _) _ _)); (first | (refine wpl_load1 hE 0 rfl rfl rfl rfl (by simp [go_sem]) rfl ?_) | (refine wpl_load1 hE 1 rfl rfl rfl rfl (by simp [go_sem]) rfl ?_) | (refine wpl_load1 hE 2 rfl rfl rfl rfl (by simp [go_sem]) rfl ?_) | (refine wpl_load1 hE 3 rfl rfl rfl rfl (by simp [go_sem]) rfl ?_) | (refine wpl_load1 hE 4 rfl rfl rfl rfl (by simp [go_sem]) rfl ?_) | (refine wpl_load1 hE 5 rfl rfl rfl rfl (by simp [go_sem]) rfl ?_) | (refine wpl_load1 hE 6 rfl rfl rfl rfl (by simp [go_sem]) rfl ?_) | (refine wpl_load1 hE 7 rfl rfl rfl rfl (by simp [go_sem]) rfl ?_)))
        | ((with_reducible (show Go.wpList _ _ _ (Go.Oper.mk _ (.store 28 _ _) _ _ _ _ :: _) _ _)); refine wpl_storeW hE 1 rfl rfl rfl (xs := [.bool false, .string ⟨#[]⟩, .slice none 0 0]) rfl rfl Tryd.sizeOf28 rfl (by simp [Value.oneCell']) rfl ?_; clear hE; intro w8 hE; simp only [List.set_cons_zero, List.set_cons_succ] at hE))
      refine bodyPost_ret (results_cell2 rfl hE 1 rfl rfl Tryd.isAgg28 Tryd.sizeOf28 rfl rfl) rfl ?_
      rw [HT.out]
      exact ⟨_, rfl, [], .slice none 0 0, rfl, hE.tail.tail.tail.tail, KidsAt.nil _⟩)
    rw [if_neg (fun h => absurd (Hc1.out.1 h) (by decide))] at HT
    go_wp2_with (first
      | go_skip
      | ((with_reducible (show Go.wpList _ _ _ (Go.Oper.mk _ (.load _ _) _ _ _ _ :: _) _ _)); (first | (refine wpl_load1 hE 0 rfl rfl rfl rfl (by simp [go_sem]) rfl ?_) | (refine wpl_load1 hE 1 rfl rfl rfl rfl (by simp [go_sem]) rfl ?_) | (refine wpl_load1 hE 2 rfl rfl rfl rfl (by simp [go_sem]) rfl ?_) | (refine wpl_load1 hE 3 rfl rfl rfl rfl (by simp [go_sem]) rfl ?_) | (refine wpl_load1 hE 4 rfl rfl rfl rfl (by simp [go_sem]) rfl ?_) | (refine wpl_load1 hE 5 rfl rfl rfl rfl (by simp [go_sem]) rfl ?_) | (refine wpl_load1 hE 6 rfl rfl rfl rfl (by simp [go_sem]) rfl ?_) | (refine wpl_load1 hE 7 rfl rfl rfl rfl (by simp [go_sem]) rfl ?_)))
      | ((with_reducible (show Go.wpList _ _ _ (Go.Oper.mk _ (.store 28 _ _) _ _ _ _ :: _) _ _)); refine wpl_storeW hE 1 rfl rfl rfl (xs := [.bool true, .string ⟨#[]⟩, .slice (some ⟨g, 0, none⟩) (ks.length + 1) (ks.length + 1)]) rfl rfl Tryd.sizeOf28 rfl (by simp [Value.oneCell']) rfl ?_; clear hE; intro w8 hE; simp only [List.set_cons_zero, List.set_cons_succ] at hE))
    refine bodyPost_ret (results_cell2 rfl hE 1 rfl rfl Tryd.isAgg28 Tryd.sizeOf28 rfl rfl) rfl ?_
    rw [HT.out]
    refine ⟨_, rfl, [row 51 4 (.slice (some ⟨g, 0, none⟩) (ks.length + 1) (ks.length + 1)) (ks.length + 1) (kCs (Tr.insAt p (n, Tr.leafOf xd xb) ks) (Tr.insAt p (.slice none 0 0) vs))], .slice (some ⟨g, 0, none⟩) (ks.length + 1) (ks.length + 1), rfl, Ent.keepNew (((hE.erase 1).erase 1).erase 1), ?_⟩
    have e : (Tr.insAt p (n, Tr.leafOf xd xb) ks).length = ks.length + 1 := Hil.out
    have hE9 : ∀ w, Ent ([row 51 4 (.slice (some ⟨g, 0, none⟩) (ks.length + 1) (ks.length + 1)) (ks.length + 1) (kCs (Tr.insAt p (n, Tr.leafOf xd xb) ks) (Tr.insAt p (.slice none 0 0) vs))] ++ lb) w → reads (.slice (some ⟨g, 0, none⟩) (ks.length + 1) (ks.length + 1)) (ks.length + 1) (kCs (Tr.insAt p (n, Tr.leafOf xd xb) ks) (Tr.insAt p (.slice none 0 0) vs)) w := fun w h => reads_row h 0 rfl
    show KidsAt _ _ (Tr.insAt p (n, Tr.leafOf xd xb) ks)
    have h := KidsAt.mk (l := [row 51 4 (.slice (some ⟨g, 0, none⟩) (ks.length + 1) (ks.length + 1)) (ks.length + 1) (kCs (Tr.insAt p (n, Tr.leafOf xd xb) ks) (Tr.insAt p (.slice none 0 0) vs))] ++ lb) (some ⟨g, 0, none⟩) (ks.length + 1) (Tr.insAt p (n, Tr.leafOf xd xb) ks) (Tr.insAt p (.slice none 0 0) vs) (by omega) (by rw [Hvl.out, e, Hl.out]) (by rw [e]; exact hE9) (fun i h h' => (Hkk.out i h h').suf (List.suffix_append _ _))
    rwa [e] at h

/-- the contract of with at names and a node -/
def WithC (q : List (List UInt8)) (xd : Bool) (xb : List UInt8) : Prop :=
  ∀ (t : Tr) (dp : Nat), Tr.Wf dp t → ∀ (kv : Value) (pre lb : List HProp) (an : Option Addr) (cn : Nat) (w : World), KidsAt lb kv t.kids → q.length ≤ cn → Knows (pre ++ lb) (reads (.slice an q.length cn) q.length (q.map strv)) → Ent (pre ++ lb) w →
    Calls Tryd.prog 29 #[nodeV t kv, .slice an q.length cn, .agg #[.bool xd, .string ⟨xb.toArray⟩, .slice none 0 0]] w
      (Ret fun v w' => ∃ m kv', v = .tuple #[nodeV (Tr.withT q xd xb t).2 kv', .int .i64 (Tr.withT q xd xb t).1] ∧ Ent (pre ++ (m ++ lb)) w' ∧ KidsAt (m ++ lb) kv' (Tr.withT q xd xb t).2.kids)

set_option maxRecDepth 100000 in
set_option maxHeartbeats 8000000 in
attribute [-go_sem] Instr.loadAt in
theorem with_more {dt : List UInt8} {ks : List (List UInt8 × Tr)} {dp : Nat} (hw : Tr.Wf dp (.nd true dt ks)) {kv : Value} {pre lb : List HProp} (hkv : KidsAt lb kv ks) (hr : Rising (ks.map Prod.fst)) (h6 : ks.length ≤ 6) {n : List UInt8} {q : List (List UInt8)} (hq : q ≠ []) (hql : q.length ≤ 1000) {an : Option Addr} {cn : Nat} (hcn : (n :: q).length ≤ cn) {xd : Bool} {xb : List UInt8}
    (IH : WithC q xd xb) (hn : Knows (pre ++ lb) (reads (.slice an (n :: q).length cn) (n :: q).length ((n :: q).map strv))) {w : World} (hE : Ent (pre ++ lb) w) :
    Calls Tryd.prog 29 #[.agg #[.bool true, .string ⟨dt.toArray⟩, kv], .slice an (n :: q).length cn, .agg #[.bool xd, .string ⟨xb.toArray⟩, .slice none 0 0]] w
      (Ret fun v w' => ∃ m kv', v = .tuple #[nodeV (Tr.withT (n :: q) xd xb (.nd true dt ks)).2 kv', .int .i64 (Tr.withT (n :: q) xd xb (.nd true dt ks)).1] ∧ Ent (pre ++ (m ++ lb)) w' ∧ KidsAt (m ++ lb) kv' (Tr.withT (n :: q) xd xb (.nd true dt ks)).2.kids) := by
  have hT := withT_dir (n := n) hq xd xb dt ks
  have hp := (find_at hr n).2.1
  rw [List.length_map] at hp
  have hplace : isIn (ks.map Prod.fst) n = true → ∃ x : Tr, ks[placeOf (ks.map Prod.fst) n]? = some (n, x) := fun h => by
    obtain ⟨hi, e, _⟩ := Tr.kid_place (t := .nd true dt ks) hr h
    exact ⟨_, (List.getElem?_eq_getElem hi).trans (congrArg some (Prod.ext e rfl))⟩
  obtain ⟨ao, c, vs, rfl, hc, hl, hkn, hks, hone⟩ := hkv.open
  obtain ⟨bn, on, rfl, hz⟩ := reads_form (hn _ hE) (by simp) (by simp)
  clear hz
  have hNm := SL.hid (show ∀ W, Ent (pre ++ lb) W → W.cell? ⟨bn, on, none⟩ = some (.string ⟨n.toArray⟩) from fun W hW => by
    obtain ⟨b', o', e, h⟩ := reads_form (hn _ hW) (by simp) (by simp)
    cases e
    exact h 0 _ rfl)
  have hF := SL.hid (show ∀ (L : List HProp), (pre ++ lb) <:+ L → ∀ w, Ent L w → Calls Tryd.prog 34 #[.slice ao ks.length c, .string ⟨n.toArray⟩, .func (.func 35) #[] #[]] w
      (Ret fun r w' => r = .tuple #[.int .i64 (placeOf (ks.map Prod.fst) n), .bool (isIn (ks.map Prod.fst) n)] ∧ Ent L w') from fun L hL w hw => find_any (hkv.suf ((List.suffix_append pre lb).trans hL)) hr (by omega) n hw)
  have Hkn := SL.hid (show Knows (pre ++ lb) (reads (.slice ao ks.length c) ks.length (kCs ks vs)) from hkn.append)
  have Hlen := SL.hid (kCs_len hl)
  have Hone := SL.hid hone
  have Hl := SL.hid hl
  have hq0 : 0 < q.length := by cases q with | nil => exact absurd rfl hq | cons a b => simp
  have hL0 : (((n :: q).length : Int) == 0) = false := by rw [beq_eq_false_iff_ne]; simp; omega
  have hL1 : (((n :: q).length : Int) == 1) = false := by rw [beq_eq_false_iff_ne]; simp; omega
  have hs4 : ∀ w, (Instr.sliceAt 23 (.slice (some ⟨bn, on, none⟩) (n :: q).length cn) (some (.int .i64 1)) none none).run Tryd.prog w = .ok (.slice (cutAt 1 (some ⟨bn, on, none⟩) cn 1) q.length (cn - 1)) w := fun w => by
    rw [sliceAt_slice Tryd.underlying23]
    exact run_cut_lo Tryd.underlying23 Tryd.sizeOf9 _ (n :: q).length cn .i64 1 (by simp)
  have Hn2 := SL.hid (show Knows (pre ++ lb) (reads (.slice (cutAt 1 (some ⟨bn, on, none⟩) cn 1) q.length (cn - 1)) q.length (q.map strv)) from fun w hw => by
    have h := reads_behind (size := 1) (hn w hw) (by simp) hcn (k := 1) (by simp)
    simpa using h)
  have hix : 0 < (n :: q).length := by simp
  have Hcn := SL.hid (show q.length ≤ cn - 1 by simp at hcn; omega)
  clear hn hkv hr hkn hone hcn
  generalize placeOf (ks.map Prod.fst) n = p at *
  generalize isIn (ks.map Prod.fst) n = is at *
  generalize (n :: q).length = L at *
  cases is with
  | false =>
    have HT := SL.hid (hT.trans (if_neg (by simp)))
    clear hT hplace
    rw [HT.out]
    as_aux_lemma =>
    go_enter Tryd.func29, Tryd.ntmps29
    go_wp2_with (first
      | go_skip
      | ((with_reducible (show Go.wpList _ _ _ (Go.Oper.mk _ (.box _ (.tmp 0)) _ _ _ _ :: _) _ _)); ((with_reducible (show Go.wpList _ _ _ (Go.Oper.mk _ (.box _ _) _ _ _ _ :: _) _ _)); refine wpl_box hE rfl rfl rfl ?_; clear hE; intro b3 w hE; simp only [Act.eval, Act.put, List.setIfInBounds_toArray, List.set_cons_zero, List.set_cons_succ, getD_lit, List.getD_cons_succ, List.getD_cons_zero, Value.cells] at hE))
      | ((with_reducible (show Go.wpList _ _ _ (Go.Oper.mk _ (.box _ (.tmp 2)) _ _ _ _ :: _) _ _)); ((with_reducible (show Go.wpList _ _ _ (Go.Oper.mk _ (.box _ _) _ _ _ _ :: _) _ _)); refine wpl_box hE rfl rfl rfl ?_; clear hE; intro b5 w hE; simp only [Act.eval, Act.put, List.setIfInBounds_toArray, List.set_cons_zero, List.set_cons_succ, getD_lit, List.getD_cons_succ, List.getD_cons_zero, Value.cells] at hE))
      | ((with_reducible (show Go.wpList _ _ _ (Go.Oper.mk _ (.alloc _) _ _ _ _ :: _) _ _)); refine wpl_alloc hE rfl rfl (by simp [go_sem]; rfl) ?_; clear hE; intro b6 w hE; simp only [Act.eval, Act.put, List.setIfInBounds_toArray, List.set_cons_zero, List.set_cons_succ, getD_lit, List.getD_cons_succ, List.getD_cons_zero, Value.cells] at hE)
      | ((with_reducible (show Go.wpList _ _ _ (Go.Oper.mk _ (.load _ _) _ _ _ _ :: _) _ _)); (first | (refine wpl_load1 hE 0 rfl rfl rfl rfl (by simp [go_sem]) rfl ?_) | (refine wpl_load1 hE 1 rfl rfl rfl rfl (by simp [go_sem]) rfl ?_) | (refine wpl_load1 hE 2 rfl rfl rfl rfl (by simp [go_sem]) rfl ?_) | (refine wpl_load1 hE 3 rfl rfl rfl rfl (by simp [go_sem]) rfl ?_) | (refine wpl_load1 hE 4 rfl rfl rfl rfl (by simp [go_sem]) rfl ?_) | (refine wpl_load1 hE 5 rfl rfl rfl rfl (by simp [go_sem]) rfl ?_) | (refine wpl_load1 hE 6 rfl rfl rfl rfl (by simp [go_sem]) rfl ?_) | (refine wpl_load1 hE 7 rfl rfl rfl rfl (by simp [go_sem]) rfl ?_))))
    refine wp_region_held_drew (S := (fun w' => ((Instr.loadAt 26 (.pointer (some ⟨b3, 2, none⟩))).run Tryd.prog w' = .ok (.slice ao ks.length c) w') ∧ ((Instr.loadAt 9 (.pointer (some ⟨bn, on, none⟩))).run Tryd.prog w' = .ok (.string ⟨n.toArray⟩) w'))) (by kernel_rfl) ⟨(atVm hE.drew (by repeat (first | exact List.Mem.head _ | refine List.Mem.tail _ ?_)) (by simp [go_sem]) rfl), (atCell (hNm.out _ (hE.drew.suf (by repeat (first | exact List.suffix_refl _ | refine List.IsSuffix.trans ?_ (List.suffix_cons _ _))))) (by simp [go_sem]))⟩ (fun hS => ?_)
    refine takeW 0 ⟨some 25, .fieldAddr 28 (.tmp 3) 2, 0, "fold.go:45", #[], none⟩ ?_ (.inl ⟨by rfl, ?_⟩) hS ?_
    rotate_left
    · (intro w hSw; (try dsimp only at hSw); go_simp; (try with_reducible rfl))
    try simp only [Act.put, sb, s0, sz]
    refine takeW 1 ⟨some 26, .load 26 (.tmp 25), 26, "fold.go:45", #[⟨0, .data⟩], none⟩ ?_ (.inl ⟨by rfl, ?_⟩) hS ?_
    rotate_left
    · (intro w hSw; (try dsimp only at hSw); go_simp; (try with_reducible rfl))
    try simp only [Act.put, sb, s0, sz]
    refine takeW 2 ⟨some 27, .move (.tmp 1), 23, "fold.go:45", #[], none⟩ ?_ (.inl ⟨by rfl, ?_⟩) hS ?_
    rotate_left
    · (intro w hSw; (try dsimp only at hSw); go_simp; (try with_reducible rfl))
    try simp only [Act.put, sb, s0, sz]
    refine takeW 3 ⟨some 28, .indexAddr 23 (.tmp 27) (.const (.int .i64 0)), 0, "fold.go:45", #[⟨2, .data⟩], none⟩ ?_ (.inl ⟨by rfl, ?_⟩) hS ?_
    rotate_left
    · (intro w hSw; (try dsimp only at hSw); go_simp; (try with_reducible rfl))
    try simp only [Act.put, sb, s0, sz]
    refine takeW 4 ⟨some 29, .load 9 (.tmp 28), 9, "fold.go:45", #[⟨3, .data⟩], none⟩ ?_ (.inl ⟨by rfl, ?_⟩) hS ?_
    rotate_left
    · (intro w hSw; (try dsimp only at hSw); go_simp; (try with_reducible rfl))
    try simp only [Act.put, sb, s0, sz]
    refine wpAnyH_ready (rs := [5]) (by kernel_rfl) (by simp) ?_
    refine (AllReadyH.cons (o := { dst := some 30, op := Go.Op.call { callee := Go.Callee.value (Go.Operand.func 34), args := #[Go.Operand.tmp 26, Go.Operand.tmp 29, Go.Operand.func 35], argTypes := #[26, 9, 71] }, type := 69, pos := "fold.go:45", after := #[{ on := 1, ground := Go.Ground.data }, { on := 4, ground := Go.Ground.data }], guard := none }) rfl (fun K hK => ?_) AllReadyH.nil)
    (go_simp; refine (hF.out _ (by repeat (first | exact List.suffix_refl _ | refine List.IsSuffix.trans ?_ (List.suffix_cons _ _))) _ hE.drew).mono ?_; rintro e w3 ⟨v, rfl, rfl, hE3⟩)
    refine hK.out _ _ ⟨(atVm hE3 (by repeat (first | exact List.Mem.head _ | refine List.Mem.tail _ ?_)) (by simp [go_sem]) rfl), (atCell (hNm.out _ (hE3.suf (by repeat (first | exact List.suffix_refl _ | refine List.IsSuffix.trans ?_ (List.suffix_cons _ _))))) (by simp [go_sem]))⟩ (fun hS => ?_)
    clear hK K
    try simp only [Act.put, sb, s0, sz]
    refine takeW 6 ⟨some 24, .move (.tmp 30), 69, "fold.go:45", #[⟨5, .data⟩], none⟩ ?_ (.inl ⟨by rfl, ?_⟩) hS ?_
    rotate_left
    · (intro w hSw; (try dsimp only at hSw); go_simp; (try with_reducible rfl))
    try simp only [Act.put, sb, s0, sz]
    refine takeW 7 ⟨some 31, .extract (.tmp 24) 0, 3, "fold.go:45", #[⟨6, .data⟩], none⟩ ?_ (.inl ⟨by rfl, ?_⟩) hS ?_
    rotate_left
    · (intro w hSw; (try dsimp only at hSw); go_simp; (try with_reducible rfl))
    try simp only [Act.put, sb, s0, sz]
    refine takeW 8 ⟨some 32, .extract (.tmp 24) 1, 4, "fold.go:45", #[⟨6, .data⟩, { on := 9, ground := Go.Ground.gcOnly Go.Departure.lateStores }], none⟩ ?_ (.inl ⟨by rfl, ?_⟩) hS ?_
    rotate_left
    · (intro w hSw; (try dsimp only at hSw); go_simp; (try with_reducible rfl))
    try simp only [Act.put, sb, s0, sz]
    refine takeW 9 ⟨some 8, .assign (.tmp 31), 3, "fold.go:45", #[⟨7, .data⟩, ⟨5, .chain⟩, ⟨0, .phase⟩, ⟨1, .phase⟩, ⟨2, .phase⟩, ⟨3, .phase⟩, ⟨4, .phase⟩, ⟨5, .phase⟩, ⟨6, .phase⟩, ⟨7, .phase⟩, { on := 8, ground := Go.Ground.textOnly Go.Departure.lateStores }], none⟩ ?_ (.inl ⟨by rfl, ?_⟩) hS ?_
    rotate_left
    · (intro w hSw; (try dsimp only at hSw); go_simp; (try with_reducible rfl))
    try simp only [Act.put, sb, s0, sz]
    refine takeW 10 ⟨some 9, .assign (.tmp 32), 4, "fold.go:45", #[⟨8, .data⟩, ⟨9, .chain⟩, ⟨0, .phase⟩, ⟨1, .phase⟩, ⟨2, .phase⟩, ⟨3, .phase⟩, ⟨4, .phase⟩, ⟨5, .phase⟩, ⟨6, .phase⟩, ⟨7, .phase⟩, ⟨8, .phase⟩, ⟨9, .phase⟩], none⟩ ?_ (.inl ⟨by rfl, ?_⟩) hS ?_
    rotate_left
    · (intro w hSw; (try dsimp only at hSw); go_simp; (try with_reducible rfl))
    try simp only [Act.put, sb, s0, sz]
    refine wpAnyH_done (by kernel_rfl) ?_ _
    clear hE hS
    have hE := hE3
    clear hE3
    go_wp2_with (first
      | go_skip
      | ((with_reducible (show Go.wpList _ _ _ (Go.Oper.mk _ (.load _ _) _ _ _ _ :: _) _ _)); (first | (refine wpl_load1 hE 0 rfl rfl rfl rfl (by simp [go_sem]) rfl ?_) | (refine wpl_load1 hE 1 rfl rfl rfl rfl (by simp [go_sem]) rfl ?_) | (refine wpl_load1 hE 2 rfl rfl rfl rfl (by simp [go_sem]) rfl ?_) | (refine wpl_load1 hE 3 rfl rfl rfl rfl (by simp [go_sem]) rfl ?_) | (refine wpl_load1 hE 4 rfl rfl rfl rfl (by simp [go_sem]) rfl ?_) | (refine wpl_load1 hE 5 rfl rfl rfl rfl (by simp [go_sem]) rfl ?_) | (refine wpl_load1 hE 6 rfl rfl rfl rfl (by simp [go_sem]) rfl ?_) | (refine wpl_load1 hE 7 rfl rfl rfl rfl (by simp [go_sem]) rfl ?_)))
      | ((with_reducible (show Go.wpList _ _ _ (Go.Oper.mk _ (.store 28 _ _) _ _ _ _ :: _) _ _)); (first | (refine wpl_storeW hE 0 rfl rfl rfl (xs := [.bool false, .string ⟨#[]⟩, .slice none 0 0]) rfl rfl Tryd.sizeOf28 rfl (by simp [Value.oneCell']) rfl ?_) | (refine wpl_storeW hE 1 rfl rfl rfl (xs := [.bool false, .string ⟨#[]⟩, .slice none 0 0]) rfl rfl Tryd.sizeOf28 rfl (by simp [Value.oneCell']) rfl ?_) | (refine wpl_storeW hE 2 rfl rfl rfl (xs := [.bool false, .string ⟨#[]⟩, .slice none 0 0]) rfl rfl Tryd.sizeOf28 rfl (by simp [Value.oneCell']) rfl ?_) | (refine wpl_storeW hE 3 rfl rfl rfl (xs := [.bool false, .string ⟨#[]⟩, .slice none 0 0]) rfl rfl Tryd.sizeOf28 rfl (by simp [Value.oneCell']) rfl ?_) | (refine wpl_storeW hE 4 rfl rfl rfl (xs := [.bool false, .string ⟨#[]⟩, .slice none 0 0]) rfl rfl Tryd.sizeOf28 rfl (by simp [Value.oneCell']) rfl ?_) | (refine wpl_storeW hE 5 rfl rfl rfl (xs := [.bool false, .string ⟨#[]⟩, .slice none 0 0]) rfl rfl Tryd.sizeOf28 rfl (by simp [Value.oneCell']) rfl ?_) | (refine wpl_storeW hE 6 rfl rfl rfl (xs := [.bool false, .string ⟨#[]⟩, .slice none 0 0]) rfl rfl Tryd.sizeOf28 rfl (by simp [Value.oneCell']) rfl ?_) | (refine wpl_storeW hE 7 rfl rfl rfl (xs := [.bool false, .string ⟨#[]⟩, .slice none 0 0]) rfl rfl Tryd.sizeOf28 rfl (by simp [Value.oneCell']) rfl ?_)); clear hE; intro w hE; simp only [List.set_cons_zero, List.set_cons_succ] at hE))
    refine bodyPost_ret (results_cell2 rfl hE 0 rfl rfl Tryd.isAgg28 Tryd.sizeOf28 rfl rfl) rfl ?_
    exact ⟨_, rfl, [], .slice none 0 0, rfl, hE.tail.tail.tail, KidsAt.nil _⟩
  | true =>
    obtain ⟨x0, hx0⟩ := hplace rfl
    obtain ⟨hpk, hpe⟩ := List.getElem?_eq_some_iff.1 hx0
    have hpn : ks[p].1 = n := by rw [hpe]
    clear hx0 hpe
    have hg : ks.getD p ([], Tr.zero) = ks[p] := by rw [List.getD_eq_getElem?_getD, List.getElem?_eq_getElem hpk]; rfl
    rw [if_pos rfl, hg] at hT
    obtain ⟨dp', rfl, hwk⟩ := Tr.wf_kid hw (List.getElem_mem hpk)
    have HK := SL.hid (show ∀ (A B C D : HProp) (w : World), Ent (A :: B :: C :: D :: (pre ++ lb)) w → Calls Tryd.prog 29 #[nodeV ks[p].2 (vs[p]'(by omega)), .slice (cutAt 1 (some ⟨bn, on, none⟩) cn 1) q.length (cn - 1), .agg #[.bool xd, .string ⟨xb.toArray⟩, .slice none 0 0]] w
      (Ret fun v w' => ∃ m kv', v = .tuple #[nodeV (Tr.withT q xd xb ks[p].2).2 kv', .int .i64 (Tr.withT q xd xb ks[p].2).1] ∧ Ent (A :: B :: C :: D :: (pre ++ (m ++ lb))) w' ∧ KidsAt (m ++ lb) kv' (Tr.withT q xd xb ks[p].2).2.kids) from
      fun A B C D w h => IH ks[p].2 dp' hwk _ (A :: B :: C :: D :: pre) lb _ _ w (hks p hpk (by omega)) Hcn.out (fun w hw => Hn2.out _ (hw.suf (by exact (List.suffix_append [A, B, C, D] (pre ++ lb))))) h)
    have HK5 := SL.hid (show ∀ (A B C D E : HProp) (w : World), Ent (A :: B :: C :: D :: E :: (pre ++ lb)) w → Calls Tryd.prog 29 #[nodeV ks[p].2 (vs[p]'(by omega)), .slice (cutAt 1 (some ⟨bn, on, none⟩) cn 1) q.length (cn - 1), .agg #[.bool xd, .string ⟨xb.toArray⟩, .slice none 0 0]] w
      (Ret fun v w' => ∃ m kv', v = .tuple #[nodeV (Tr.withT q xd xb ks[p].2).2 kv', .int .i64 (Tr.withT q xd xb ks[p].2).1] ∧ Ent (A :: B :: C :: D :: E :: (pre ++ (m ++ lb))) w' ∧ KidsAt (m ++ lb) kv' (Tr.withT q xd xb ks[p].2).2.kids) from
      fun A B C D E w h => IH ks[p].2 dp' hwk _ (A :: B :: C :: D :: E :: pre) lb _ _ w (hks p hpk (by omega)) Hcn.out (fun w hw => Hn2.out _ (hw.suf (by exact (List.suffix_append [A, B, C, D, E] (pre ++ lb))))) h)
    have hLd := SL.hid (show ∀ (W : World), Ent (pre ++ lb) W → ∀ j v, [Value.bool ks[p].2.dir, .string ⟨ks[p].2.data.toArray⟩, vs[p]'(by omega)][j]? = some v → ∃ b off, ao = some ⟨b, off, none⟩ ∧ W.cell? ⟨b, off + p * 4 + 1 + j, none⟩ = some v from fun W hW j v hv => by
      obtain ⟨b, off, e, h⟩ := kids_at hl (Hkn.out W hW) hpk
      exact ⟨b, off, e, by have := h (1 + j) v (by rw [kC, Nat.add_comm 1 j]; simpa using hv); rwa [← Nat.add_assoc] at this⟩)
    obtain ⟨bk, ok, hao, hz⟩ := kids_at hl (Hkn.out _ hE) hpk
    clear hz
    subst hao
    have hLe := SL.hid (show ∀ (W : World), Ent (pre ++ lb) W → ∀ j v, [Value.bool ks[p].2.dir, .string ⟨ks[p].2.data.toArray⟩, vs[p]'(by omega)][j]? = some v → W.cell? ((⟨bk, ok + p * 4 + 1, none⟩ : Addr).add j) = some v from fun W hW j v hv => by
      obtain ⟨b, off, e, h⟩ := hLd.out W hW j v hv
      cases e
      rwa [Addr.add_lit])
    have Hset := SL.hid (fun (x : Tr) (v : Value) (z : List Value) (hz : z.length = ks.length * 4) => kCs_set hl hpk x v z hz)
    rw [hpn] at Hset
    have Hkk := SL.hid (show ∀ (m : List HProp) (A : HProp) (x : Tr) (v : Value), KidsAt (m ++ lb) v x.kids → ∀ (i : Nat) (h : i < (ks.set p (n, x)).length) (h' : i < (vs.set p v).length), KidsAt (A :: (m ++ lb)) (vs.set p v)[i] (ks.set p (n, x))[i].2.kids from fun m A x v hx =>
      set_kids hl hks ((List.suffix_append m lb).trans (List.suffix_cons _ _)) p (hx.suf (List.suffix_cons _ _)))
    have hs1 : ∀ w, (Instr.sliceAt 26 (.slice (some ⟨bk, ok, none⟩) ks.length c) none (some (.int .i64 p)) none).run Tryd.prog w = .ok (.slice (some ⟨bk, ok, none⟩) p c) w := fun w => by
      rw [sliceAt_slice Tryd.underlying26, run_cut_hi Tryd.underlying26 Tryd.sizeOf51 _ _ c .i64 p (by omega), cut_zero]; rfl
    have hs2 : ∀ w, (Instr.sliceAt 26 (.slice (some ⟨bk, ok, none⟩) ks.length c) (some (.int .i64 p)) none none).run Tryd.prog w = .ok (.slice (cutAt 4 (some ⟨bk, ok, none⟩) c p) (ks.length - p) (c - p)) w := fun w => by
      rw [sliceAt_slice Tryd.underlying26, run_cut_lo Tryd.underlying26 Tryd.sizeOf51 _ _ c .i64 p (by omega)]
    have hs3 : ∀ g w, (Instr.sliceAt 26 (.slice (some ⟨g, 0, none⟩) ks.length ks.length) (some (.int .i64 p)) none none).run Tryd.prog w = .ok (.slice (cutAt 4 (some ⟨g, 0, none⟩) ks.length p) (ks.length - p) (ks.length - p)) w := fun g w => by
      rw [sliceAt_slice Tryd.underlying26, run_cut_lo Tryd.underlying26 Tryd.sizeOf51 _ _ ks.length .i64 p (by omega)]
    have HpN := SL.hid (show p < ks.length ∧ ks.length ≤ c ∧ ks.length ≤ 6 from ⟨hpk, hc, h6⟩)
    have Hkl := SL.hid (show (ks.set p (n, (Tr.withT q xd xb ks[p].2).2)).length = ks.length ∧ ∀ v, (vs.set p v).length = ks.length from ⟨by simp, fun v => by simp [hl]⟩)
    simp only [nodeV] at HK HK5
    clear hw hks hc hwk hLd
    generalize hres : Tr.withT q xd xb ks[p].2 = res at *
    obtain ⟨er, kd⟩ := res
    simp only at HK HK5 hT Hkl
    clear hres
    have HT := SL.hid hT
    clear hT hplace
    generalize ks[p].2.dir = kdr at *
    generalize ks[p].2.data = kdt at *
    obtain ⟨kvp, hkvp⟩ : ∃ x, vs[p]'(by omega) = x := ⟨_, rfl⟩
    rw [hkvp] at HK HK5 hLe
    clear hkvp hl
    as_aux_lemma =>
    go_enter Tryd.func29, Tryd.ntmps29
    go_wp2_with (first
      | go_skip
      | ((with_reducible (show Go.wpList _ _ _ (Go.Oper.mk _ (.box _ (.tmp 0)) _ _ _ _ :: _) _ _)); ((with_reducible (show Go.wpList _ _ _ (Go.Oper.mk _ (.box _ _) _ _ _ _ :: _) _ _)); refine wpl_box hE rfl rfl rfl ?_; clear hE; intro b3 w hE; simp only [Act.eval, Act.put, List.setIfInBounds_toArray, List.set_cons_zero, List.set_cons_succ, getD_lit, List.getD_cons_succ, List.getD_cons_zero, Value.cells] at hE))
      | ((with_reducible (show Go.wpList _ _ _ (Go.Oper.mk _ (.box _ (.tmp 2)) _ _ _ _ :: _) _ _)); ((with_reducible (show Go.wpList _ _ _ (Go.Oper.mk _ (.box _ _) _ _ _ _ :: _) _ _)); refine wpl_box hE rfl rfl rfl ?_; clear hE; intro b5 w hE; simp only [Act.eval, Act.put, List.setIfInBounds_toArray, List.set_cons_zero, List.set_cons_succ, getD_lit, List.getD_cons_succ, List.getD_cons_zero, Value.cells] at hE))
      | ((with_reducible (show Go.wpList _ _ _ (Go.Oper.mk _ (.alloc _) _ _ _ _ :: _) _ _)); refine wpl_alloc hE rfl rfl (by simp [go_sem]; rfl) ?_; clear hE; intro b6 w hE; simp only [Act.eval, Act.put, List.setIfInBounds_toArray, List.set_cons_zero, List.set_cons_succ, getD_lit, List.getD_cons_succ, List.getD_cons_zero, Value.cells] at hE)
      | ((with_reducible (show Go.wpList _ _ _ (Go.Oper.mk _ (.load _ _) _ _ _ _ :: _) _ _)); (first | (refine wpl_load1 hE 0 rfl rfl rfl rfl (by simp [go_sem]) rfl ?_) | (refine wpl_load1 hE 1 rfl rfl rfl rfl (by simp [go_sem]) rfl ?_) | (refine wpl_load1 hE 2 rfl rfl rfl rfl (by simp [go_sem]) rfl ?_) | (refine wpl_load1 hE 3 rfl rfl rfl rfl (by simp [go_sem]) rfl ?_) | (refine wpl_load1 hE 4 rfl rfl rfl rfl (by simp [go_sem]) rfl ?_) | (refine wpl_load1 hE 5 rfl rfl rfl rfl (by simp [go_sem]) rfl ?_) | (refine wpl_load1 hE 6 rfl rfl rfl rfl (by simp [go_sem]) rfl ?_) | (refine wpl_load1 hE 7 rfl rfl rfl rfl (by simp [go_sem]) rfl ?_))))
    refine wp_region_held_drew (S := (fun w' => ((Instr.loadAt 26 (.pointer (some ⟨b3, 2, none⟩))).run Tryd.prog w' = .ok (.slice (some ⟨bk, ok, none⟩) ks.length c) w') ∧ ((Instr.loadAt 9 (.pointer (some ⟨bn, on, none⟩))).run Tryd.prog w' = .ok (.string ⟨n.toArray⟩) w'))) (by kernel_rfl) ⟨(atVm hE.drew (by repeat (first | exact List.Mem.head _ | refine List.Mem.tail _ ?_)) (by simp [go_sem]) rfl), (atCell (hNm.out _ (hE.drew.suf (by repeat (first | exact List.suffix_refl _ | refine List.IsSuffix.trans ?_ (List.suffix_cons _ _))))) (by simp [go_sem]))⟩ (fun hS => ?_)
    refine takeW 0 ⟨some 25, .fieldAddr 28 (.tmp 3) 2, 0, "fold.go:45", #[], none⟩ ?_ (.inl ⟨by rfl, ?_⟩) hS ?_
    rotate_left
    · (intro w hSw; (try dsimp only at hSw); go_simp; (try with_reducible rfl))
    try simp only [Act.put, sb, s0, sz]
    refine takeW 1 ⟨some 26, .load 26 (.tmp 25), 26, "fold.go:45", #[⟨0, .data⟩], none⟩ ?_ (.inl ⟨by rfl, ?_⟩) hS ?_
    rotate_left
    · (intro w hSw; (try dsimp only at hSw); go_simp; (try with_reducible rfl))
    try simp only [Act.put, sb, s0, sz]
    refine takeW 2 ⟨some 27, .move (.tmp 1), 23, "fold.go:45", #[], none⟩ ?_ (.inl ⟨by rfl, ?_⟩) hS ?_
    rotate_left
    · (intro w hSw; (try dsimp only at hSw); go_simp; (try with_reducible rfl))
    try simp only [Act.put, sb, s0, sz]
    refine takeW 3 ⟨some 28, .indexAddr 23 (.tmp 27) (.const (.int .i64 0)), 0, "fold.go:45", #[⟨2, .data⟩], none⟩ ?_ (.inl ⟨by rfl, ?_⟩) hS ?_
    rotate_left
    · (intro w hSw; (try dsimp only at hSw); go_simp; (try with_reducible rfl))
    try simp only [Act.put, sb, s0, sz]
    refine takeW 4 ⟨some 29, .load 9 (.tmp 28), 9, "fold.go:45", #[⟨3, .data⟩], none⟩ ?_ (.inl ⟨by rfl, ?_⟩) hS ?_
    rotate_left
    · (intro w hSw; (try dsimp only at hSw); go_simp; (try with_reducible rfl))
    try simp only [Act.put, sb, s0, sz]
    refine wpAnyH_ready (rs := [5]) (by kernel_rfl) (by simp) ?_
    refine (AllReadyH.cons (o := { dst := some 30, op := Go.Op.call { callee := Go.Callee.value (Go.Operand.func 34), args := #[Go.Operand.tmp 26, Go.Operand.tmp 29, Go.Operand.func 35], argTypes := #[26, 9, 71] }, type := 69, pos := "fold.go:45", after := #[{ on := 1, ground := Go.Ground.data }, { on := 4, ground := Go.Ground.data }], guard := none }) rfl (fun K hK => ?_) AllReadyH.nil)
    (go_simp; refine (hF.out _ (by repeat (first | exact List.suffix_refl _ | refine List.IsSuffix.trans ?_ (List.suffix_cons _ _))) _ hE.drew).mono ?_; rintro e w3 ⟨v, rfl, rfl, hE3⟩)
    refine hK.out _ _ ⟨(atVm hE3 (by repeat (first | exact List.Mem.head _ | refine List.Mem.tail _ ?_)) (by simp [go_sem]) rfl), (atCell (hNm.out _ (hE3.suf (by repeat (first | exact List.suffix_refl _ | refine List.IsSuffix.trans ?_ (List.suffix_cons _ _))))) (by simp [go_sem]))⟩ (fun hS => ?_)
    clear hK K
    try simp only [Act.put, sb, s0, sz]
    refine takeW 6 ⟨some 24, .move (.tmp 30), 69, "fold.go:45", #[⟨5, .data⟩], none⟩ ?_ (.inl ⟨by rfl, ?_⟩) hS ?_
    rotate_left
    · (intro w hSw; (try dsimp only at hSw); go_simp; (try with_reducible rfl))
    try simp only [Act.put, sb, s0, sz]
    refine takeW 7 ⟨some 31, .extract (.tmp 24) 0, 3, "fold.go:45", #[⟨6, .data⟩], none⟩ ?_ (.inl ⟨by rfl, ?_⟩) hS ?_
    rotate_left
    · (intro w hSw; (try dsimp only at hSw); go_simp; (try with_reducible rfl))
    try simp only [Act.put, sb, s0, sz]
    refine takeW 8 ⟨some 32, .extract (.tmp 24) 1, 4, "fold.go:45", #[⟨6, .data⟩, { on := 9, ground := Go.Ground.gcOnly Go.Departure.lateStores }], none⟩ ?_ (.inl ⟨by rfl, ?_⟩) hS ?_
    rotate_left
    · (intro w hSw; (try dsimp only at hSw); go_simp; (try with_reducible rfl))
    try simp only [Act.put, sb, s0, sz]
    refine takeW 9 ⟨some 8, .assign (.tmp 31), 3, "fold.go:45", #[⟨7, .data⟩, ⟨5, .chain⟩, ⟨0, .phase⟩, ⟨1, .phase⟩, ⟨2, .phase⟩, ⟨3, .phase⟩, ⟨4, .phase⟩, ⟨5, .phase⟩, ⟨6, .phase⟩, ⟨7, .phase⟩, { on := 8, ground := Go.Ground.textOnly Go.Departure.lateStores }], none⟩ ?_ (.inl ⟨by rfl, ?_⟩) hS ?_
    rotate_left
    · (intro w hSw; (try dsimp only at hSw); go_simp; (try with_reducible rfl))
    try simp only [Act.put, sb, s0, sz]
    refine takeW 10 ⟨some 9, .assign (.tmp 32), 4, "fold.go:45", #[⟨8, .data⟩, ⟨9, .chain⟩, ⟨0, .phase⟩, ⟨1, .phase⟩, ⟨2, .phase⟩, ⟨3, .phase⟩, ⟨4, .phase⟩, ⟨5, .phase⟩, ⟨6, .phase⟩, ⟨7, .phase⟩, ⟨8, .phase⟩, ⟨9, .phase⟩], none⟩ ?_ (.inl ⟨by rfl, ?_⟩) hS ?_
    rotate_left
    · (intro w hSw; (try dsimp only at hSw); go_simp; (try with_reducible rfl))
    try simp only [Act.put, sb, s0, sz]
    refine wpAnyH_done (by kernel_rfl) ?_ _
    clear hE hS
    have hE := hE3
    clear hE3
    go_wp2_with (first
      | go_skip
      | ((with_reducible (show Go.wpList _ _ _ (Go.Oper.mk _ (.load _ _) _ _ _ _ :: _) _ _)); (first | (refine wpl_load1 hE 0 rfl rfl rfl rfl (by simp [go_sem]) rfl ?_) | (refine wpl_load1 hE 1 rfl rfl rfl rfl (by simp [go_sem]) rfl ?_) | (refine wpl_load1 hE 2 rfl rfl rfl rfl (by simp [go_sem]) rfl ?_) | (refine wpl_load1 hE 3 rfl rfl rfl rfl (by simp [go_sem]) rfl ?_) | (refine wpl_load1 hE 4 rfl rfl rfl rfl (by simp [go_sem]) rfl ?_) | (refine wpl_load1 hE 5 rfl rfl rfl rfl (by simp [go_sem]) rfl ?_) | (refine wpl_load1 hE 6 rfl rfl rfl rfl (by simp [go_sem]) rfl ?_) | (refine wpl_load1 hE 7 rfl rfl rfl rfl (by simp [go_sem]) rfl ?_)))
      | ((with_reducible (show Go.wpList _ _ _ (Go.Oper.mk _ (.makeSlice _ _ _) _ _ _ _ :: _) _ _)); refine wpl_make hE rfl rfl Tryd.underlying26 nd_bytes rfl (by decide) ks.length rfl rfl (by have := HpN.out; omega) (by have := HpN.out; omega) ?_; clear hE; intro g w4 hE)
      | ((with_reducible (show Go.wpList _ _ _ (Go.Oper.mk _ (.call { callee := .builtin .copy, args := _, argTypes := _ }) _ _ _ _ :: _) _ _)); refine wpl_copyK (size := 4) (j := 0) (dLen := ks.length) (dCap := ks.length) hE 0 rfl rfl rfl (by rw [cut_zero]; rfl) rfl Tryd.underlying26 sz_kid (m := p) (ys := (kCs ks vs).take (p * 4)) (reads_first (Hkn.out _ (hE.suf (by repeat (first | exact List.suffix_refl _ | refine List.IsSuffix.trans ?_ (List.suffix_cons _ _))))) (by have := HpN.out; omega)) (by rw [List.length_take, Hlen.out]; have := HpN.out; omega) (fun u hu => Hone.out u (List.mem_of_mem_take hu)) (by have := HpN.out; omega) (by have := HpN.out; omega) ?_; clear hE; intro w5 hE; simp only [List.set_cons_zero] at hE))
    have hs5 := hs3 g
    clear hs3 hs1
    refine wp_region_held_drew (S := (fun w' => ((Instr.loadAt 26 (.pointer (some ⟨b3, 2, none⟩))).run Tryd.prog w' = .ok (.slice (some ⟨bk, ok, none⟩) ks.length c) w') ∧ ((Instr.loadAt 28 (.pointer (some ⟨bk, ok + p * 4 + 1, none⟩))).run Tryd.prog w' = .ok (.agg #[.bool kdr, .string ⟨kdt.toArray⟩, kvp]) w') ∧ ((Instr.loadAt 28 (.pointer (some ⟨b5, 0, none⟩))).run Tryd.prog w' = .ok (.agg #[.bool xd, .string ⟨xb.toArray⟩, .slice none 0 0]) w'))) (by kernel_rfl) ⟨(atVm hE.drew (by repeat (first | exact List.Mem.head _ | refine List.Mem.tail _ ?_)) (by simp [go_sem]) rfl), (atCells Tryd.isAgg28 Tryd.sizeOf28 [.bool kdr, .string ⟨kdt.toArray⟩, kvp] rfl (hLe.out _ (by first | (refine hE.drew.suf ?_; (repeat (first | exact List.suffix_refl _ | refine List.IsSuffix.trans ?_ (List.suffix_cons _ _))); done) | (refine Ent.mid (m := m) (hE.drew.suf ?_); (repeat (first | exact List.suffix_refl _ | refine List.IsSuffix.trans ?_ (List.suffix_cons _ _))))))), (atWm (vs := [.bool xd, .string ⟨xb.toArray⟩, .slice none 0 0]) hE.drew (by repeat (first | exact List.Mem.head _ | refine List.Mem.tail _ ?_)) Tryd.isAgg28 Tryd.sizeOf28 rfl)⟩ (fun hS => ?_)
    refine takeW 0 ⟨some 82, .fieldAddr 28 (.tmp 3) 2, 0, "fold.go:63", #[], none⟩ ?_ (.inl ⟨by rfl, ?_⟩) hS ?_
    rotate_left
    · (intro w hSw; (try dsimp only at hSw); go_simp; (try with_reducible rfl))
    try simp only [Act.put, sb, s0, sz]
    refine takeW 1 ⟨some 83, .load 26 (.tmp 82), 26, "fold.go:63", #[⟨0, .data⟩], none⟩ ?_ (.inl ⟨by rfl, ?_⟩) hS ?_
    rotate_left
    · (intro w hSw; (try dsimp only at hSw); go_simp; (try with_reducible rfl))
    try simp only [Act.put, sb, s0, sz]
    refine takeW 2 ⟨some 84, .move (.tmp 8), 3, "fold.go:63", #[], none⟩ ?_ (.inl ⟨by rfl, ?_⟩) hS ?_
    rotate_left
    · (intro w hSw; (try dsimp only at hSw); go_simp; (try with_reducible rfl))
    try simp only [Act.put, sb, s0, sz]
    refine takeW 3 ⟨some 85, .indexAddr 26 (.tmp 83) (.tmp 84), 0, "fold.go:63", #[⟨1, .data⟩, ⟨2, .data⟩], none⟩ ?_ (.inl ⟨by rfl, ?_⟩) hS ?_
    rotate_left
    · (intro w hSw; (try dsimp only at hSw); go_simp; (try with_reducible rfl))
    try simp only [Act.put, sb, s0, sz]
    refine takeW 4 ⟨some 86, .fieldAddr 51 (.tmp 85) 1, 0, "fold.go:63", #[⟨3, .data⟩], none⟩ ?_ (.inl ⟨by rfl, ?_⟩) hS ?_
    rotate_left
    · (intro w hSw; (try dsimp only at hSw); go_simp; (try with_reducible rfl))
    try simp only [Act.put, sb, s0, sz]
    refine takeW 5 ⟨some 87, .load 28 (.tmp 86), 28, "fold.go:63", #[⟨4, .data⟩], none⟩ ?_ (.inl ⟨by rfl, ?_⟩) hS ?_
    rotate_left
    · (intro w hSw; (try dsimp only at hSw); go_simp; (try with_reducible rfl))
    try simp only [Act.put, sb, s0, sz]
    refine takeW 6 ⟨some 88, .move (.tmp 1), 23, "fold.go:63", #[], none⟩ ?_ (.inl ⟨by rfl, ?_⟩) hS ?_
    rotate_left
    · (intro w hSw; (try dsimp only at hSw); go_simp; (try with_reducible rfl))
    try simp only [Act.put, sb, s0, sz]
    refine takeW 7 ⟨some 89, .slice 23 (.tmp 88) (some (.const (.int .i64 1))) none none, 23, "fold.go:63", #[⟨6, .data⟩], none⟩ ?_ (.inl ⟨by rfl, ?_⟩) hS ?_
    rotate_left
    · (intro w hSw; (try dsimp only at hSw); go_simp; (try with_reducible rfl))
    try simp only [Act.put, sb, s0, sz]
    refine takeW 8 ⟨some 90, .load 28 (.tmp 5), 28, "fold.go:63", #[], none⟩ ?_ (.inl ⟨by rfl, ?_⟩) hS ?_
    rotate_left
    · (intro w hSw; (try dsimp only at hSw); go_simp; (try with_reducible rfl))
    try simp only [Act.put, sb, s0, sz]
    refine wpAnyH_ready (rs := [9, 13]) (by kernel_rfl) (by simp) ?_
    refine (AllReadyH.cons (o := { dst := some 91, op := Go.Op.call { callee := Go.Callee.value (Go.Operand.func 29), args := #[Go.Operand.tmp 87, Go.Operand.tmp 89, Go.Operand.tmp 90], argTypes := #[28, 23, 28] }, type := 30, pos := "fold.go:63", after := #[{ on := 5, ground := Go.Ground.data }, { on := 7, ground := Go.Ground.data }, { on := 8, ground := Go.Ground.data }], guard := none }) rfl (fun K hK => ?_) (AllReadyH.cons (o := { dst := some 13, op := Go.Op.alloc 28, type := 0, pos := "fold.go:63", after := #[], guard := none }) rfl (fun K hK => ?_) AllReadyH.nil))
    focus
      (go_simp; (first | have H := HK5.out _ _ _ _ _ _ hA | have H := HK.out _ _ _ _ _ hE.drew); refine H.mono ?_; clear H; rintro e w6 ⟨v, rfl, m, kv', rfl, hH, hKA⟩)
      refine hK.out _ _ ⟨(atVm hH (by repeat (first | exact List.Mem.head _ | refine List.Mem.tail _ ?_)) (by simp [go_sem]) rfl), (atCells Tryd.isAgg28 Tryd.sizeOf28 [.bool kdr, .string ⟨kdt.toArray⟩, kvp] rfl (hLe.out _ (by first | (refine hH.suf ?_; (repeat (first | exact List.suffix_refl _ | refine List.IsSuffix.trans ?_ (List.suffix_cons _ _))); done) | (refine Ent.mid (m := m) (hH.suf ?_); (repeat (first | exact List.suffix_refl _ | refine List.IsSuffix.trans ?_ (List.suffix_cons _ _))))))), (atWm (vs := [.bool xd, .string ⟨xb.toArray⟩, .slice none 0 0]) hH (by repeat (first | exact List.Mem.head _ | refine List.Mem.tail _ ?_)) Tryd.isAgg28 Tryd.sizeOf28 rfl)⟩ (fun hS => ?_)
      clear hK K
      try simp only [Act.put, sb, s0, sz]
      refine takeW 10 ⟨some 81, .move (.tmp 91), 30, "fold.go:63", #[⟨9, .data⟩], none⟩ ?_ (.inl ⟨by rfl, ?_⟩) hS ?_
      rotate_left
      · (intro w hSw; (try dsimp only at hSw); go_simp; (try with_reducible rfl))
      try simp only [Act.put, sb, s0, sz]
      refine takeW 11 ⟨some 92, .extract (.tmp 81) 0, 28, "fold.go:63", #[⟨10, .data⟩], none⟩ ?_ (.inl ⟨by rfl, ?_⟩) hS ?_
      rotate_left
      · (intro w hSw; (try dsimp only at hSw); go_simp; (try with_reducible rfl))
      try simp only [Act.put, sb, s0, sz]
      refine takeW 12 ⟨some 93, .extract (.tmp 81) 1, 29, "fold.go:63", #[⟨10, .data⟩, { on := 14, ground := Go.Ground.gcOnly Go.Departure.lateStores }], none⟩ ?_ (.inl ⟨by rfl, ?_⟩) hS ?_
      rotate_left
      · (intro w hSw; (try dsimp only at hSw); go_simp; (try with_reducible rfl))
      try simp only [Act.put, sb, s0, sz]
      refine wpAnyH_ready (rs := [13]) (by kernel_rfl) (by simp) ?_
      refine (AllReadyH.cons (o := { dst := some 13, op := Go.Op.alloc 28, type := 0, pos := "fold.go:63", after := #[], guard := none }) rfl (fun K hK => ?_) AllReadyH.nil)
      (go_simp; (first | have hA := hH.alloc (.cells #[.bool false, .string ⟨#[]⟩, .slice none 0 0] 28) | have hA := hE.drew.alloc (.cells #[.bool false, .string ⟨#[]⟩, .slice none 0 0] 28)))
      refine hK.out _ _ ⟨(atVm hA (by repeat (first | exact List.Mem.head _ | refine List.Mem.tail _ ?_)) (by simp [go_sem]) rfl), (atCells Tryd.isAgg28 Tryd.sizeOf28 [.bool kdr, .string ⟨kdt.toArray⟩, kvp] rfl (hLe.out _ (by first | (refine hA.suf ?_; (repeat (first | exact List.suffix_refl _ | refine List.IsSuffix.trans ?_ (List.suffix_cons _ _))); done) | (refine Ent.mid (m := m) (hA.suf ?_); (repeat (first | exact List.suffix_refl _ | refine List.IsSuffix.trans ?_ (List.suffix_cons _ _))))))), (atWm (vs := [.bool xd, .string ⟨xb.toArray⟩, .slice none 0 0]) hA (by repeat (first | exact List.Mem.head _ | refine List.Mem.tail _ ?_)) Tryd.isAgg28 Tryd.sizeOf28 rfl)⟩ (fun hS => ?_)
      clear hK K
      try simp only [Act.put, sb, s0, sz]
      refine wpAnyH_ready (rs := [14]) (by kernel_rfl) (by simp) ?_
      refine (AllReadyH.cons (o := { dst := none, op := Go.Op.store 28 (Go.Operand.tmp 13) (Go.Operand.tmp 92), type := 0, pos := "fold.go:63", after := #[{ on := 13, ground := Go.Ground.data }, { on := 11, ground := Go.Ground.data }, { on := 9, ground := Go.Ground.chain }, { on := 0, ground := Go.Ground.phase }, { on := 1, ground := Go.Ground.phase }, { on := 2, ground := Go.Ground.phase }, { on := 3, ground := Go.Ground.phase }, { on := 4, ground := Go.Ground.phase }, { on := 5, ground := Go.Ground.phase }, { on := 6, ground := Go.Ground.phase }, { on := 7, ground := Go.Ground.phase }, { on := 8, ground := Go.Ground.phase }, { on := 9, ground := Go.Ground.phase }, { on := 10, ground := Go.Ground.phase }, { on := 11, ground := Go.Ground.phase }, { on := 12, ground := Go.Ground.textOnly Go.Departure.lateStores }, { on := 13, ground := Go.Ground.phase }], guard := none }) rfl (fun K hK => ?_) AllReadyH.nil)
      ((first | refine step_storeW hA 0 rfl (by rfl) (by rfl) (by rfl) (xs := [.bool kd.dir, .string ⟨kd.data.toArray⟩, kv']) (by rfl) Tryd.sizeOf28 rfl (by obtain ⟨a1, a2, rfl⟩ := hKA.slice; simp [Value.oneCell']) rfl ?_ | refine step_storeW hH 0 rfl (by rfl) (by rfl) (by rfl) (xs := [.bool kd.dir, .string ⟨kd.data.toArray⟩, kv']) (by rfl) Tryd.sizeOf28 rfl (by obtain ⟨a1, a2, rfl⟩ := hKA.slice; simp [Value.oneCell']) rfl ?_); intro w7 hEs; simp only [List.set_cons_zero, List.set_cons_succ] at hEs)
      refine hK.out _ _ ⟨(atVm hEs (by repeat (first | exact List.Mem.head _ | refine List.Mem.tail _ ?_)) (by simp [go_sem]) rfl), (atCells Tryd.isAgg28 Tryd.sizeOf28 [.bool kdr, .string ⟨kdt.toArray⟩, kvp] rfl (hLe.out _ (by first | (refine hEs.suf ?_; (repeat (first | exact List.suffix_refl _ | refine List.IsSuffix.trans ?_ (List.suffix_cons _ _))); done) | (refine Ent.mid (m := m) (hEs.suf ?_); (repeat (first | exact List.suffix_refl _ | refine List.IsSuffix.trans ?_ (List.suffix_cons _ _))))))), (atWm (vs := [.bool xd, .string ⟨xb.toArray⟩, .slice none 0 0]) hEs (by repeat (first | exact List.Mem.head _ | refine List.Mem.tail _ ?_)) Tryd.isAgg28 Tryd.sizeOf28 rfl)⟩ (fun hS => ?_)
      clear hK K
      try simp only [Act.put, sb, s0, sz]
      refine takeW 15 ⟨some 14, .assign (.tmp 93), 29, "fold.go:63", #[⟨12, .data⟩, ⟨14, .chain⟩, ⟨0, .phase⟩, ⟨1, .phase⟩, ⟨2, .phase⟩, ⟨3, .phase⟩, ⟨4, .phase⟩, ⟨5, .phase⟩, ⟨6, .phase⟩, ⟨7, .phase⟩, ⟨8, .phase⟩, ⟨9, .phase⟩, ⟨10, .phase⟩, ⟨11, .phase⟩, ⟨12, .phase⟩, ⟨13, .phase⟩, ⟨14, .phase⟩], none⟩ ?_ (.inl ⟨by rfl, ?_⟩) hS ?_
      rotate_left
      · (intro w hSw; (try dsimp only at hSw); go_simp; (try with_reducible rfl))
      try simp only [Act.put, sb, s0, sz]
      refine wpAnyH_done (by kernel_rfl) ?_ _
    rotate_right
    focus
      (go_simp; (first | have hA := hH.alloc (.cells #[.bool false, .string ⟨#[]⟩, .slice none 0 0] 28) | have hA := hE.drew.alloc (.cells #[.bool false, .string ⟨#[]⟩, .slice none 0 0] 28)))
      refine hK.out _ _ ⟨(atVm hA (by repeat (first | exact List.Mem.head _ | refine List.Mem.tail _ ?_)) (by simp [go_sem]) rfl), (atCells Tryd.isAgg28 Tryd.sizeOf28 [.bool kdr, .string ⟨kdt.toArray⟩, kvp] rfl (hLe.out _ (by first | (refine hA.suf ?_; (repeat (first | exact List.suffix_refl _ | refine List.IsSuffix.trans ?_ (List.suffix_cons _ _))); done) | (refine Ent.mid (m := m) (hA.suf ?_); (repeat (first | exact List.suffix_refl _ | refine List.IsSuffix.trans ?_ (List.suffix_cons _ _))))))), (atWm (vs := [.bool xd, .string ⟨xb.toArray⟩, .slice none 0 0]) hA (by repeat (first | exact List.Mem.head _ | refine List.Mem.tail _ ?_)) Tryd.isAgg28 Tryd.sizeOf28 rfl)⟩ (fun hS => ?_)
      clear hK K
      try simp only [Act.put, sb, s0, sz]
      refine wpAnyH_ready (rs := [9]) (by kernel_rfl) (by simp) ?_
      refine (AllReadyH.cons (o := { dst := some 91, op := Go.Op.call { callee := Go.Callee.value (Go.Operand.func 29), args := #[Go.Operand.tmp 87, Go.Operand.tmp 89, Go.Operand.tmp 90], argTypes := #[28, 23, 28] }, type := 30, pos := "fold.go:63", after := #[{ on := 5, ground := Go.Ground.data }, { on := 7, ground := Go.Ground.data }, { on := 8, ground := Go.Ground.data }], guard := none }) rfl (fun K hK => ?_) AllReadyH.nil)
      (go_simp; (first | have H := HK5.out _ _ _ _ _ _ hA | have H := HK.out _ _ _ _ _ hE.drew); refine H.mono ?_; clear H; rintro e w6 ⟨v, rfl, m, kv', rfl, hH, hKA⟩)
      refine hK.out _ _ ⟨(atVm hH (by repeat (first | exact List.Mem.head _ | refine List.Mem.tail _ ?_)) (by simp [go_sem]) rfl), (atCells Tryd.isAgg28 Tryd.sizeOf28 [.bool kdr, .string ⟨kdt.toArray⟩, kvp] rfl (hLe.out _ (by first | (refine hH.suf ?_; (repeat (first | exact List.suffix_refl _ | refine List.IsSuffix.trans ?_ (List.suffix_cons _ _))); done) | (refine Ent.mid (m := m) (hH.suf ?_); (repeat (first | exact List.suffix_refl _ | refine List.IsSuffix.trans ?_ (List.suffix_cons _ _))))))), (atWm (vs := [.bool xd, .string ⟨xb.toArray⟩, .slice none 0 0]) hH (by repeat (first | exact List.Mem.head _ | refine List.Mem.tail _ ?_)) Tryd.isAgg28 Tryd.sizeOf28 rfl)⟩ (fun hS => ?_)
      clear hK K
      try simp only [Act.put, sb, s0, sz]
      refine takeW 10 ⟨some 81, .move (.tmp 91), 30, "fold.go:63", #[⟨9, .data⟩], none⟩ ?_ (.inl ⟨by rfl, ?_⟩) hS ?_
      rotate_left
      · (intro w hSw; (try dsimp only at hSw); go_simp; (try with_reducible rfl))
      try simp only [Act.put, sb, s0, sz]
      refine takeW 11 ⟨some 92, .extract (.tmp 81) 0, 28, "fold.go:63", #[⟨10, .data⟩], none⟩ ?_ (.inl ⟨by rfl, ?_⟩) hS ?_
      rotate_left
      · (intro w hSw; (try dsimp only at hSw); go_simp; (try with_reducible rfl))
      try simp only [Act.put, sb, s0, sz]
      refine takeW 12 ⟨some 93, .extract (.tmp 81) 1, 29, "fold.go:63", #[⟨10, .data⟩, { on := 14, ground := Go.Ground.gcOnly Go.Departure.lateStores }], none⟩ ?_ (.inl ⟨by rfl, ?_⟩) hS ?_
      rotate_left
      · (intro w hSw; (try dsimp only at hSw); go_simp; (try with_reducible rfl))
      try simp only [Act.put, sb, s0, sz]
      refine wpAnyH_ready (rs := [14]) (by kernel_rfl) (by simp) ?_
      refine (AllReadyH.cons (o := { dst := none, op := Go.Op.store 28 (Go.Operand.tmp 13) (Go.Operand.tmp 92), type := 0, pos := "fold.go:63", after := #[{ on := 13, ground := Go.Ground.data }, { on := 11, ground := Go.Ground.data }, { on := 9, ground := Go.Ground.chain }, { on := 0, ground := Go.Ground.phase }, { on := 1, ground := Go.Ground.phase }, { on := 2, ground := Go.Ground.phase }, { on := 3, ground := Go.Ground.phase }, { on := 4, ground := Go.Ground.phase }, { on := 5, ground := Go.Ground.phase }, { on := 6, ground := Go.Ground.phase }, { on := 7, ground := Go.Ground.phase }, { on := 8, ground := Go.Ground.phase }, { on := 9, ground := Go.Ground.phase }, { on := 10, ground := Go.Ground.phase }, { on := 11, ground := Go.Ground.phase }, { on := 12, ground := Go.Ground.textOnly Go.Departure.lateStores }, { on := 13, ground := Go.Ground.phase }], guard := none }) rfl (fun K hK => ?_) AllReadyH.nil)
      ((first | refine step_storeW hA 0 rfl (by rfl) (by rfl) (by rfl) (xs := [.bool kd.dir, .string ⟨kd.data.toArray⟩, kv']) (by rfl) Tryd.sizeOf28 rfl (by obtain ⟨a1, a2, rfl⟩ := hKA.slice; simp [Value.oneCell']) rfl ?_ | refine step_storeW hH 0 rfl (by rfl) (by rfl) (by rfl) (xs := [.bool kd.dir, .string ⟨kd.data.toArray⟩, kv']) (by rfl) Tryd.sizeOf28 rfl (by obtain ⟨a1, a2, rfl⟩ := hKA.slice; simp [Value.oneCell']) rfl ?_); intro w7 hEs; simp only [List.set_cons_zero, List.set_cons_succ] at hEs)
      refine hK.out _ _ ⟨(atVm hEs (by repeat (first | exact List.Mem.head _ | refine List.Mem.tail _ ?_)) (by simp [go_sem]) rfl), (atCells Tryd.isAgg28 Tryd.sizeOf28 [.bool kdr, .string ⟨kdt.toArray⟩, kvp] rfl (hLe.out _ (by first | (refine hEs.suf ?_; (repeat (first | exact List.suffix_refl _ | refine List.IsSuffix.trans ?_ (List.suffix_cons _ _))); done) | (refine Ent.mid (m := m) (hEs.suf ?_); (repeat (first | exact List.suffix_refl _ | refine List.IsSuffix.trans ?_ (List.suffix_cons _ _))))))), (atWm (vs := [.bool xd, .string ⟨xb.toArray⟩, .slice none 0 0]) hEs (by repeat (first | exact List.Mem.head _ | refine List.Mem.tail _ ?_)) Tryd.isAgg28 Tryd.sizeOf28 rfl)⟩ (fun hS => ?_)
      clear hK K
      try simp only [Act.put, sb, s0, sz]
      refine takeW 15 ⟨some 14, .assign (.tmp 93), 29, "fold.go:63", #[⟨12, .data⟩, ⟨14, .chain⟩, ⟨0, .phase⟩, ⟨1, .phase⟩, ⟨2, .phase⟩, ⟨3, .phase⟩, ⟨4, .phase⟩, ⟨5, .phase⟩, ⟨6, .phase⟩, ⟨7, .phase⟩, ⟨8, .phase⟩, ⟨9, .phase⟩, ⟨10, .phase⟩, ⟨11, .phase⟩, ⟨12, .phase⟩, ⟨13, .phase⟩, ⟨14, .phase⟩], none⟩ ?_ (.inl ⟨by rfl, ?_⟩) hS ?_
      rotate_left
      · (intro w hSw; (try dsimp only at hSw); go_simp; (try with_reducible rfl))
      try simp only [Act.put, sb, s0, sz]
      refine wpAnyH_done (by kernel_rfl) ?_ _
    all_goals
      first
        | (change Ent (pt w5.heap.size (.cells [.bool kd.dir, .string ⟨kd.data.toArray⟩, kv'].toArray _) :: _) _ at hEs; generalize w5.heap.size = ra at *)
        | (change Ent (pt w6.heap.size (.cells [.bool kd.dir, .string ⟨kd.data.toArray⟩, kv'].toArray _) :: _) _ at hEs; generalize w6.heap.size = ra at *)
      have hE := hEs
      clear hEs hS
      try clear hH
      try clear hA
      replace hE : Ent (pt ra (.cells #[.bool kd.dir, .string ⟨kd.data.toArray⟩, kv'] 28) :: row 51 4 (.slice (some ⟨g, 0, none⟩) ks.length ks.length) ks.length (splice (List.replicate ks.length zkid).flatten (0 * 4) ((kCs ks vs).take (p * 4))) :: pt b6 (.cells #[.bool false, .string ⟨#[]⟩, .slice none 0 0] 28) :: pt b5 (.cells #[.bool xd, .string ⟨xb.toArray⟩, .slice none 0 0] 28) :: pt b3 (.cells #[.bool true, .string ⟨dt.toArray⟩, .slice (some ⟨bk, ok, none⟩) ks.length c] 28) :: (pre ++ (m ++ lb))) w7 := hE
      cases he : (er == 0) with
      | false =>
        have her : ¬ er = 0 := by simpa using he
        have hne : (er != 0) = true := by simp [bne, he]
        rw [if_neg her] at HT
        clear her he
        go_wp2_with (first
          | go_skip
          | ((with_reducible (show Go.wpList _ _ _ (Go.Oper.mk _ (.load _ _) _ _ _ _ :: _) _ _)); (first | (refine wpl_load1 hE 0 rfl rfl rfl rfl (by simp [go_sem]) rfl ?_) | (refine wpl_load1 hE 1 rfl rfl rfl rfl (by simp [go_sem]) rfl ?_) | (refine wpl_load1 hE 2 rfl rfl rfl rfl (by simp [go_sem]) rfl ?_) | (refine wpl_load1 hE 3 rfl rfl rfl rfl (by simp [go_sem]) rfl ?_) | (refine wpl_load1 hE 4 rfl rfl rfl rfl (by simp [go_sem]) rfl ?_) | (refine wpl_load1 hE 5 rfl rfl rfl rfl (by simp [go_sem]) rfl ?_) | (refine wpl_load1 hE 6 rfl rfl rfl rfl (by simp [go_sem]) rfl ?_) | (refine wpl_load1 hE 7 rfl rfl rfl rfl (by simp [go_sem]) rfl ?_)))
          | ((with_reducible (show Go.wpList _ _ _ (Go.Oper.mk _ (.store 28 _ _) _ _ _ _ :: _) _ _)); refine wpl_storeW hE 2 rfl rfl rfl (xs := [.bool false, .string ⟨#[]⟩, .slice none 0 0]) rfl rfl Tryd.sizeOf28 rfl (by simp [Value.oneCell']) rfl ?_; clear hE; intro w8 hE; simp only [List.set_cons_zero, List.set_cons_succ] at hE))
        refine bodyPost_ret (results_cell2 rfl hE 2 rfl rfl Tryd.isAgg28 Tryd.sizeOf28 rfl rfl) rfl ?_
        rw [HT.out]
        exact ⟨_, rfl, m, .slice none 0 0, rfl, hE.tail.tail.tail.tail.tail, KidsAt.nil _⟩
      | true =>
        obtain rfl : er = 0 := by simpa using he
        rw [if_pos rfl] at HT
        go_wp2_with (first
          | go_skip
          | ((with_reducible (show Go.wpList _ _ _ (Go.Oper.mk _ (.load _ _) _ _ _ _ :: _) _ _)); (first | (refine wpl_load1 hE 0 rfl rfl rfl rfl (by simp [go_sem]) rfl ?_) | (refine wpl_load1 hE 1 rfl rfl rfl rfl (by simp [go_sem]) rfl ?_) | (refine wpl_load1 hE 2 rfl rfl rfl rfl (by simp [go_sem]) rfl ?_) | (refine wpl_load1 hE 3 rfl rfl rfl rfl (by simp [go_sem]) rfl ?_) | (refine wpl_load1 hE 4 rfl rfl rfl rfl (by simp [go_sem]) rfl ?_) | (refine wpl_load1 hE 5 rfl rfl rfl rfl (by simp [go_sem]) rfl ?_) | (refine wpl_load1 hE 6 rfl rfl rfl rfl (by simp [go_sem]) rfl ?_) | (refine wpl_load1 hE 7 rfl rfl rfl rfl (by simp [go_sem]) rfl ?_))))
        refine wp_region_held_drew (S := (fun w' => ((Instr.loadAt 26 (.pointer (some ⟨b3, 2, none⟩))).run Tryd.prog w' = .ok (.slice (some ⟨bk, ok, none⟩) ks.length c) w'))) (by kernel_rfl) (atVm hE.drew (by repeat (first | exact List.Mem.head _ | refine List.Mem.tail _ ?_)) (by simp [go_sem]) rfl) (fun hS => ?_)
        refine takeW 0 ⟨some 98, .move (.tmp 12), 26, "fold.go:67", #[], none⟩ ?_ (.inl ⟨by rfl, ?_⟩) hS ?_
        rotate_left
        · (intro w hSw; (try dsimp only at hSw); go_simp; (try with_reducible rfl))
        try simp only [Act.put, sb, s0, sz]
        refine takeW 1 ⟨some 99, .move (.tmp 8), 3, "fold.go:67", #[], none⟩ ?_ (.inl ⟨by rfl, ?_⟩) hS ?_
        rotate_left
        · (intro w hSw; (try dsimp only at hSw); go_simp; (try with_reducible rfl))
        try simp only [Act.put, sb, s0, sz]
        refine takeW 2 ⟨some 100, .slice 26 (.tmp 98) (some (.tmp 99)) none none, 26, "fold.go:67", #[⟨0, .data⟩, ⟨1, .data⟩], none⟩ ?_ (.inl ⟨by rfl, ?_⟩) hS ?_
        rotate_left
        · (intro w hSw; (try dsimp only at hSw); go_simp; (try with_reducible rfl))
        try simp only [Act.put, sb, s0, sz]
        refine takeW 3 ⟨some 101, .fieldAddr 28 (.tmp 3) 2, 0, "fold.go:67", #[], none⟩ ?_ (.inl ⟨by rfl, ?_⟩) hS ?_
        rotate_left
        · (intro w hSw; (try dsimp only at hSw); go_simp; (try with_reducible rfl))
        try simp only [Act.put, sb, s0, sz]
        refine takeW 4 ⟨some 102, .load 26 (.tmp 101), 26, "fold.go:67", #[⟨3, .data⟩], none⟩ ?_ (.inl ⟨by rfl, ?_⟩) hS ?_
        rotate_left
        · (intro w hSw; (try dsimp only at hSw); go_simp; (try with_reducible rfl))
        try simp only [Act.put, sb, s0, sz]
        refine takeW 5 ⟨some 103, .move (.tmp 8), 3, "fold.go:67", #[], none⟩ ?_ (.inl ⟨by rfl, ?_⟩) hS ?_
        rotate_left
        · (intro w hSw; (try dsimp only at hSw); go_simp; (try with_reducible rfl))
        try simp only [Act.put, sb, s0, sz]
        refine takeW 6 ⟨some 104, .slice 26 (.tmp 102) (some (.tmp 103)) none none, 26, "fold.go:67", #[⟨4, .data⟩, ⟨5, .data⟩], none⟩ ?_ (.inl ⟨by rfl, ?_⟩) hS ?_
        rotate_left
        · (intro w hSw; (try dsimp only at hSw); go_simp; (try with_reducible rfl))
        try simp only [Act.put, sb, s0, sz]
        refine wpAnyH_ready (rs := [7]) (by kernel_rfl) (by simp) ?_
        refine (AllReadyH.cons (o := { dst := some 105, op := Go.Op.call { callee := Go.Callee.builtin Go.Builtin.copy, args := #[Go.Operand.tmp 100, Go.Operand.tmp 104], argTypes := #[26, 26] }, type := 3, pos := "fold.go:67", after := #[{ on := 2, ground := Go.Ground.data }, { on := 6, ground := Go.Ground.data }], guard := none }) rfl (fun K hK => ?_) AllReadyH.nil)
        (refine step_copyK (size := 4) (j := p) (dLen := ks.length - p) (dCap := ks.length - p) hE.drew 1 rfl rfl (by rfl) (by rfl) (by rfl) Tryd.underlying26 sz_kid (m := ks.length - p) (ys := (kCs ks vs).drop (p * 4)) (reads_behind (Hkn.out _ (Ent.mid (hE.drew.suf (by repeat (first | exact List.suffix_refl _ | refine List.IsSuffix.trans ?_ (List.suffix_cons _ _)))))) Hlen.out HpN.out.2.1 (by have := HpN.out; omega)) (by rw [List.length_drop, Hlen.out, Nat.sub_mul]) (fun u hu => Hone.out u (List.mem_of_mem_drop hu)) (by have := HpN.out; omega) (by have := HpN.out; omega) ?_; intro w8 hE8; simp only [List.set_cons_zero, List.set_cons_succ] at hE8)
        refine hK.out _ _ (atVm hE8 (by repeat (first | exact List.Mem.head _ | refine List.Mem.tail _ ?_)) (by simp [go_sem]) rfl) (fun hS => ?_)
        clear hK K
        try simp only [Act.put, sb, s0, sz]
        refine wpAnyH_done (by kernel_rfl) ?_ _
        clear hE hS hs2 hs5
        have hE := hE8
        clear hE8
        have hZ := Hset.out kd kv' (List.replicate ks.length zkid).flatten (zkids_len _)
        have hpi : (p : Int) < (ks.length : Int) := by have := HpN.out; omega
        have hpj : p < ks.length := HpN.out.1
        go_wp2_with (first
          | go_skip
          | ((with_reducible (show Go.wpList _ _ _ (Go.Oper.mk _ (.load 28 (.tmp 13)) _ _ _ _ :: _) _ _)); refine wpl_loadW (xs := [.bool kd.dir, .string ⟨kd.data.toArray⟩, kv']) hE 0 rfl rfl rfl rfl Tryd.isAgg28 Tryd.sizeOf28 rfl ?_)
          | ((with_reducible (show Go.wpList _ _ _ (Go.Oper.mk _ (.store 28 (.tmp 110) _) _ _ _ _ :: _) _ _)); refine wpl_storeRowA hE 1 [.bool kd.dir, .string ⟨kd.data.toArray⟩, kv'] rfl rfl rfl rfl rfl Tryd.sizeOf28 rfl (by obtain ⟨a1, a2, rfl⟩ := hKA.slice; simp [Value.oneCell']) (off := p * 4 + 1) (by have := HpN.out; omega) ?_; clear hE; intro w9 hE; simp only [List.set_cons_zero, List.set_cons_succ] at hE; rw [hZ] at hE)
          | ((with_reducible (show Go.wpList _ _ _ (Go.Oper.mk _ (.store 28 (.tmp 6) _) _ _ _ _ :: _) _ _)); refine wpl_storeW hE 2 rfl rfl rfl (xs := [.bool true, .string ⟨#[]⟩, .slice (some ⟨g, 0, none⟩) ks.length ks.length]) rfl rfl Tryd.sizeOf28 rfl (by simp [Value.oneCell']) rfl ?_; clear hE; intro w10 hE; simp only [List.set_cons_zero, List.set_cons_succ] at hE))
        refine bodyPost_ret (results_cell2 rfl hE 2 rfl rfl Tryd.isAgg28 Tryd.sizeOf28 rfl rfl) rfl ?_
        rw [HT.out]
        refine ⟨_, rfl, row 51 4 (.slice (some ⟨g, 0, none⟩) ks.length ks.length) ks.length (kCs (ks.set p (n, kd)) (vs.set p kv')) :: m, .slice (some ⟨g, 0, none⟩) ks.length ks.length, rfl, Ent.keepNew (((hE.tail.erase 1).erase 1).erase 1), ?_⟩
        have hkl := Hkl.out
        have h := KidsAt.mk (l := row 51 4 (.slice (some ⟨g, 0, none⟩) ks.length ks.length) ks.length (kCs (ks.set p (n, kd)) (vs.set p kv')) :: (m ++ lb)) (some ⟨g, 0, none⟩) ks.length (ks.set p (n, kd)) (vs.set p kv') (by rw [hkl.1]; exact Nat.le_refl _) (by rw [hkl.1, hkl.2]) (by rw [hkl.1]; exact fun w h => reads_row h 0 rfl) (Hkk.out m _ kd kv' hKA)
        rw [hkl.1] at h
        exact h
theorem with_any : ∀ (q : List (List UInt8)), q.length ≤ 1000 → ∀ (xd : Bool) (xb : List UInt8), xb.length ≤ 1000000 → WithC q xd xb
  | [], _, xd, xb, _ => fun t dp hw kv pre lb an cn w hkv hcn hn hE => by
    obtain ⟨d, dt, ks⟩ := t
    refine (with_bad (d := d) (L := 0) (.inr rfl) hE).mono ?_
    rintro e w' ⟨v, rfl, rfl, h⟩
    exact ⟨_, rfl, [], .slice none 0 0, rfl, h, KidsAt.nil _⟩
  | n :: q, hl, xd, xb, hx => fun t dp hw kv pre lb an cn w hkv hcn hn hE => by
    obtain ⟨d, dt, ks⟩ := t
    have hr := Tr.wf_rising hw
    have h6 := (Tr.wf_size hw).2
    cases d with
    | false =>
      have hz : Tr.withT (n :: q) xd xb (.nd false dt ks) = (8, .zero) := by cases q <;> rfl
      refine (with_bad (d := false) (.inl rfl) hE).mono ?_
      rintro e w' ⟨v, rfl, rfl, h⟩
      exact ⟨_, rfl, [], .slice none 0 0, by rw [hz]; rfl, h, by rw [hz]; exact KidsAt.nil _⟩
    | true =>
      by_cases hq : q = []
      · subst hq
        exact with_last hkv hr h6 hx hn hE
      · exact with_more hw hkv hr h6 hq (by simp at hl; omega) hcn (with_any q (by simp at hl; omega) xd xb hx) hn hE
end Go.Proofs.YtjmllpgmbaoebaaDoor
namespace Go.Proofs.YtjmllpgmbaoebaaDoor
open Go.RowKit Go.SL

def enC (x : En) : List Value := [.string ⟨x.path.toArray⟩, .bool x.dir, .string ⟨x.data.toArray⟩]
theorem enC_len (x : En) : (enC x).length = 3 := rfl
theorem enC_one (x : En) : ∀ u ∈ enC x, u.oneCell' = true := by simp [enC, Value.oneCell']
theorem enC_flat_len (xs : List En) : (xs.flatMap enC).length = xs.length * 3 := flatMap_len enC 3 enC_len xs
theorem mkb (a b : List UInt8) : ((⟨a.toArray⟩ : ByteArray) == ⟨b.toArray⟩) = (a == b) := by
  rw [beq_toListBytes, ByteArray.toList_eq, ByteArray.toList_eq]
/-- where an entry of a row lies -/
theorem en_at {w : World} {ao : Option Addr} {c : Nat} {xs : List En} (hr : reads (.slice ao xs.length c) xs.length (xs.flatMap enC) w) {k : Nat} (hk : k < xs.length) : ∃ b off, ao = some ⟨b, off, none⟩ ∧ ∀ j v, (enC xs[k])[j]? = some v → w.cell? ⟨b, off + k * 3 + j, none⟩ = some v := by
  obtain ⟨b, off, rfl, hc⟩ := reads_form hr (by omega) (by rw [enC_flat_len]; omega)
  refine ⟨b, off, rfl, fun j v hv => ?_⟩
  rw [Nat.add_assoc]
  exact hc _ _ (flatMap_at enC 3 enC_len xs k j xs[k] v (List.getElem?_eq_getElem hk) hv)
def BuRel (es : List En) (b2 b4 : Nat) (l : List HProp) (i : Value) (wr : World) : Prop :=
  ∃ (k : Nat) (t : Tr) (m : List HProp) (kv : Value), k ≤ es.length ∧ i = .int .i64 k ∧ buildT es = goT t (es.drop k) ∧ Good t (es.take k) ∧ KidsAt (m ++ l) kv t.kids ∧
    Ent (pt b4 (.cells #[.bool t.dir, .string ⟨t.data.toArray⟩, kv] 28) :: pt b2 (.cells #[.bool false, .string ⟨#[]⟩, .slice none 0 0] 28) :: (m ++ l)) wr

set_option maxRecDepth 100000 in
set_option maxHeartbeats 8000000 in
theorem Build_any {es : List En} (hn : es.length ≤ 1000) (hb : ∀ x ∈ es, x.path.length ≤ 1000000 ∧ x.data.length ≤ 1000000) {ao : Option Addr} {c : Nat} {l : List HProp} {w : World} (hk : Knows l (reads (.slice ao es.length c) es.length (es.flatMap enC))) (hE : Ent l w) :
    Calls Tryd.prog 10 #[.slice ao es.length c] w (Ret fun v w' => ∃ m kv, v = .tuple #[nodeV (buildT es).2 kv, .int .i64 (buildT es).1] ∧ Ent (m ++ l) w' ∧ KidsAt (m ++ l) kv (buildT es).2.kids) := by
  cases h64 : decide ((64 : Int) < (es.length : Int)) with
  | true =>
    have hT : buildT es = (6, .zero) := by rw [buildT, if_pos (by have := of_decide_eq_true h64; omega)]
    rw [hT]
    go_enter Tryd.func10, Tryd.ntmps10
    go_wp2_with (first
      | go_skip
      | ((with_reducible (show Go.wpList _ _ _ (Go.Oper.mk _ (.alloc _) _ _ _ _ :: _) _ _)); refine wpl_alloc hE rfl rfl (by simp [go_sem]; rfl) ?_; clear hE; intro b2 w hE; simp only [Act.eval, Act.put, List.setIfInBounds_toArray, List.set_cons_zero, List.set_cons_succ, getD_lit, List.getD_cons_succ, List.getD_cons_zero, Value.cells] at hE)
      | ((with_reducible (show Go.wpList _ _ _ (Go.Oper.mk _ (.store 28 _ _) _ _ _ _ :: _) _ _)); (first | (refine wpl_storeW hE 0 rfl rfl rfl (xs := [.bool false, .string ⟨#[]⟩, .slice none 0 0]) rfl rfl Tryd.sizeOf28 rfl (by simp [Value.oneCell']) rfl ?_) | (refine wpl_storeW hE 1 rfl rfl rfl (xs := [.bool false, .string ⟨#[]⟩, .slice none 0 0]) rfl rfl Tryd.sizeOf28 rfl (by simp [Value.oneCell']) rfl ?_) | (refine wpl_storeW hE 2 rfl rfl rfl (xs := [.bool false, .string ⟨#[]⟩, .slice none 0 0]) rfl rfl Tryd.sizeOf28 rfl (by simp [Value.oneCell']) rfl ?_) | (refine wpl_storeW hE 3 rfl rfl rfl (xs := [.bool false, .string ⟨#[]⟩, .slice none 0 0]) rfl rfl Tryd.sizeOf28 rfl (by simp [Value.oneCell']) rfl ?_) | (refine wpl_storeW hE 4 rfl rfl rfl (xs := [.bool false, .string ⟨#[]⟩, .slice none 0 0]) rfl rfl Tryd.sizeOf28 rfl (by simp [Value.oneCell']) rfl ?_) | (refine wpl_storeW hE 5 rfl rfl rfl (xs := [.bool false, .string ⟨#[]⟩, .slice none 0 0]) rfl rfl Tryd.sizeOf28 rfl (by simp [Value.oneCell']) rfl ?_) | (refine wpl_storeW hE 6 rfl rfl rfl (xs := [.bool false, .string ⟨#[]⟩, .slice none 0 0]) rfl rfl Tryd.sizeOf28 rfl (by simp [Value.oneCell']) rfl ?_) | (refine wpl_storeW hE 7 rfl rfl rfl (xs := [.bool false, .string ⟨#[]⟩, .slice none 0 0]) rfl rfl Tryd.sizeOf28 rfl (by simp [Value.oneCell']) rfl ?_)); clear hE; intro w hE; simp only [List.set_cons_zero, List.set_cons_succ] at hE))
    refine bodyPost_ret (results_cell2 rfl hE 0 rfl rfl Tryd.isAgg28 Tryd.sizeOf28 rfl rfl) rfl ?_
    exact ⟨_, rfl, [], .slice none 0 0, rfl, hE.tail, KidsAt.nil _⟩
  | false =>
    have hT0 : buildT es = goT root es := by rw [buildT, if_neg (by have := of_decide_eq_false h64; omega)]
    go_enter Tryd.func10, Tryd.ntmps10
    have Tok := SL.hid True.intro
    go_wp2_with (first
      | go_skip
      | ((with_reducible (show Go.wpList _ _ _ (Go.Oper.mk _ (.alloc _) _ _ _ _ :: _) _ _)); clear Tok; ((with_reducible (show Go.wpList _ _ _ (Go.Oper.mk _ (.alloc _) _ _ _ _ :: _) _ _)); refine wpl_alloc hE rfl rfl (by simp [go_sem]; rfl) ?_; clear hE; intro b2 w hE; simp only [Act.eval, Act.put, List.setIfInBounds_toArray, List.set_cons_zero, List.set_cons_succ, getD_lit, List.getD_cons_succ, List.getD_cons_zero, Value.cells] at hE))
      | ((with_reducible (show Go.wpList _ _ _ (Go.Oper.mk _ (.alloc _) _ _ _ _ :: _) _ _)); refine wpl_alloc hE rfl rfl (by simp [go_sem]; rfl) ?_; clear hE; intro b4 w hE; simp only [Act.eval, Act.put, List.setIfInBounds_toArray, List.set_cons_zero, List.set_cons_succ, getD_lit, List.getD_cons_succ, List.getD_cons_zero, Value.cells] at hE)
      | ((with_reducible (show Go.wpList _ _ _ (Go.Oper.mk _ (.store 28 _ _) _ _ _ _ :: _) _ _)); refine wpl_storeW hE 0 rfl rfl rfl (xs := [.bool true, .string ⟨#[]⟩, .slice none 0 0]) rfl rfl Tryd.sizeOf28 rfl (by simp [Value.oneCell']) rfl ?_; clear hE; intro w8 hE; simp only [List.set_cons_zero] at hE))
    clear h64
    go_loopw [16] (fun i wr => BuRel es b2 b4 l i wr) (fun i _ => es.length - (intOf i).toNat)
    case atStart => exact ⟨0, root, [], .slice none 0 0, Nat.zero_le _, rfl, by rw [List.drop_zero]; exact hT0, by rw [List.take_zero]; exact good_root, KidsAt.nil _, hE⟩
    case round =>
      clear hE hT0
      obtain ⟨k, t, m, kv, hkn, rfl, hB, hG, hkv, hE⟩ := hrel
      by_cases hlt : k < es.length
      · obtain ⟨b, off, rfl, hz⟩ := en_at (hk _ (hE.suf (l' := l) (by exact (List.suffix_append m l).trans (List.suffix_append [_, _] _)))) hlt
        clear hz
        have hL := SL.hid (show ∀ W, Ent l W → ∀ j v, (enC es[k])[j]? = some v → W.cell? ⟨b, off + k * 3 + j, none⟩ = some v from fun W hW => by
          obtain ⟨b', off', e, h⟩ := en_at (hk _ hW) hlt
          cases e
          exact h)
        replace hL := SL.hid (show ∀ W, Ent (m ++ l) W → ∀ j v, (enC es[k])[j]? = some v → W.cell? ⟨b, off + k * 3 + j, none⟩ = some v from fun W hW => hL.out W hW.drop)
        have hx := hb _ (List.getElem_mem hlt)
        have htk := List.take_succ_eq_append_getElem hlt
        have hdk : es.drop k = es[k] :: es.drop (k + 1) := List.drop_eq_getElem_cons hlt
        rw [hdk] at hB
        generalize es[k] = x at *
        obtain ⟨xp, xd, xb⟩ := x
        simp only at hx
        have Hxb := SL.hid hx.2
        have HS := SL.hid (show ∀ (L : List HProp) (w : World), Ent L w → Calls Tryd.prog 28 #[.string ⟨xp.toArray⟩] w (Ret fun v w' => ∃ ao c, v = .tuple #[.slice ao (splitL xp).length c, .int .i64 (splitE xp)] ∧ Ent (rowS ao c (splitL xp) :: L) w') from fun L w h => Split_any hx.1 h)
        have hmb := mkb xb []
        have hmb2 : ((⟨xb.toArray⟩ : ByteArray) != ⟨#[]⟩) = !(xb == []) := by rw [bne, mkb]
        clear hdk hx
        by_cases hse : splitE xp = 0
        · have Hse := SL.hid hse
          rw [hse] at HS
          clear hse
          cases xd with
          | true =>
            cases hxb : (xb == []) with
            | false =>
              have HT := SL.hid (show buildT es = (8, .zero) from by
                rw [hB, goT, addT]
                simp only [Hse.out]
                have h1 : xb ≠ [] := by simpa using hxb
                simp [h1])
              rw [hxb] at hmb hmb2
              as_aux_lemma =>
              go_wp2_with (first
                | go_skip
                | ((with_reducible (show Go.wpList _ _ _ (Go.Oper.mk _ (.load 41 _) _ _ _ _ :: _) _ _)); refine wpl_loadC rfl rfl rfl Tryd.isAgg41 Tryd.sizeOf41 (enC ⟨xp, true, xb⟩) rfl (fun j v hv => by rw [Addr.add_lit]; exact hL.out _ (hE.suf (by repeat (first | exact List.suffix_refl _ | refine List.IsSuffix.trans ?_ (List.suffix_cons _ _)))) j v hv) ?_)
                | ((with_reducible (show Go.wpList _ _ _ (Go.Oper.mk _ (.alloc 41) _ _ _ _ :: _) _ _)); refine wpl_allocN hE rfl rfl (n := 3) (by kernel_rfl) ?_; clear hE; intro b6 cs w1 hq hE)
                | ((with_reducible (show Go.wpList _ _ _ (Go.Oper.mk _ (.store 41 _ _) _ _ _ _ :: _) _ _)); refine wpl_storeN hE 0 rfl rfl rfl rfl (xs := enC ⟨xp, true, xb⟩) rfl Tryd.sizeOf41 rfl (by simp [enC, Value.oneCell']) hq ?_; clear hE hq; intro w2 hE; simp only [List.set_cons_zero] at hE; replace hE : Ent (pt b6 (.cells #[.string ⟨xp.toArray⟩, .bool true, .string ⟨xb.toArray⟩] 41) :: pt b4 (.cells #[.bool t.dir, .string ⟨t.data.toArray⟩, kv] 28) :: pt b2 (.cells #[.bool false, .string ⟨#[]⟩, .slice none 0 0] 28) :: (m ++ l)) w2 := hE)
                | (go_at_call 28; refine (HS.out _ _ hE).mono ?_; clear hE; rintro e w3 ⟨v, rfl, an, cn, rfl, hE⟩)
                | ((with_reducible (show Go.wpList _ _ _ (Go.Oper.mk _ (.load 28 _) _ _ _ _ :: _) _ _)); refine wpl_loadW (xs := [.bool t.dir, .string ⟨t.data.toArray⟩, kv]) hE 2 rfl rfl rfl rfl Tryd.isAgg28 Tryd.sizeOf28 rfl ?_)
                | ((with_reducible (show Go.wpList _ _ _ (Go.Oper.mk _ (.load _ _) _ _ _ _ :: _) _ _)); (first | (refine wpl_load1 hE 0 rfl rfl rfl rfl (by simp [go_sem]) rfl ?_) | (refine wpl_load1 hE 1 rfl rfl rfl rfl (by simp [go_sem]) rfl ?_) | (refine wpl_load1 hE 2 rfl rfl rfl rfl (by simp [go_sem]) rfl ?_) | (refine wpl_load1 hE 3 rfl rfl rfl rfl (by simp [go_sem]) rfl ?_) | (refine wpl_load1 hE 4 rfl rfl rfl rfl (by simp [go_sem]) rfl ?_) | (refine wpl_load1 hE 5 rfl rfl rfl rfl (by simp [go_sem]) rfl ?_) | (refine wpl_load1 hE 6 rfl rfl rfl rfl (by simp [go_sem]) rfl ?_) | (refine wpl_load1 hE 7 rfl rfl rfl rfl (by simp [go_sem]) rfl ?_)))
                | ((with_reducible (show Go.wpList _ _ _ (Go.Oper.mk _ (.store 28 _ _) _ _ _ _ :: _) _ _)); refine wpl_storeW hE 3 rfl rfl rfl (xs := [.bool false, .string ⟨#[]⟩, .slice none 0 0]) rfl rfl Tryd.sizeOf28 rfl (by simp [Value.oneCell']) rfl ?_; clear hE; intro w8 hE; simp only [List.set_cons_zero, List.set_cons_succ] at hE))
              refine bodyPost_ret (results_cell2 rfl hE 3 rfl rfl Tryd.isAgg28 Tryd.sizeOf28 rfl rfl) rfl ?_
              rw [HT.out]
              exact ⟨_, rfl, m, .slice none 0 0, rfl, hE.tail.tail.tail.tail, KidsAt.nil _⟩
            | true =>
              obtain rfl : xb = [] := by simpa using hxb
              clear hmb hmb2 hxb
              have HW := SL.hid (show ∀ (A B C D : HProp) (w : World) (an : Option Addr) (cn : Nat), Ent (A :: B :: C :: D :: (m ++ l)) w → (splitL xp).length ≤ cn → Knows (A :: B :: C :: D :: (m ++ l)) (reads (.slice an (splitL xp).length cn) (splitL xp).length ((splitL xp).map strv)) →
                  Calls Tryd.prog 29 #[.agg #[.bool t.dir, .string ⟨t.data.toArray⟩, kv], .slice an (splitL xp).length cn, .agg #[.bool true, .string ⟨([] : List UInt8).toArray⟩, .slice none 0 0]] w
                    (Ret fun v w' => ∃ m' kv', v = .tuple #[.agg #[.bool (Tr.withT (splitL xp) true ([] : List UInt8) t).2.dir, .string ⟨(Tr.withT (splitL xp) true ([] : List UInt8) t).2.data.toArray⟩, kv'], .int .i64 (Tr.withT (splitL xp) true ([] : List UInt8) t).1] ∧ Ent (A :: B :: C :: D :: (m' ++ (m ++ l))) w' ∧ KidsAt (m' ++ (m ++ l)) kv' (Tr.withT (splitL xp) true ([] : List UInt8) t).2.kids) from
                fun A B C D w an cn h3 h1 h2 => with_any (splitL xp) (by have := (splitL_names xp).1; omega) true ([] : List UInt8) Hxb.out t 6 hG.2.1 kv [A, B, C, D] (m ++ l) an cn w hkv h1 h2 h3)
              have hadd : addT t ⟨xp, true, ([] : List UInt8)⟩ = Tr.withT (splitL xp) true ([] : List UInt8) t := by rw [addT]; simp only [Hse.out]; rw [if_neg (by simp), if_neg (by simp)]
              have HT := SL.hid (show ((Tr.withT (splitL xp) true ([] : List UInt8) t).1 = 0 → buildT es = goT (Tr.withT (splitL xp) true ([] : List UInt8) t).2 (es.drop (k + 1))) ∧ (¬ (Tr.withT (splitL xp) true ([] : List UInt8) t).1 = 0 → buildT es = ((Tr.withT (splitL xp) true ([] : List UInt8) t).1, .zero)) from by
                rw [hB, goT, hadd]
                exact ⟨fun h => if_pos h, fun h => if_neg h⟩)
              have HG := SL.hid (show (Tr.withT (splitL xp) true ([] : List UInt8) t).1 = 0 → Good (Tr.withT (splitL xp) true ([] : List UInt8) t).2 (es.take (k + 1)) from fun h => by
                have := add_good hG (x := ⟨xp, true, ([] : List UInt8)⟩) (by rw [hadd]; exact h)
                rw [hadd, ← htk] at this
                exact this)
              clear hadd hB hG hkv
              try clear hx0
              try clear hxb
              generalize hres : Tr.withT (splitL xp) true ([] : List UInt8) t = res at *
              clear hres
              generalize splitL xp = ns at *
              obtain ⟨er, kd⟩ := res
              simp only at HW HT HG
              cases her : (er == 0) with
              | true =>
                obtain rfl : er = 0 := by simpa using her
                clear her
                as_aux_lemma =>
                go_wp2_with (first
                  | go_skip
                  | ((with_reducible (show Go.wpList _ _ _ (Go.Oper.mk _ (.load 41 _) _ _ _ _ :: _) _ _)); refine wpl_loadC rfl rfl rfl Tryd.isAgg41 Tryd.sizeOf41 (enC ⟨xp, true, ([] : List UInt8)⟩) rfl (fun j v hv => by rw [Addr.add_lit]; exact hL.out _ (hE.suf (by repeat (first | exact List.suffix_refl _ | refine List.IsSuffix.trans ?_ (List.suffix_cons _ _)))) j v hv) ?_)
                  | ((with_reducible (show Go.wpList _ _ _ (Go.Oper.mk _ (.alloc 41) _ _ _ _ :: _) _ _)); refine wpl_allocN hE rfl rfl (n := 3) (by kernel_rfl) ?_; clear hE; intro b6 cs w1 hq hE)
                  | ((with_reducible (show Go.wpList _ _ _ (Go.Oper.mk _ (.store 41 _ _) _ _ _ _ :: _) _ _)); refine wpl_storeN hE 0 rfl rfl rfl rfl (xs := enC ⟨xp, true, ([] : List UInt8)⟩) rfl Tryd.sizeOf41 rfl (by simp [enC, Value.oneCell']) hq ?_; clear hE hq; intro w2 hE; simp only [List.set_cons_zero] at hE; replace hE : Ent (pt b6 (.cells #[.string ⟨xp.toArray⟩, .bool true, .string ⟨([] : List UInt8).toArray⟩] 41) :: pt b4 (.cells #[.bool t.dir, .string ⟨t.data.toArray⟩, kv] 28) :: pt b2 (.cells #[.bool false, .string ⟨#[]⟩, .slice none 0 0] 28) :: (m ++ l)) w2 := hE)
                  | (go_at_call 28; refine (HS.out _ _ hE).mono ?_; clear hE; rintro e w3 ⟨v, rfl, an, cn, rfl, hE⟩)
                  | ((with_reducible (show Go.wpList _ _ _ (Go.Oper.mk _ (.load 28 _) _ _ _ _ :: _) _ _)); refine wpl_loadW (xs := [.bool t.dir, .string ⟨t.data.toArray⟩, kv]) hE 2 rfl rfl rfl rfl Tryd.isAgg28 Tryd.sizeOf28 rfl ?_)
                  | ((with_reducible (show Go.wpList _ _ _ (Go.Oper.mk _ (.load _ _) _ _ _ _ :: _) _ _)); (first | (refine wpl_load1 hE 0 rfl rfl rfl rfl (by simp [go_sem]) rfl ?_) | (refine wpl_load1 hE 1 rfl rfl rfl rfl (by simp [go_sem]) rfl ?_) | (refine wpl_load1 hE 2 rfl rfl rfl rfl (by simp [go_sem]) rfl ?_) | (refine wpl_load1 hE 3 rfl rfl rfl rfl (by simp [go_sem]) rfl ?_) | (refine wpl_load1 hE 4 rfl rfl rfl rfl (by simp [go_sem]) rfl ?_) | (refine wpl_load1 hE 5 rfl rfl rfl rfl (by simp [go_sem]) rfl ?_) | (refine wpl_load1 hE 6 rfl rfl rfl rfl (by simp [go_sem]) rfl ?_) | (refine wpl_load1 hE 7 rfl rfl rfl rfl (by simp [go_sem]) rfl ?_)))
                  | (go_at_call 29; have H := HW.out _ _ _ _ _ an cn hE (row_cap hE 0 rfl) (fun w h => reads_row h 0 rfl); refine H.mono ?_; clear H hE; rintro e w7 ⟨v, rfl, m', kv', rfl, hE, hKA⟩)
                  | ((with_reducible (show Go.wpList _ _ _ (Go.Oper.mk _ (.store 28 (.tmp 4) _) _ _ _ _ :: _) _ _)); refine wpl_storeW hE 2 rfl rfl rfl (xs := [.bool kd.dir, .string ⟨kd.data.toArray⟩, kv']) rfl rfl Tryd.sizeOf28 rfl (by obtain ⟨a1, a2, rfl⟩ := hKA.slice; simp [Value.oneCell']) rfl ?_; clear hE; intro w8 hE; simp only [List.set_cons_zero, List.set_cons_succ] at hE)
                  | ((with_reducible (show Go.wpList _ _ _ (Go.Oper.mk _ (.store 28 (.tmp 2) _) _ _ _ _ :: _) _ _)); refine wpl_storeW hE 3 rfl rfl rfl (xs := [.bool false, .string ⟨#[]⟩, .slice none 0 0]) rfl rfl Tryd.sizeOf28 rfl (by simp [Value.oneCell']) rfl ?_; clear hE; intro w8 hE; simp only [List.set_cons_zero, List.set_cons_succ] at hE))
                go_roundw
                case rel => exact ⟨k + 1, kd, m' ++ m, kv', hlt, by simp, HT.out.1 (by trivial), HG.out (by trivial), by rw [List.append_assoc]; exact hKA, by rw [List.append_assoc]; exact hE.tail.tail⟩
                case measure => simp [intOf]; omega
              | false =>
                have hne : ¬ er = 0 := by simpa using her
                have hne2 : (er != 0) = true := by simp [bne, her]
                have HT2 := SL.hid (HT.out.2 hne)
                clear hne
                as_aux_lemma =>
                go_wp2_with (first
                  | go_skip
                  | ((with_reducible (show Go.wpList _ _ _ (Go.Oper.mk _ (.load 41 _) _ _ _ _ :: _) _ _)); refine wpl_loadC rfl rfl rfl Tryd.isAgg41 Tryd.sizeOf41 (enC ⟨xp, true, ([] : List UInt8)⟩) rfl (fun j v hv => by rw [Addr.add_lit]; exact hL.out _ (hE.suf (by repeat (first | exact List.suffix_refl _ | refine List.IsSuffix.trans ?_ (List.suffix_cons _ _)))) j v hv) ?_)
                  | ((with_reducible (show Go.wpList _ _ _ (Go.Oper.mk _ (.alloc 41) _ _ _ _ :: _) _ _)); refine wpl_allocN hE rfl rfl (n := 3) (by kernel_rfl) ?_; clear hE; intro b6 cs w1 hq hE)
                  | ((with_reducible (show Go.wpList _ _ _ (Go.Oper.mk _ (.store 41 _ _) _ _ _ _ :: _) _ _)); refine wpl_storeN hE 0 rfl rfl rfl rfl (xs := enC ⟨xp, true, ([] : List UInt8)⟩) rfl Tryd.sizeOf41 rfl (by simp [enC, Value.oneCell']) hq ?_; clear hE hq; intro w2 hE; simp only [List.set_cons_zero] at hE; replace hE : Ent (pt b6 (.cells #[.string ⟨xp.toArray⟩, .bool true, .string ⟨([] : List UInt8).toArray⟩] 41) :: pt b4 (.cells #[.bool t.dir, .string ⟨t.data.toArray⟩, kv] 28) :: pt b2 (.cells #[.bool false, .string ⟨#[]⟩, .slice none 0 0] 28) :: (m ++ l)) w2 := hE)
                  | (go_at_call 28; refine (HS.out _ _ hE).mono ?_; clear hE; rintro e w3 ⟨v, rfl, an, cn, rfl, hE⟩)
                  | ((with_reducible (show Go.wpList _ _ _ (Go.Oper.mk _ (.load 28 _) _ _ _ _ :: _) _ _)); refine wpl_loadW (xs := [.bool t.dir, .string ⟨t.data.toArray⟩, kv]) hE 2 rfl rfl rfl rfl Tryd.isAgg28 Tryd.sizeOf28 rfl ?_)
                  | ((with_reducible (show Go.wpList _ _ _ (Go.Oper.mk _ (.load _ _) _ _ _ _ :: _) _ _)); (first | (refine wpl_load1 hE 0 rfl rfl rfl rfl (by simp [go_sem]) rfl ?_) | (refine wpl_load1 hE 1 rfl rfl rfl rfl (by simp [go_sem]) rfl ?_) | (refine wpl_load1 hE 2 rfl rfl rfl rfl (by simp [go_sem]) rfl ?_) | (refine wpl_load1 hE 3 rfl rfl rfl rfl (by simp [go_sem]) rfl ?_) | (refine wpl_load1 hE 4 rfl rfl rfl rfl (by simp [go_sem]) rfl ?_) | (refine wpl_load1 hE 5 rfl rfl rfl rfl (by simp [go_sem]) rfl ?_) | (refine wpl_load1 hE 6 rfl rfl rfl rfl (by simp [go_sem]) rfl ?_) | (refine wpl_load1 hE 7 rfl rfl rfl rfl (by simp [go_sem]) rfl ?_)))
                  | (go_at_call 29; have H := HW.out _ _ _ _ _ an cn hE (row_cap hE 0 rfl) (fun w h => reads_row h 0 rfl); refine H.mono ?_; clear H hE; rintro e w7 ⟨v, rfl, m', kv', rfl, hE, hKA⟩)
                  | ((with_reducible (show Go.wpList _ _ _ (Go.Oper.mk _ (.store 28 (.tmp 4) _) _ _ _ _ :: _) _ _)); refine wpl_storeW hE 2 rfl rfl rfl (xs := [.bool kd.dir, .string ⟨kd.data.toArray⟩, kv']) rfl rfl Tryd.sizeOf28 rfl (by obtain ⟨a1, a2, rfl⟩ := hKA.slice; simp [Value.oneCell']) rfl ?_; clear hE; intro w8 hE; simp only [List.set_cons_zero, List.set_cons_succ] at hE)
                  | ((with_reducible (show Go.wpList _ _ _ (Go.Oper.mk _ (.store 28 (.tmp 2) _) _ _ _ _ :: _) _ _)); refine wpl_storeW hE 3 rfl rfl rfl (xs := [.bool false, .string ⟨#[]⟩, .slice none 0 0]) rfl rfl Tryd.sizeOf28 rfl (by simp [Value.oneCell']) rfl ?_; clear hE; intro w8 hE; simp only [List.set_cons_zero, List.set_cons_succ] at hE))
                refine bodyPost_ret (results_cell2 rfl hE 3 rfl rfl Tryd.isAgg28 Tryd.sizeOf28 rfl rfl) rfl ?_
                rw [HT2.out]
                exact ⟨_, rfl, m' ++ m, .slice none 0 0, rfl, by rw [List.append_assoc]; exact hE.tail.tail.tail.tail, KidsAt.nil _⟩
          | false =>
            cases hxb : (xb == [])
            all_goals
              rw [hxb] at hmb hmb2
              have HW := SL.hid (show ∀ (A B C D : HProp) (w : World) (an : Option Addr) (cn : Nat), Ent (A :: B :: C :: D :: (m ++ l)) w → (splitL xp).length ≤ cn → Knows (A :: B :: C :: D :: (m ++ l)) (reads (.slice an (splitL xp).length cn) (splitL xp).length ((splitL xp).map strv)) →
                  Calls Tryd.prog 29 #[.agg #[.bool t.dir, .string ⟨t.data.toArray⟩, kv], .slice an (splitL xp).length cn, .agg #[.bool false, .string ⟨xb.toArray⟩, .slice none 0 0]] w
                    (Ret fun v w' => ∃ m' kv', v = .tuple #[.agg #[.bool (Tr.withT (splitL xp) false xb t).2.dir, .string ⟨(Tr.withT (splitL xp) false xb t).2.data.toArray⟩, kv'], .int .i64 (Tr.withT (splitL xp) false xb t).1] ∧ Ent (A :: B :: C :: D :: (m' ++ (m ++ l))) w' ∧ KidsAt (m' ++ (m ++ l)) kv' (Tr.withT (splitL xp) false xb t).2.kids) from
                fun A B C D w an cn h3 h1 h2 => with_any (splitL xp) (by have := (splitL_names xp).1; omega) false xb Hxb.out t 6 hG.2.1 kv [A, B, C, D] (m ++ l) an cn w hkv h1 h2 h3)
              have hadd : addT t ⟨xp, false, xb⟩ = Tr.withT (splitL xp) false xb t := by rw [addT]; simp only [Hse.out]; rw [if_neg (by simp), if_neg (by simp)]
              have HT := SL.hid (show ((Tr.withT (splitL xp) false xb t).1 = 0 → buildT es = goT (Tr.withT (splitL xp) false xb t).2 (es.drop (k + 1))) ∧ (¬ (Tr.withT (splitL xp) false xb t).1 = 0 → buildT es = ((Tr.withT (splitL xp) false xb t).1, .zero)) from by
                rw [hB, goT, hadd]
                exact ⟨fun h => if_pos h, fun h => if_neg h⟩)
              have HG := SL.hid (show (Tr.withT (splitL xp) false xb t).1 = 0 → Good (Tr.withT (splitL xp) false xb t).2 (es.take (k + 1)) from fun h => by
                have := add_good hG (x := ⟨xp, false, xb⟩) (by rw [hadd]; exact h)
                rw [hadd, ← htk] at this
                exact this)
              clear hadd hB hG hkv
              try clear hx0
              try clear hxb
              generalize hres : Tr.withT (splitL xp) false xb t = res at *
              clear hres
              generalize splitL xp = ns at *
              obtain ⟨er, kd⟩ := res
              simp only at HW HT HG
              cases her : (er == 0) with
              | true =>
                obtain rfl : er = 0 := by simpa using her
                clear her
                as_aux_lemma =>
                go_wp2_with (first
                  | go_skip
                  | ((with_reducible (show Go.wpList _ _ _ (Go.Oper.mk _ (.load 41 _) _ _ _ _ :: _) _ _)); refine wpl_loadC rfl rfl rfl Tryd.isAgg41 Tryd.sizeOf41 (enC ⟨xp, false, xb⟩) rfl (fun j v hv => by rw [Addr.add_lit]; exact hL.out _ (hE.suf (by repeat (first | exact List.suffix_refl _ | refine List.IsSuffix.trans ?_ (List.suffix_cons _ _)))) j v hv) ?_)
                  | ((with_reducible (show Go.wpList _ _ _ (Go.Oper.mk _ (.alloc 41) _ _ _ _ :: _) _ _)); refine wpl_allocN hE rfl rfl (n := 3) (by kernel_rfl) ?_; clear hE; intro b6 cs w1 hq hE)
                  | ((with_reducible (show Go.wpList _ _ _ (Go.Oper.mk _ (.store 41 _ _) _ _ _ _ :: _) _ _)); refine wpl_storeN hE 0 rfl rfl rfl rfl (xs := enC ⟨xp, false, xb⟩) rfl Tryd.sizeOf41 rfl (by simp [enC, Value.oneCell']) hq ?_; clear hE hq; intro w2 hE; simp only [List.set_cons_zero] at hE; replace hE : Ent (pt b6 (.cells #[.string ⟨xp.toArray⟩, .bool false, .string ⟨xb.toArray⟩] 41) :: pt b4 (.cells #[.bool t.dir, .string ⟨t.data.toArray⟩, kv] 28) :: pt b2 (.cells #[.bool false, .string ⟨#[]⟩, .slice none 0 0] 28) :: (m ++ l)) w2 := hE)
                  | (go_at_call 28; refine (HS.out _ _ hE).mono ?_; clear hE; rintro e w3 ⟨v, rfl, an, cn, rfl, hE⟩)
                  | ((with_reducible (show Go.wpList _ _ _ (Go.Oper.mk _ (.load 28 _) _ _ _ _ :: _) _ _)); refine wpl_loadW (xs := [.bool t.dir, .string ⟨t.data.toArray⟩, kv]) hE 2 rfl rfl rfl rfl Tryd.isAgg28 Tryd.sizeOf28 rfl ?_)
                  | ((with_reducible (show Go.wpList _ _ _ (Go.Oper.mk _ (.load _ _) _ _ _ _ :: _) _ _)); (first | (refine wpl_load1 hE 0 rfl rfl rfl rfl (by simp [go_sem]) rfl ?_) | (refine wpl_load1 hE 1 rfl rfl rfl rfl (by simp [go_sem]) rfl ?_) | (refine wpl_load1 hE 2 rfl rfl rfl rfl (by simp [go_sem]) rfl ?_) | (refine wpl_load1 hE 3 rfl rfl rfl rfl (by simp [go_sem]) rfl ?_) | (refine wpl_load1 hE 4 rfl rfl rfl rfl (by simp [go_sem]) rfl ?_) | (refine wpl_load1 hE 5 rfl rfl rfl rfl (by simp [go_sem]) rfl ?_) | (refine wpl_load1 hE 6 rfl rfl rfl rfl (by simp [go_sem]) rfl ?_) | (refine wpl_load1 hE 7 rfl rfl rfl rfl (by simp [go_sem]) rfl ?_)))
                  | (go_at_call 29; have H := HW.out _ _ _ _ _ an cn hE (row_cap hE 0 rfl) (fun w h => reads_row h 0 rfl); refine H.mono ?_; clear H hE; rintro e w7 ⟨v, rfl, m', kv', rfl, hE, hKA⟩)
                  | ((with_reducible (show Go.wpList _ _ _ (Go.Oper.mk _ (.store 28 (.tmp 4) _) _ _ _ _ :: _) _ _)); refine wpl_storeW hE 2 rfl rfl rfl (xs := [.bool kd.dir, .string ⟨kd.data.toArray⟩, kv']) rfl rfl Tryd.sizeOf28 rfl (by obtain ⟨a1, a2, rfl⟩ := hKA.slice; simp [Value.oneCell']) rfl ?_; clear hE; intro w8 hE; simp only [List.set_cons_zero, List.set_cons_succ] at hE)
                  | ((with_reducible (show Go.wpList _ _ _ (Go.Oper.mk _ (.store 28 (.tmp 2) _) _ _ _ _ :: _) _ _)); refine wpl_storeW hE 3 rfl rfl rfl (xs := [.bool false, .string ⟨#[]⟩, .slice none 0 0]) rfl rfl Tryd.sizeOf28 rfl (by simp [Value.oneCell']) rfl ?_; clear hE; intro w8 hE; simp only [List.set_cons_zero, List.set_cons_succ] at hE))
                go_roundw
                case rel => exact ⟨k + 1, kd, m' ++ m, kv', hlt, by simp, HT.out.1 (by trivial), HG.out (by trivial), by rw [List.append_assoc]; exact hKA, by rw [List.append_assoc]; exact hE.tail.tail⟩
                case measure => simp [intOf]; omega
              | false =>
                have hne : ¬ er = 0 := by simpa using her
                have hne2 : (er != 0) = true := by simp [bne, her]
                have HT2 := SL.hid (HT.out.2 hne)
                clear hne
                as_aux_lemma =>
                go_wp2_with (first
                  | go_skip
                  | ((with_reducible (show Go.wpList _ _ _ (Go.Oper.mk _ (.load 41 _) _ _ _ _ :: _) _ _)); refine wpl_loadC rfl rfl rfl Tryd.isAgg41 Tryd.sizeOf41 (enC ⟨xp, false, xb⟩) rfl (fun j v hv => by rw [Addr.add_lit]; exact hL.out _ (hE.suf (by repeat (first | exact List.suffix_refl _ | refine List.IsSuffix.trans ?_ (List.suffix_cons _ _)))) j v hv) ?_)
                  | ((with_reducible (show Go.wpList _ _ _ (Go.Oper.mk _ (.alloc 41) _ _ _ _ :: _) _ _)); refine wpl_allocN hE rfl rfl (n := 3) (by kernel_rfl) ?_; clear hE; intro b6 cs w1 hq hE)
                  | ((with_reducible (show Go.wpList _ _ _ (Go.Oper.mk _ (.store 41 _ _) _ _ _ _ :: _) _ _)); refine wpl_storeN hE 0 rfl rfl rfl rfl (xs := enC ⟨xp, false, xb⟩) rfl Tryd.sizeOf41 rfl (by simp [enC, Value.oneCell']) hq ?_; clear hE hq; intro w2 hE; simp only [List.set_cons_zero] at hE; replace hE : Ent (pt b6 (.cells #[.string ⟨xp.toArray⟩, .bool false, .string ⟨xb.toArray⟩] 41) :: pt b4 (.cells #[.bool t.dir, .string ⟨t.data.toArray⟩, kv] 28) :: pt b2 (.cells #[.bool false, .string ⟨#[]⟩, .slice none 0 0] 28) :: (m ++ l)) w2 := hE)
                  | (go_at_call 28; refine (HS.out _ _ hE).mono ?_; clear hE; rintro e w3 ⟨v, rfl, an, cn, rfl, hE⟩)
                  | ((with_reducible (show Go.wpList _ _ _ (Go.Oper.mk _ (.load 28 _) _ _ _ _ :: _) _ _)); refine wpl_loadW (xs := [.bool t.dir, .string ⟨t.data.toArray⟩, kv]) hE 2 rfl rfl rfl rfl Tryd.isAgg28 Tryd.sizeOf28 rfl ?_)
                  | ((with_reducible (show Go.wpList _ _ _ (Go.Oper.mk _ (.load _ _) _ _ _ _ :: _) _ _)); (first | (refine wpl_load1 hE 0 rfl rfl rfl rfl (by simp [go_sem]) rfl ?_) | (refine wpl_load1 hE 1 rfl rfl rfl rfl (by simp [go_sem]) rfl ?_) | (refine wpl_load1 hE 2 rfl rfl rfl rfl (by simp [go_sem]) rfl ?_) | (refine wpl_load1 hE 3 rfl rfl rfl rfl (by simp [go_sem]) rfl ?_) | (refine wpl_load1 hE 4 rfl rfl rfl rfl (by simp [go_sem]) rfl ?_) | (refine wpl_load1 hE 5 rfl rfl rfl rfl (by simp [go_sem]) rfl ?_) | (refine wpl_load1 hE 6 rfl rfl rfl rfl (by simp [go_sem]) rfl ?_) | (refine wpl_load1 hE 7 rfl rfl rfl rfl (by simp [go_sem]) rfl ?_)))
                  | (go_at_call 29; have H := HW.out _ _ _ _ _ an cn hE (row_cap hE 0 rfl) (fun w h => reads_row h 0 rfl); refine H.mono ?_; clear H hE; rintro e w7 ⟨v, rfl, m', kv', rfl, hE, hKA⟩)
                  | ((with_reducible (show Go.wpList _ _ _ (Go.Oper.mk _ (.store 28 (.tmp 4) _) _ _ _ _ :: _) _ _)); refine wpl_storeW hE 2 rfl rfl rfl (xs := [.bool kd.dir, .string ⟨kd.data.toArray⟩, kv']) rfl rfl Tryd.sizeOf28 rfl (by obtain ⟨a1, a2, rfl⟩ := hKA.slice; simp [Value.oneCell']) rfl ?_; clear hE; intro w8 hE; simp only [List.set_cons_zero, List.set_cons_succ] at hE)
                  | ((with_reducible (show Go.wpList _ _ _ (Go.Oper.mk _ (.store 28 (.tmp 2) _) _ _ _ _ :: _) _ _)); refine wpl_storeW hE 3 rfl rfl rfl (xs := [.bool false, .string ⟨#[]⟩, .slice none 0 0]) rfl rfl Tryd.sizeOf28 rfl (by simp [Value.oneCell']) rfl ?_; clear hE; intro w8 hE; simp only [List.set_cons_zero, List.set_cons_succ] at hE))
                refine bodyPost_ret (results_cell2 rfl hE 3 rfl rfl Tryd.isAgg28 Tryd.sizeOf28 rfl rfl) rfl ?_
                rw [HT2.out]
                exact ⟨_, rfl, m' ++ m, .slice none 0 0, rfl, by rw [List.append_assoc]; exact hE.tail.tail.tail.tail, KidsAt.nil _⟩
        · have HT := SL.hid (show buildT es = (splitE xp, .zero) from by
            rw [hB, goT, addT]
            simp only
            rw [if_pos hse]
            rw [if_neg hse])
          have h1 : (splitE xp == 0) = false := by simpa using hse
          have h2 : (splitE xp != 0) = true := by simpa using hse
          generalize splitE xp = se at *
          as_aux_lemma =>
          go_wp2_with (first
            | go_skip
            | ((with_reducible (show Go.wpList _ _ _ (Go.Oper.mk _ (.load 41 _) _ _ _ _ :: _) _ _)); refine wpl_loadC rfl rfl rfl Tryd.isAgg41 Tryd.sizeOf41 (enC ⟨xp, xd, xb⟩) rfl (fun j v hv => by rw [Addr.add_lit]; exact hL.out _ (hE.suf (by repeat (first | exact List.suffix_refl _ | refine List.IsSuffix.trans ?_ (List.suffix_cons _ _)))) j v hv) ?_)
            | ((with_reducible (show Go.wpList _ _ _ (Go.Oper.mk _ (.alloc 41) _ _ _ _ :: _) _ _)); refine wpl_allocN hE rfl rfl (n := 3) (by kernel_rfl) ?_; clear hE; intro b6 cs w1 hq hE)
            | ((with_reducible (show Go.wpList _ _ _ (Go.Oper.mk _ (.store 41 _ _) _ _ _ _ :: _) _ _)); refine wpl_storeN hE 0 rfl rfl rfl rfl (xs := enC ⟨xp, xd, xb⟩) rfl Tryd.sizeOf41 rfl (by simp [enC, Value.oneCell']) hq ?_; clear hE hq; intro w2 hE; simp only [List.set_cons_zero] at hE; replace hE : Ent (pt b6 (.cells #[.string ⟨xp.toArray⟩, .bool xd, .string ⟨xb.toArray⟩] 41) :: pt b4 (.cells #[.bool t.dir, .string ⟨t.data.toArray⟩, kv] 28) :: pt b2 (.cells #[.bool false, .string ⟨#[]⟩, .slice none 0 0] 28) :: (m ++ l)) w2 := hE)
            | (go_at_call 28; refine (HS.out _ _ hE).mono ?_; clear hE; rintro e w3 ⟨v, rfl, an, cn, rfl, hE⟩)
            | ((with_reducible (show Go.wpList _ _ _ (Go.Oper.mk _ (.load 28 _) _ _ _ _ :: _) _ _)); refine wpl_loadW (xs := [.bool t.dir, .string ⟨t.data.toArray⟩, kv]) hE 2 rfl rfl rfl rfl Tryd.isAgg28 Tryd.sizeOf28 rfl ?_)
            | ((with_reducible (show Go.wpList _ _ _ (Go.Oper.mk _ (.load _ _) _ _ _ _ :: _) _ _)); (first | (refine wpl_load1 hE 0 rfl rfl rfl rfl (by simp [go_sem]) rfl ?_) | (refine wpl_load1 hE 1 rfl rfl rfl rfl (by simp [go_sem]) rfl ?_) | (refine wpl_load1 hE 2 rfl rfl rfl rfl (by simp [go_sem]) rfl ?_) | (refine wpl_load1 hE 3 rfl rfl rfl rfl (by simp [go_sem]) rfl ?_) | (refine wpl_load1 hE 4 rfl rfl rfl rfl (by simp [go_sem]) rfl ?_) | (refine wpl_load1 hE 5 rfl rfl rfl rfl (by simp [go_sem]) rfl ?_) | (refine wpl_load1 hE 6 rfl rfl rfl rfl (by simp [go_sem]) rfl ?_) | (refine wpl_load1 hE 7 rfl rfl rfl rfl (by simp [go_sem]) rfl ?_)))
            | ((with_reducible (show Go.wpList _ _ _ (Go.Oper.mk _ (.store 28 _ _) _ _ _ _ :: _) _ _)); refine wpl_storeW hE 3 rfl rfl rfl (xs := [.bool false, .string ⟨#[]⟩, .slice none 0 0]) rfl rfl Tryd.sizeOf28 rfl (by simp [Value.oneCell']) rfl ?_; clear hE; intro w8 hE; simp only [List.set_cons_zero, List.set_cons_succ] at hE))
          refine bodyPost_ret (results_cell2 rfl hE 3 rfl rfl Tryd.isAgg28 Tryd.sizeOf28 rfl rfl) rfl ?_
          rw [HT.out]
          exact ⟨_, rfl, m, .slice none 0 0, rfl, hE.tail.tail.tail.tail, KidsAt.nil _⟩
      · obtain rfl : k = es.length := by omega
        rw [List.drop_length] at hB
        have HT := SL.hid (show buildT es = (0, t) from hB)
        as_aux_lemma =>
        go_wp2_with (first
          | go_skip
          | ((with_reducible (show Go.wpList _ _ _ (Go.Oper.mk _ (.load 28 _) _ _ _ _ :: _) _ _)); refine wpl_loadW (xs := [.bool t.dir, .string ⟨t.data.toArray⟩, kv]) hE 0 rfl rfl rfl rfl Tryd.isAgg28 Tryd.sizeOf28 rfl ?_)
          | ((with_reducible (show Go.wpList _ _ _ (Go.Oper.mk _ (.store 28 _ _) _ _ _ _ :: _) _ _)); refine wpl_storeW hE 1 rfl rfl rfl (xs := [.bool t.dir, .string ⟨t.data.toArray⟩, kv]) rfl rfl Tryd.sizeOf28 rfl (by obtain ⟨a1, a2, rfl⟩ := hkv.slice; simp [Value.oneCell']) rfl ?_; clear hE; intro w8 hE; simp only [List.set_cons_zero, List.set_cons_succ] at hE))
        refine bodyPost_ret (results_cell2 rfl hE 1 rfl rfl Tryd.isAgg28 Tryd.sizeOf28 rfl rfl) rfl ?_
        rw [HT.out]
        exact ⟨_, rfl, m, kv, rfl, hE.tail.tail, hkv⟩
end Go.Proofs.YtjmllpgmbaoebaaDoor
namespace Go.Proofs
open Go.Shelf
shelf_lay Lays.n137 Nm 137 at Tryd as Tryd.lays137
end Go.Proofs
namespace Go.Proofs.YtjmllpgmbaoebaaDoor
open Go.RowKit Go.SL

theorem dig_idx (c : UInt8) (w : World) :
    Calls Tryd.prog 39 #[.string ⟨#[48, 49, 50, 51, 52, 53, 54, 55, 56, 57, 97, 98, 99, 100, 101, 102]⟩, .int .u8 c.toNat] w fun e w' => e = .returned (.int .i64 (valP c)) ∧ w' = w := by
  have h := Any.strings_IndexByte Tryd.lays137 ⟨#[48, 49, 50, 51, 52, 53, 54, 55, 56, 57, 97, 98, 99, 100, 101, 102]⟩ (c.toNat : Int) w
  rw [Int.toNat_natCast, show c.toNat.toUInt8 = c from UInt8.ofNat_toNat] at h
  exact h
set_option maxRecDepth 100000 in
theorem or16 : ∀ a b : Fin 16, IntKind.u8.wrap (bits .or .i64 (IntKind.i64.wrap (((a.val : Nat) : Int) * 16)) ((b.val : Nat) : Int)) = ((a.val * 16 + b.val : Nat) : Int) := by decide
theorem or_hx {v1 v2 : Int} (h1 : v1 < 16) (h2 : v2 < 16) : IntKind.u8.wrap (bits .or .i64 (IntKind.i64.wrap (max 0 v1 * 16)) (max 0 v2)) = (((max 0 v1).toNat * 16 + (max 0 v2).toNat : Nat) : Int) := by
  have g1 : max 0 v1 = (((max 0 v1).toNat : Nat) : Int) := by omega
  have g2 : max 0 v2 = (((max 0 v2).toNat : Nat) : Int) := by omega
  have := or16 ⟨(max 0 v1).toNat, by omega⟩ ⟨(max 0 v2).toNat, by omega⟩
  simp only at this
  rw [← g1, ← g2] at this
  exact this
/-- what a reader of quoted data answers -/
def unqV (o : Option (List UInt8)) : Value := .tuple #[.string ⟨(o.getD []).toArray⟩, .bool o.isSome]
def strLen : Value → Nat
  | .string s => s.size
  | _ => 0
def UnRel (s : List UInt8) (l : List HProp) (o r : Value) (wr : World) : Prop :=
  ∃ (n : Nat) (t out : List UInt8) (ao : Option Addr) (c : Nat), o = .slice ao out.length c ∧ r = .string ⟨t.toArray⟩ ∧ dec s.length (inner s) = (dec n t).map (out ++ ·) ∧ t.length ≤ n ∧ out.length + t.length ≤ s.length ∧ Ent (rowB ao c out :: l) wr
theorem un_next {s t out : List UInt8} {n : Nat} (h : dec s.length (inner s) = (dec n t).map (out ++ ·)) (hn : t.length ≤ n) (h0 : t ≠ []) {b : UInt8} {k : Nat} (hk : 1 ≤ k) (hs : dstep t = some (b, k)) :
    ∃ m, dec s.length (inner s) = (dec m (t.drop k)).map ((out ++ [b]) ++ ·) ∧ (t.drop k).length ≤ m := by
  have h1 : 0 < t.length := List.length_pos_iff.2 h0
  obtain ⟨m, rfl⟩ : ∃ m, n = m + 1 := ⟨n - 1, by omega⟩
  refine ⟨m, ?_, by rw [List.length_drop]; omega⟩
  rw [h, dec, if_neg h0, hs]
  simp only [Option.map_map]
  congr 1
  funext x
  simp
theorem un_fail {s t out : List UInt8} {n : Nat} (h : dec s.length (inner s) = (dec n t).map (out ++ ·)) (hn : t.length ≤ n) (h0 : t ≠ []) (hs : dstep t = none) : unq s = none := by
  have h1 : 0 < t.length := List.length_pos_iff.2 h0
  obtain ⟨m, rfl⟩ : ∃ m, n = m + 1 := ⟨n - 1, by omega⟩
  rw [dec, if_neg h0, hs] at h
  rw [unq, h]
  simp
theorem un_end {s out : List UInt8} {n : Nat} (h2 : ¬ s.length < 2) (h : dec s.length (inner s) = (dec n []).map (out ++ ·)) : unq s = if quoteP out = s then some out else none := by
  have : dec n [] = some [] := by cases n <;> rfl
  rw [unq, if_neg h2, h, this]
  simp
set_option maxRecDepth 100000 in
set_option maxHeartbeats 8000000 in
theorem Unquote_any {s : List UInt8} (hs : s.length ≤ 100000000) {l : List HProp} {w : World} (hE : Ent l w) :
    Calls Tryd.prog 21 #[.string ⟨s.toArray⟩] w (Ret fun v w' => v = unqV (unq s) ∧ Ent l w') := by
  cases h2 : decide ((s.length : Int) < 2) with
  | true =>
    have R := SL.hid (show unq s = none by rw [unq, if_pos (by have := of_decide_eq_true h2; omega)])
    go_enter Tryd.func21, Tryd.ntmps21
    go_wp2
    go_ret2
    exact ⟨_, rfl, by rw [R.out]; rfl, hE⟩
  | false =>
    have hs2 : 2 ≤ s.length := by have := of_decide_eq_false h2; omega
    have hw1 : wrap64 ((s.length : Int) - 1) = ((s.length - 1 : Nat) : Int) := by unfold wrap64; omega
    have hwi : IntKind.i64.wrap ((s.length : Int) - 1) = ((s.length - 1 : Nat) : Int) := by
      simp only [IntKind.wrap, IntKind.bits, IntKind.signed]
      simp
      omega
    have hex0 : (⟨s.toArray⟩ : ByteArray).extract 1 (s.length - 1) = ⟨(inner s).toArray⟩ := by
      rw [extract_mk, inner, show s.length - 1 - 1 = s.length - 2 by omega]
    have hle1 : (1 : Int) ≤ ((s.length - 1 : Nat) : Int) := by omega
    have hle2 : ((s.length - 1 : Nat) : Int) ≤ (s.length : Int) := by omega
    have hil : (inner s).length ≤ s.length := by simp [inner]; omega
    go_enter Tryd.func21, Tryd.ntmps21
    go_wp2
    go_loopw [4, 5] (fun o r wr => UnRel s l o r wr) (fun _ r _ => strLen r)
    case atStart => exact ⟨s.length, inner s, [], none, 0, rfl, rfl, by cases dec s.length (inner s) <;> simp, hil, by simpa using hil, hE.nil _ _⟩
    case round =>
      clear hE hw1 hwi hex0 hle1 hle2 hil
      obtain ⟨n, t, out, ao, c, rfl, rfl, hdec, hn, hlen, hE⟩ := hrel
      have Hs2 := SL.hid hs2
      clear h2 hs2
      have hol : out.length ≤ 100000000 := by omega
      have htl : t.length ≤ 100000000 := by omega
      by_cases h0 : t = []
      · subst h0
        have Hend := SL.hid (un_end (by have := Hs2.out; omega) hdec)
        clear hdec
        have hq9 := SL.hid (show quoteP out = s ↔ (quoteP out == s) = true from by simp)
        have HQ := SL.hid (fun (w : World) (h : Ent (rowB ao c out :: l) w) => Quote_any (s := out) (by omega) h)
        cases heq : (quoteP out == s) with
        | true =>
          have R := SL.hid (show unq s = some out by rw [Hend.out, if_pos (hq9.out.2 heq)])
          go_wp2_with (first
            | go_skip
            | (go_at_call 23; refine (HQ.out _ hE).mono ?_; clear hE; rintro e w3 ⟨v, rfl, rfl, hE⟩)
            | ((with_reducible (show Go.wpList _ _ _ (Go.Oper.mk _ (.convert _ _ _) _ _ _ _ :: _) _ _)); refine wpl_bytesStr (bs := out) rfl rfl rfl Tryd.underlying75 Tryd.underlying5 Tryd.underlying9 (reads_row hE 0 rfl) rfl ?_))
          go_ret2
          exact ⟨_, rfl, by rw [R.out]; rfl, hE.tail⟩
        | false =>
          have R := SL.hid (show unq s = none by rw [Hend.out, if_neg (fun h => by rw [hq9.out.1 h] at heq; cases heq)])
          go_wp2_with (first
            | go_skip
            | (go_at_call 23; refine (HQ.out _ hE).mono ?_; clear hE; rintro e w3 ⟨v, rfl, rfl, hE⟩)
            | ((with_reducible (show Go.wpList _ _ _ (Go.Oper.mk _ (.convert _ _ _) _ _ _ _ :: _) _ _)); refine wpl_bytesStr (bs := out) rfl rfl rfl Tryd.underlying75 Tryd.underlying5 Tryd.underlying9 (reads_row hE 0 rfl) rfl ?_))
          go_ret2
          exact ⟨_, rfl, by rw [R.out]; rfl, hE.tail⟩
      · have Hfail := SL.hid (un_fail hdec hn h0)
        have Hnext := SL.hid (fun (b : UInt8) (k : Nat) (hk : 1 ≤ k) => un_next hdec hn h0 (b := b) hk)
        have hpos : 0 < t.length := List.length_pos_iff.2 h0
        have hposi : (0 : Int) < (t.length : Int) := by omega
        have Hlen := SL.hid hlen
        have hix0 := str_at t 0 (by rw [bytes_size]; exact hpos)
        have Hstep := SL.hid (show dstep t = (if t.getD 0 0 ≠ 92 then some (t.getD 0 0, 1) else if 4 ≤ t.length ∧ t.getD 1 0 = 120 then some (hx (t.getD 2 0) (t.getD 3 0), 4) else if 2 ≤ t.length then some (t.getD 1 0, 2) else none) from rfl)
        clear hdec hn hlen h0
        cases h1 : (((t.getD 0 0).toNat : Int) != 92) with
        | true =>
          have hx1 : t.getD 0 0 ≠ 92 := by intro e; rw [e] at h1; exact absurd h1 (by decide)
          obtain ⟨m, hm1, hm2⟩ := Hnext.out (t.getD 0 0) 1 (by omega) (by rw [Hstep.out, if_pos hx1])
          have hex : (⟨t.toArray⟩ : ByteArray).extract 1 t.length = ⟨(t.drop 1).toArray⟩ := by rw [extract_mk, List.take_of_length_le (by simp)]
          have hl2 := SL.hid (List.length_drop (i := 1) (l := t))
          generalize t.drop 1 = t2 at *
          have h1l : (1 : Int) ≤ (t.length : Int) := by omega
          have Hm := SL.hid (And.intro hm1 hm2)
          clear hx1 hm1 hm2 Hnext Hstep Hfail
          generalize t.getD 0 0 = x at *
          go_wp2
          refine wp_region_held_drew (S := fun _ => True) (by kernel_rfl) trivial (fun hS => ?_)
          refine takeW 0 ⟨some 23, .move (.tmp 4), 75, "manifest.go:40", #[], none⟩ ?_ (.inl ⟨by rfl, ?_⟩) hS ?_
          rotate_left
          · (intro w hSw; (try dsimp only at hSw); go_simp; (try with_reducible rfl))
          try simp only [Act.put, sb, s0, sz]
          refine takeW 1 ⟨some 24, .move (.tmp 5), 9, "manifest.go:40", #[], none⟩ ?_ (.inl ⟨by rfl, ?_⟩) hS ?_
          rotate_left
          · (intro w hSw; (try dsimp only at hSw); go_simp; (try with_reducible rfl))
          try simp only [Act.put, sb, s0, sz]
          refine takeW 2 ⟨some 25, .index 9 (.tmp 24) (.const (.int .i64 0)), 5, "manifest.go:40", #[⟨1, .data⟩], none⟩ ?_ (.inl ⟨by rfl, ?_⟩) hS ?_
          rotate_left
          · (intro w hSw; (try dsimp only at hSw); go_simp; (try with_reducible rfl))
          try simp only [Act.put, sb, s0, sz]
          refine takeW 5 ⟨some 28, .move (.tmp 5), 9, "manifest.go:40", #[], none⟩ ?_ (.inl ⟨by rfl, ?_⟩) hS ?_
          rotate_left
          · (intro w hSw; (try dsimp only at hSw); go_simp; (try with_reducible rfl))
          try simp only [Act.put, sb, s0, sz]
          refine takeW 6 ⟨some 29, .slice 9 (.tmp 28) (some (.const (.int .i64 1))) none none, 9, "manifest.go:40", #[⟨5, .data⟩], none⟩ ?_ (.inl ⟨by rfl, ?_⟩) hS ?_
          rotate_left
          · (intro w hSw; (try dsimp only at hSw); go_simp; (try with_reducible rfl))
          try simp only [Act.put, sb, s0, sz]
          refine wpAnyH_ready (rs := [3]) (by kernel_rfl) (by simp) ?_
          refine (AllReadyH.cons (o := { dst := some 26, op := Go.Op.buildSlice 75 1 #[(0, Go.Operand.tmp 25)], type := 75, pos := "manifest.go:40", after := #[{ on := 2, ground := Go.Ground.data }], guard := none }) rfl (fun K hK => ?_) AllReadyH.nil)
          (go_simp; have hAl := hE.drew.alloc (.cells #[.int .u8 x.toNat] 5))
          refine hK.out _ _ trivial (fun hS => ?_)
          clear hK K
          try simp only [Act.put, sb, s0, sz]
          refine wpAnyH_ready (rs := [4]) (by kernel_rfl) (by simp) ?_
          refine (AllReadyH.cons (o := { dst := some 27, op := Go.Op.call { callee := Go.Callee.builtin Go.Builtin.append, args := #[Go.Operand.tmp 23, Go.Operand.tmp 26], argTypes := #[75, 75] }, type := 75, pos := "manifest.go:40", after := #[{ on := 0, ground := Go.Ground.data }, { on := 3, ground := Go.Ground.data }], guard := none }) rfl (fun K hK => ?_) AllReadyH.nil)
          (refine step_appendG hAl 1 rfl (by rfl) (by rfl) (by rfl) (by rfl) Tryd.underlying75 info_u8 (by decide) (m := 1) (news := [.int .u8 x.toNat]) (reads_pt hAl 0 rfl (off := 0) (fun j u hu => by rw [Nat.zero_add, List.getElem?_toArray]; exact hu)) rfl (by simp [Value.oneCell']) (by omega) (by omega) ?_; intro ao1 c1 w6 hE10; simp only [List.set_cons_zero, List.set_cons_succ] at hE10)
          refine hK.out _ _ trivial (fun hS => ?_)
          clear hK K
          try simp only [Act.put, sb, s0, sz]
          refine takeW 7 ⟨some 4, .assign (.tmp 27), 75, "manifest.go:40", #[⟨4, .data⟩, ⟨4, .chain⟩, ⟨0, .phase⟩, ⟨1, .phase⟩, ⟨2, .phase⟩, ⟨3, .phase⟩, ⟨4, .phase⟩, { on := 5, ground := Go.Ground.textOnly Go.Departure.lateStores }, { on := 6, ground := Go.Ground.textOnly Go.Departure.lateStoresUnsure }], none⟩ ?_ (.inl ⟨by rfl, ?_⟩) hS ?_
          rotate_left
          · (intro w hSw; (try dsimp only at hSw); go_simp; (try with_reducible rfl))
          try simp only [Act.put, sb, s0, sz]
          refine takeW 8 ⟨some 5, .assign (.tmp 29), 9, "manifest.go:40", #[⟨6, .data⟩, ⟨7, .chain⟩, ⟨0, .phase⟩, ⟨1, .phase⟩, ⟨2, .phase⟩, ⟨3, .phase⟩, ⟨4, .phase⟩, ⟨5, .phase⟩, ⟨6, .phase⟩, ⟨7, .phase⟩], none⟩ ?_ (.inl ⟨by rfl, ?_⟩) hS ?_
          rotate_left
          · (intro w hSw; (try dsimp only at hSw); go_simp; (try with_reducible rfl))
          try simp only [Act.put, sb, s0, sz]
          refine wpAnyH_done (by kernel_rfl) ?_ _
          all_goals
            clear hS
            go_wp2
            go_roundw
            case measure => have := hl2.out; have := hpos; show (⟨t2.toArray⟩ : ByteArray).size < (⟨t.toArray⟩ : ByteArray).size; rw [bytes_size, bytes_size]; omega
            case rel => exact ⟨m, t2, out ++ [x], ao1, c1, by simp, rfl, Hm.out.1, Hm.out.2, by have := Hlen.out; have := hl2.out; simp; omega, rowB_app rfl (by simp [bvals, bval]) hE10.tail⟩
        | false =>
          have hx1 : ¬ t.getD 0 0 ≠ 92 := by
            intro e
            apply e
            rw [← UInt8.toNat_inj]
            have : ((t.getD 0 0).toNat : Int) = 92 := by simpa using h1
            show (t.getD 0 0).toNat = 92
            omega
          rw [if_neg hx1] at Hstep
          clear hx1
          generalize t.getD 0 0 = x at *
          cases h4 : decide ((4 : Int) ≤ (t.length : Int)) with
          | true =>
            have ht4 : 4 ≤ t.length := by have := of_decide_eq_true h4; omega
            have hix1 := str_at t 1 (by rw [bytes_size]; omega)
            cases h5 : (((t.getD 1 0).toNat : Int) == 120) with
            | true =>
              have hx1 : 4 ≤ t.length ∧ t.getD 1 0 = 120 := ⟨ht4, by
                rw [← UInt8.toNat_inj]
                have : ((t.getD 1 0).toNat : Int) = 120 := by simpa using h5
                show (t.getD 1 0).toNat = 120
                omega⟩
              rw [if_pos hx1] at Hstep
              obtain ⟨m, hm1, hm2⟩ := Hnext.out (hx (t.getD 2 0) (t.getD 3 0)) 4 (by omega) Hstep.out
              have Hm := SL.hid (And.intro hm1 hm2)
              have hix2 := str_at t 2 (by rw [bytes_size]; omega)
              have hix3 := str_at t 3 (by rw [bytes_size]; omega)
              have hex : (⟨t.toArray⟩ : ByteArray).extract 4 t.length = ⟨(t.drop 4).toArray⟩ := by rw [extract_mk, List.take_of_length_le (by simp)]
              have hl2 := SL.hid (List.length_drop (i := 4) (l := t))
              have h1l : (1 : Int) < (t.length : Int) := by omega
              have h2l : (2 : Int) < (t.length : Int) := by omega
              have h3l : (3 : Int) < (t.length : Int) := by omega
              have h4l : (4 : Int) ≤ (t.length : Int) := by omega
              have Hha := SL.hid (dig_idx (t.getD 2 0))
              have Hhb := SL.hid (dig_idx (t.getD 3 0))
              generalize t.drop 4 = t2 at *
              have Hvx := SL.hid (show (hx (t.getD 2 0) (t.getD 3 0)).toNat = (max 0 (valP (t.getD 2 0))).toNat * 16 + (max 0 (valP (t.getD 3 0))).toNat by
                have h1 := val_lt (t.getD 2 0)
                have h2 := val_lt (t.getD 3 0)
                rw [hx, UInt8.toNat_ofNat']
                omega)
              have hv1 := val_lt (t.getD 2 0)
              have hv2 := val_lt (t.getD 3 0)
              generalize hx (t.getD 2 0) (t.getD 3 0) = xy at *
              generalize valP (t.getD 2 0) = v1 at *
              generalize valP (t.getD 3 0) = v2 at *
              have hval : IntKind.u8.wrap (bits .or .i64 (IntKind.i64.wrap (max 0 v1 * 16)) (max 0 v2)) = (xy.toNat : Int) := by rw [or_hx hv1.2 hv2.2, Hvx.out]
              clear hv1 hv2
              clear hx1 hm1 hm2 Hnext Hstep Hfail
              generalize t.getD 1 0 = x1 at *
              generalize t.getD 2 0 = x2 at *
              generalize t.getD 3 0 = x3 at *
              go_wp2
              refine wp_region_held_drew (S := fun _ => True) (by kernel_rfl) trivial (fun hS => ?_)
              refine takeW 0 ⟨some 39, .move (.tmp 5), 9, "manifest.go:42", #[], none⟩ ?_ (.inl ⟨by rfl, ?_⟩) hS ?_
              rotate_left
              · (intro w hSw; (try dsimp only at hSw); go_simp; (try with_reducible rfl))
              try simp only [Act.put, sb, s0, sz]
              refine takeW 1 ⟨some 40, .index 9 (.tmp 39) (.const (.int .i64 2)), 5, "manifest.go:42", #[⟨0, .data⟩], none⟩ ?_ (.inl ⟨by rfl, ?_⟩) hS ?_
              rotate_left
              · (intro w hSw; (try dsimp only at hSw); go_simp; (try with_reducible rfl))
              try simp only [Act.put, sb, s0, sz]
              refine takeW 3 ⟨some 42, .move (.tmp 5), 9, "manifest.go:42", #[], none⟩ ?_ (.inl ⟨by rfl, ?_⟩) hS ?_
              rotate_left
              · (intro w hSw; (try dsimp only at hSw); go_simp; (try with_reducible rfl))
              try simp only [Act.put, sb, s0, sz]
              refine takeW 4 ⟨some 43, .index 9 (.tmp 42) (.const (.int .i64 3)), 5, "manifest.go:42", #[⟨3, .data⟩], none⟩ ?_ (.inl ⟨by rfl, ?_⟩) hS ?_
              rotate_left
              · (intro w hSw; (try dsimp only at hSw); go_simp; (try with_reducible rfl))
              try simp only [Act.put, sb, s0, sz]
              refine wpAnyH_ready (rs := [2]) (by kernel_rfl) (by simp) ?_
              refine (AllReadyH.cons (o := { dst := some 41, op := Go.Op.call { callee := Go.Callee.value (Go.Operand.func 39), args := #[Go.Operand.const (Go.Value.string { data := #[48, 49, 50, 51, 52, 53, 54, 55, 56, 57, 97, 98, 99, 100, 101, 102] }), Go.Operand.tmp 40], argTypes := #[9, 5] }, type := 3, pos := "manifest.go:42", after := #[{ on := 1, ground := Go.Ground.data }], guard := none }) rfl (fun K hK => ?_) AllReadyH.nil)
              (go_simp; refine (Hha.out _).mono ?_; rintro e w3 ⟨rfl, rfl⟩)
              refine hK.out _ _ trivial (fun hS => ?_)
              clear hK K
              try simp only [Act.put, sb, s0, sz]
              refine wpAnyH_ready (rs := [5]) (by kernel_rfl) (by simp) ?_
              refine (AllReadyH.cons (o := { dst := some 44, op := Go.Op.call { callee := Go.Callee.value (Go.Operand.func 39), args := #[Go.Operand.const (Go.Value.string { data := #[48, 49, 50, 51, 52, 53, 54, 55, 56, 57, 97, 98, 99, 100, 101, 102] }), Go.Operand.tmp 43], argTypes := #[9, 5] }, type := 3, pos := "manifest.go:42", after := #[{ on := 4, ground := Go.Ground.data }, { on := 2, ground := Go.Ground.chain }], guard := none }) rfl (fun K hK => ?_) AllReadyH.nil)
              (go_simp; refine (Hhb.out _).mono ?_; rintro e w4 ⟨rfl, rfl⟩)
              refine hK.out _ _ trivial (fun hS => ?_)
              clear hK K
              try simp only [Act.put, sb, s0, sz]
              refine takeW 6 ⟨some 6, .assign (.tmp 41), 3, "manifest.go:42", #[⟨2, .data⟩, ⟨5, .chain⟩, ⟨0, .phase⟩, ⟨1, .phase⟩, ⟨2, .phase⟩, { on := 3, ground := Go.Ground.textOnly Go.Departure.lateStores }, { on := 4, ground := Go.Ground.textOnly Go.Departure.lateStores }, { on := 5, ground := Go.Ground.textOnly Go.Departure.lateStoresUnsure }], none⟩ ?_ (.inl ⟨by rfl, ?_⟩) hS ?_
              rotate_left
              · (intro w hSw; (try dsimp only at hSw); go_simp; (try with_reducible rfl))
              try simp only [Act.put, sb, s0, sz]
              refine takeW 7 ⟨some 7, .assign (.tmp 44), 3, "manifest.go:42", #[⟨5, .data⟩, ⟨6, .chain⟩, ⟨0, .phase⟩, ⟨1, .phase⟩, ⟨2, .phase⟩, ⟨3, .phase⟩, ⟨4, .phase⟩, ⟨5, .phase⟩, ⟨6, .phase⟩], none⟩ ?_ (.inl ⟨by rfl, ?_⟩) hS ?_
              rotate_left
              · (intro w hSw; (try dsimp only at hSw); go_simp; (try with_reducible rfl))
              try simp only [Act.put, sb, s0, sz]
              refine wpAnyH_done (by kernel_rfl) ?_ _
              all_goals
                clear hS Hha Hhb
                replace hE := hE.drew
                go_wp2
                refine wp_region_held_drew (S := fun _ => True) (by kernel_rfl) trivial (fun hS => ?_)
                refine takeW 0 ⟨some 45, .move (.tmp 4), 75, "manifest.go:43", #[], none⟩ ?_ (.inl ⟨by rfl, ?_⟩) hS ?_
                rotate_left
                · (intro w hSw; (try dsimp only at hSw); go_simp; (try with_reducible rfl))
                try simp only [Act.put, sb, s0, sz]
                refine takeW 1 ⟨some 46, .move (.tmp 6), 3, "manifest.go:43", #[], none⟩ ?_ (.inl ⟨by rfl, ?_⟩) hS ?_
                rotate_left
                · (intro w hSw; (try dsimp only at hSw); go_simp; (try with_reducible rfl))
                try simp only [Act.put, sb, s0, sz]
                refine takeW 2 ⟨some 47, .call { callee := .builtin .max, args := #[.const (.int .i64 0), .tmp 46], argTypes := #[3, 3] }, 3, "manifest.go:43", #[⟨1, .data⟩], none⟩ ?_ (.inl ⟨by rfl, ?_⟩) hS ?_
                rotate_left
                · (intro w hSw; (try dsimp only at hSw); go_simp; (try with_reducible rfl))
                try simp only [Act.put, sb, s0, sz]
                refine takeW 3 ⟨some 48, .binOp .shl 3 (.tmp 47) (.const (.int .u64 4)) 77, 3, "manifest.go:43", #[⟨2, .data⟩], none⟩ ?_ (.inl ⟨by rfl, ?_⟩) hS ?_
                rotate_left
                · (intro w hSw; (try dsimp only at hSw); go_simp; (try with_reducible rfl))
                try simp only [Act.put, sb, s0, sz]
                refine takeW 4 ⟨some 49, .move (.tmp 7), 3, "manifest.go:43", #[], none⟩ ?_ (.inl ⟨by rfl, ?_⟩) hS ?_
                rotate_left
                · (intro w hSw; (try dsimp only at hSw); go_simp; (try with_reducible rfl))
                try simp only [Act.put, sb, s0, sz]
                refine takeW 5 ⟨some 50, .call { callee := .builtin .max, args := #[.const (.int .i64 0), .tmp 49], argTypes := #[3, 3] }, 3, "manifest.go:43", #[⟨4, .data⟩], none⟩ ?_ (.inl ⟨by rfl, ?_⟩) hS ?_
                rotate_left
                · (intro w hSw; (try dsimp only at hSw); go_simp; (try with_reducible rfl))
                try simp only [Act.put, sb, s0, sz]
                refine takeW 6 ⟨some 51, .binOp .or 3 (.tmp 48) (.tmp 50) 3, 3, "manifest.go:43", #[⟨3, .data⟩, ⟨5, .data⟩], none⟩ ?_ (.inl ⟨by rfl, ?_⟩) hS ?_
                rotate_left
                · (intro w hSw; (try dsimp only at hSw); go_simp; (try with_reducible rfl))
                try simp only [Act.put, sb, s0, sz]
                refine takeW 7 ⟨some 52, .convert 3 5 (.tmp 51), 5, "manifest.go:43", #[⟨6, .data⟩], none⟩ ?_ (.inl ⟨by rfl, ?_⟩) hS ?_
                rotate_left
                · (intro w hSw; (try dsimp only at hSw); go_simp; (try with_reducible rfl))
                try simp only [Act.put, sb, s0, sz]
                refine takeW 10 ⟨some 55, .move (.tmp 5), 9, "manifest.go:43", #[], none⟩ ?_ (.inl ⟨by rfl, ?_⟩) hS ?_
                rotate_left
                · (intro w hSw; (try dsimp only at hSw); go_simp; (try with_reducible rfl))
                try simp only [Act.put, sb, s0, sz]
                refine takeW 11 ⟨some 56, .slice 9 (.tmp 55) (some (.const (.int .i64 4))) none none, 9, "manifest.go:43", #[⟨10, .data⟩], none⟩ ?_ (.inl ⟨by rfl, ?_⟩) hS ?_
                rotate_left
                · (intro w hSw; (try dsimp only at hSw); go_simp; (try with_reducible rfl))
                try simp only [Act.put, sb, s0, sz]
                refine wpAnyH_ready (rs := [8]) (by kernel_rfl) (by simp) ?_
                refine (AllReadyH.cons (o := { dst := some 53, op := Go.Op.buildSlice 75 1 #[(0, Go.Operand.tmp 52)], type := 75, pos := "manifest.go:43", after := #[{ on := 7, ground := Go.Ground.data }], guard := none }) rfl (fun K hK => ?_) AllReadyH.nil)
                (go_simp; have hAl := hE.drew.alloc (.cells #[.int .u8 xy.toNat] 5))
                refine hK.out _ _ trivial (fun hS => ?_)
                clear hK K
                try simp only [Act.put, sb, s0, sz]
                refine wpAnyH_ready (rs := [9]) (by kernel_rfl) (by simp) ?_
                refine (AllReadyH.cons (o := { dst := some 54, op := Go.Op.call { callee := Go.Callee.builtin Go.Builtin.append, args := #[Go.Operand.tmp 45, Go.Operand.tmp 53], argTypes := #[75, 75] }, type := 75, pos := "manifest.go:43", after := #[{ on := 0, ground := Go.Ground.data }, { on := 8, ground := Go.Ground.data }], guard := none }) rfl (fun K hK => ?_) AllReadyH.nil)
                (refine step_appendG hAl 1 rfl (by rfl) (by rfl) (by rfl) (by rfl) Tryd.underlying75 info_u8 (by decide) (m := 1) (news := [.int .u8 xy.toNat]) (reads_pt hAl 0 rfl (off := 0) (fun j u hu => by rw [Nat.zero_add, List.getElem?_toArray]; exact hu)) rfl (by simp [Value.oneCell']) (by omega) (by omega) ?_; intro ao1 c1 w6 hE10; simp only [List.set_cons_zero, List.set_cons_succ] at hE10)
                refine hK.out _ _ trivial (fun hS => ?_)
                clear hK K
                try simp only [Act.put, sb, s0, sz]
                refine takeW 12 ⟨some 4, .assign (.tmp 54), 75, "manifest.go:43", #[⟨9, .data⟩, ⟨9, .chain⟩, ⟨0, .phase⟩, ⟨1, .phase⟩, ⟨2, .phase⟩, ⟨3, .phase⟩, ⟨4, .phase⟩, ⟨5, .phase⟩, ⟨6, .phase⟩, ⟨7, .phase⟩, ⟨8, .phase⟩, ⟨9, .phase⟩, { on := 10, ground := Go.Ground.textOnly Go.Departure.lateStores }, { on := 11, ground := Go.Ground.textOnly Go.Departure.lateStoresUnsure }], none⟩ ?_ (.inl ⟨by rfl, ?_⟩) hS ?_
                rotate_left
                · (intro w hSw; (try dsimp only at hSw); go_simp; (try with_reducible rfl))
                try simp only [Act.put, sb, s0, sz]
                refine takeW 13 ⟨some 5, .assign (.tmp 56), 9, "manifest.go:43", #[⟨11, .data⟩, ⟨12, .chain⟩, ⟨0, .phase⟩, ⟨1, .phase⟩, ⟨2, .phase⟩, ⟨3, .phase⟩, ⟨4, .phase⟩, ⟨5, .phase⟩, ⟨6, .phase⟩, ⟨7, .phase⟩, ⟨8, .phase⟩, ⟨9, .phase⟩, ⟨10, .phase⟩, ⟨11, .phase⟩, ⟨12, .phase⟩], none⟩ ?_ (.inl ⟨by rfl, ?_⟩) hS ?_
                rotate_left
                · (intro w hSw; (try dsimp only at hSw); go_simp; (try with_reducible rfl))
                try simp only [Act.put, sb, s0, sz]
                refine wpAnyH_done (by kernel_rfl) ?_ _
                all_goals
                  clear hS
                  go_wp2
                  go_roundw
                  case measure => have := hl2.out; have := hpos; show (⟨t2.toArray⟩ : ByteArray).size < (⟨t.toArray⟩ : ByteArray).size; rw [bytes_size, bytes_size]; omega
                  case rel => exact ⟨m, t2, out ++ [xy], ao1, c1, by simp, rfl, Hm.out.1, Hm.out.2, by have := Hlen.out; have := hl2.out; simp; omega, rowB_app rfl (by simp [bvals, bval]) hE10.tail⟩
            | false =>
              have hx2 : ¬ (4 ≤ t.length ∧ t.getD 1 0 = 120) := by
                rintro ⟨_, e⟩
                rw [e] at h5
                exact absurd h5 (by decide)
              have ht2 : 2 ≤ t.length := by omega
              rw [if_neg hx2, if_pos ht2] at Hstep
              have h2t : decide ((2 : Int) ≤ (t.length : Int)) = true := decide_eq_true (by omega)
              obtain ⟨m, hm1, hm2⟩ := Hnext.out (t.getD 1 0) 2 (by omega) Hstep.out
              have Hm := SL.hid (And.intro hm1 hm2)
              have hex : (⟨t.toArray⟩ : ByteArray).extract 2 t.length = ⟨(t.drop 2).toArray⟩ := by rw [extract_mk, List.take_of_length_le (by simp)]
              have hl2 := SL.hid (List.length_drop (i := 2) (l := t))
              have h1l : (1 : Int) < (t.length : Int) := by omega
              have h2l : (2 : Int) ≤ (t.length : Int) := by omega
              generalize t.drop 2 = t2 at *
              clear hx2 hm1 hm2 Hnext Hstep Hfail
              generalize t.getD 1 0 = x1 at *
              go_wp2
              refine wp_region_held_drew (S := fun _ => True) (by kernel_rfl) trivial (fun hS => ?_)
              refine takeW 0 ⟨some 61, .move (.tmp 4), 75, "manifest.go:45", #[], none⟩ ?_ (.inl ⟨by rfl, ?_⟩) hS ?_
              rotate_left
              · (intro w hSw; (try dsimp only at hSw); go_simp; (try with_reducible rfl))
              try simp only [Act.put, sb, s0, sz]
              refine takeW 1 ⟨some 62, .move (.tmp 5), 9, "manifest.go:45", #[], none⟩ ?_ (.inl ⟨by rfl, ?_⟩) hS ?_
              rotate_left
              · (intro w hSw; (try dsimp only at hSw); go_simp; (try with_reducible rfl))
              try simp only [Act.put, sb, s0, sz]
              refine takeW 2 ⟨some 63, .index 9 (.tmp 62) (.const (.int .i64 1)), 5, "manifest.go:45", #[⟨1, .data⟩], none⟩ ?_ (.inl ⟨by rfl, ?_⟩) hS ?_
              rotate_left
              · (intro w hSw; (try dsimp only at hSw); go_simp; (try with_reducible rfl))
              try simp only [Act.put, sb, s0, sz]
              refine takeW 5 ⟨some 66, .move (.tmp 5), 9, "manifest.go:45", #[], none⟩ ?_ (.inl ⟨by rfl, ?_⟩) hS ?_
              rotate_left
              · (intro w hSw; (try dsimp only at hSw); go_simp; (try with_reducible rfl))
              try simp only [Act.put, sb, s0, sz]
              refine takeW 6 ⟨some 67, .slice 9 (.tmp 66) (some (.const (.int .i64 2))) none none, 9, "manifest.go:45", #[⟨5, .data⟩], none⟩ ?_ (.inl ⟨by rfl, ?_⟩) hS ?_
              rotate_left
              · (intro w hSw; (try dsimp only at hSw); go_simp; (try with_reducible rfl))
              try simp only [Act.put, sb, s0, sz]
              refine wpAnyH_ready (rs := [3]) (by kernel_rfl) (by simp) ?_
              refine (AllReadyH.cons (o := { dst := some 64, op := Go.Op.buildSlice 75 1 #[(0, Go.Operand.tmp 63)], type := 75, pos := "manifest.go:45", after := #[{ on := 2, ground := Go.Ground.data }], guard := none }) rfl (fun K hK => ?_) AllReadyH.nil)
              (go_simp; have hAl := hE.drew.alloc (.cells #[.int .u8 x1.toNat] 5))
              refine hK.out _ _ trivial (fun hS => ?_)
              clear hK K
              try simp only [Act.put, sb, s0, sz]
              refine wpAnyH_ready (rs := [4]) (by kernel_rfl) (by simp) ?_
              refine (AllReadyH.cons (o := { dst := some 65, op := Go.Op.call { callee := Go.Callee.builtin Go.Builtin.append, args := #[Go.Operand.tmp 61, Go.Operand.tmp 64], argTypes := #[75, 75] }, type := 75, pos := "manifest.go:45", after := #[{ on := 0, ground := Go.Ground.data }, { on := 3, ground := Go.Ground.data }], guard := none }) rfl (fun K hK => ?_) AllReadyH.nil)
              (refine step_appendG hAl 1 rfl (by rfl) (by rfl) (by rfl) (by rfl) Tryd.underlying75 info_u8 (by decide) (m := 1) (news := [.int .u8 x1.toNat]) (reads_pt hAl 0 rfl (off := 0) (fun j u hu => by rw [Nat.zero_add, List.getElem?_toArray]; exact hu)) rfl (by simp [Value.oneCell']) (by omega) (by omega) ?_; intro ao1 c1 w6 hE10; simp only [List.set_cons_zero, List.set_cons_succ] at hE10)
              refine hK.out _ _ trivial (fun hS => ?_)
              clear hK K
              try simp only [Act.put, sb, s0, sz]
              refine takeW 7 ⟨some 4, .assign (.tmp 65), 75, "manifest.go:45", #[⟨4, .data⟩, ⟨4, .chain⟩, ⟨0, .phase⟩, ⟨1, .phase⟩, ⟨2, .phase⟩, ⟨3, .phase⟩, ⟨4, .phase⟩, { on := 5, ground := Go.Ground.textOnly Go.Departure.lateStores }, { on := 6, ground := Go.Ground.textOnly Go.Departure.lateStoresUnsure }], none⟩ ?_ (.inl ⟨by rfl, ?_⟩) hS ?_
              rotate_left
              · (intro w hSw; (try dsimp only at hSw); go_simp; (try with_reducible rfl))
              try simp only [Act.put, sb, s0, sz]
              refine takeW 8 ⟨some 5, .assign (.tmp 67), 9, "manifest.go:45", #[⟨6, .data⟩, ⟨7, .chain⟩, ⟨0, .phase⟩, ⟨1, .phase⟩, ⟨2, .phase⟩, ⟨3, .phase⟩, ⟨4, .phase⟩, ⟨5, .phase⟩, ⟨6, .phase⟩, ⟨7, .phase⟩], none⟩ ?_ (.inl ⟨by rfl, ?_⟩) hS ?_
              rotate_left
              · (intro w hSw; (try dsimp only at hSw); go_simp; (try with_reducible rfl))
              try simp only [Act.put, sb, s0, sz]
              refine wpAnyH_done (by kernel_rfl) ?_ _
              all_goals
                clear hS
                go_wp2
                go_roundw
                case measure => have := hl2.out; have := hpos; show (⟨t2.toArray⟩ : ByteArray).size < (⟨t.toArray⟩ : ByteArray).size; rw [bytes_size, bytes_size]; omega
                case rel => exact ⟨m, t2, out ++ [x1], ao1, c1, by simp, rfl, Hm.out.1, Hm.out.2, by have := Hlen.out; have := hl2.out; simp; omega, rowB_app rfl (by simp [bvals, bval]) hE10.tail⟩
          | false =>
            have hx2 : ¬ (4 ≤ t.length ∧ t.getD 1 0 = 120) := by
              rintro ⟨e, _⟩
              have := of_decide_eq_false h4
              omega
            rw [if_neg hx2] at Hstep
            cases h2t : decide ((2 : Int) ≤ (t.length : Int)) with
            | true =>
              have ht2 : 2 ≤ t.length := by have := of_decide_eq_true h2t; omega
              rw [if_pos ht2] at Hstep
              have hix1 := str_at t 1 (by rw [bytes_size]; omega)
              obtain ⟨m, hm1, hm2⟩ := Hnext.out (t.getD 1 0) 2 (by omega) Hstep.out
              have Hm := SL.hid (And.intro hm1 hm2)
              have hex : (⟨t.toArray⟩ : ByteArray).extract 2 t.length = ⟨(t.drop 2).toArray⟩ := by rw [extract_mk, List.take_of_length_le (by simp)]
              have hl2 := SL.hid (List.length_drop (i := 2) (l := t))
              have h1l : (1 : Int) < (t.length : Int) := by omega
              have h2l : (2 : Int) ≤ (t.length : Int) := by omega
              generalize t.drop 2 = t2 at *
              clear hx2 hm1 hm2 Hnext Hstep Hfail
              generalize t.getD 1 0 = x1 at *
              go_wp2
              refine wp_region_held_drew (S := fun _ => True) (by kernel_rfl) trivial (fun hS => ?_)
              refine takeW 0 ⟨some 61, .move (.tmp 4), 75, "manifest.go:45", #[], none⟩ ?_ (.inl ⟨by rfl, ?_⟩) hS ?_
              rotate_left
              · (intro w hSw; (try dsimp only at hSw); go_simp; (try with_reducible rfl))
              try simp only [Act.put, sb, s0, sz]
              refine takeW 1 ⟨some 62, .move (.tmp 5), 9, "manifest.go:45", #[], none⟩ ?_ (.inl ⟨by rfl, ?_⟩) hS ?_
              rotate_left
              · (intro w hSw; (try dsimp only at hSw); go_simp; (try with_reducible rfl))
              try simp only [Act.put, sb, s0, sz]
              refine takeW 2 ⟨some 63, .index 9 (.tmp 62) (.const (.int .i64 1)), 5, "manifest.go:45", #[⟨1, .data⟩], none⟩ ?_ (.inl ⟨by rfl, ?_⟩) hS ?_
              rotate_left
              · (intro w hSw; (try dsimp only at hSw); go_simp; (try with_reducible rfl))
              try simp only [Act.put, sb, s0, sz]
              refine takeW 5 ⟨some 66, .move (.tmp 5), 9, "manifest.go:45", #[], none⟩ ?_ (.inl ⟨by rfl, ?_⟩) hS ?_
              rotate_left
              · (intro w hSw; (try dsimp only at hSw); go_simp; (try with_reducible rfl))
              try simp only [Act.put, sb, s0, sz]
              refine takeW 6 ⟨some 67, .slice 9 (.tmp 66) (some (.const (.int .i64 2))) none none, 9, "manifest.go:45", #[⟨5, .data⟩], none⟩ ?_ (.inl ⟨by rfl, ?_⟩) hS ?_
              rotate_left
              · (intro w hSw; (try dsimp only at hSw); go_simp; (try with_reducible rfl))
              try simp only [Act.put, sb, s0, sz]
              refine wpAnyH_ready (rs := [3]) (by kernel_rfl) (by simp) ?_
              refine (AllReadyH.cons (o := { dst := some 64, op := Go.Op.buildSlice 75 1 #[(0, Go.Operand.tmp 63)], type := 75, pos := "manifest.go:45", after := #[{ on := 2, ground := Go.Ground.data }], guard := none }) rfl (fun K hK => ?_) AllReadyH.nil)
              (go_simp; have hAl := hE.drew.alloc (.cells #[.int .u8 x1.toNat] 5))
              refine hK.out _ _ trivial (fun hS => ?_)
              clear hK K
              try simp only [Act.put, sb, s0, sz]
              refine wpAnyH_ready (rs := [4]) (by kernel_rfl) (by simp) ?_
              refine (AllReadyH.cons (o := { dst := some 65, op := Go.Op.call { callee := Go.Callee.builtin Go.Builtin.append, args := #[Go.Operand.tmp 61, Go.Operand.tmp 64], argTypes := #[75, 75] }, type := 75, pos := "manifest.go:45", after := #[{ on := 0, ground := Go.Ground.data }, { on := 3, ground := Go.Ground.data }], guard := none }) rfl (fun K hK => ?_) AllReadyH.nil)
              (refine step_appendG hAl 1 rfl (by rfl) (by rfl) (by rfl) (by rfl) Tryd.underlying75 info_u8 (by decide) (m := 1) (news := [.int .u8 x1.toNat]) (reads_pt hAl 0 rfl (off := 0) (fun j u hu => by rw [Nat.zero_add, List.getElem?_toArray]; exact hu)) rfl (by simp [Value.oneCell']) (by omega) (by omega) ?_; intro ao1 c1 w6 hE10; simp only [List.set_cons_zero, List.set_cons_succ] at hE10)
              refine hK.out _ _ trivial (fun hS => ?_)
              clear hK K
              try simp only [Act.put, sb, s0, sz]
              refine takeW 7 ⟨some 4, .assign (.tmp 65), 75, "manifest.go:45", #[⟨4, .data⟩, ⟨4, .chain⟩, ⟨0, .phase⟩, ⟨1, .phase⟩, ⟨2, .phase⟩, ⟨3, .phase⟩, ⟨4, .phase⟩, { on := 5, ground := Go.Ground.textOnly Go.Departure.lateStores }, { on := 6, ground := Go.Ground.textOnly Go.Departure.lateStoresUnsure }], none⟩ ?_ (.inl ⟨by rfl, ?_⟩) hS ?_
              rotate_left
              · (intro w hSw; (try dsimp only at hSw); go_simp; (try with_reducible rfl))
              try simp only [Act.put, sb, s0, sz]
              refine takeW 8 ⟨some 5, .assign (.tmp 67), 9, "manifest.go:45", #[⟨6, .data⟩, ⟨7, .chain⟩, ⟨0, .phase⟩, ⟨1, .phase⟩, ⟨2, .phase⟩, ⟨3, .phase⟩, ⟨4, .phase⟩, ⟨5, .phase⟩, ⟨6, .phase⟩, ⟨7, .phase⟩], none⟩ ?_ (.inl ⟨by rfl, ?_⟩) hS ?_
              rotate_left
              · (intro w hSw; (try dsimp only at hSw); go_simp; (try with_reducible rfl))
              try simp only [Act.put, sb, s0, sz]
              refine wpAnyH_done (by kernel_rfl) ?_ _
              all_goals
                clear hS
                go_wp2
                go_roundw
                case measure => have := hl2.out; have := hpos; show (⟨t2.toArray⟩ : ByteArray).size < (⟨t.toArray⟩ : ByteArray).size; rw [bytes_size, bytes_size]; omega
                case rel => exact ⟨m, t2, out ++ [x1], ao1, c1, by simp, rfl, Hm.out.1, Hm.out.2, by have := Hlen.out; have := hl2.out; simp; omega, rowB_app rfl (by simp [bvals, bval]) hE10.tail⟩
            | false =>
              have ht2 : ¬ 2 ≤ t.length := by have := of_decide_eq_false h2t; omega
              rw [if_neg ht2] at Hstep
              have R := SL.hid (Hfail.out Hstep.out)
              clear Hfail Hstep Hnext hx2 ht2
              go_wp2
              go_ret2
              exact ⟨_, rfl, by rw [R.out]; rfl, hE.tail⟩
end Go.Proofs.YtjmllpgmbaoebaaDoor
namespace Go.SL
section
variable {P : Program} {w : World} {l : List HProp}

def rowF (e : TypeId) (size : Nat) (v : Value) (n : Nat) (xs : List Value) : HProp where
  on w F := w.ownsRowF 0 e size v n xs ∧ ∀ b, F b ↔ v.ownBlock = some b
  stable := fun {w w' F} _ _ h ⟨h1, hF⟩ => by
    refine ⟨⟨h1.1, ?_⟩, hF⟩
    rcases h1.2 with h2 | ⟨g, cap, cur, fz, rfl, hb, hg, r⟩
    · exact .inl h2
    · exact .inr ⟨g, cap, cur, fz, rfl, hb, (h g ((hF g).2 rfl)).trans hg, r⟩
  bound := fun {w F b} ⟨h1, hF⟩ hb => by
    have hv := (hF b).1 hb
    rcases h1.2 with ⟨rfl, _⟩ | ⟨g, cap, cur, fz, rfl, _, hg, _⟩
    · cases hv
    · simp only [Value.ownBlock, Option.some.injEq] at hv
      subst hv
      exact (Array.getElem?_eq_some_iff.1 hg).1

theorem Ent.ownsF {e : TypeId} {size : Nat} {v : Value} {n : Nat} {xs : List Value} (hE : Ent l w) (i : Nat) (hi : l[i]? = some (rowF e size v n xs)) : w.ownsRowF 0 e size v n xs := by
  have h := hE.front i hi
  unfold Ent at h
  obtain ⟨F, F1, F2, ⟨h1, _⟩, _⟩ := h
  exact h1
theorem Ent.nilF (hE : Ent l w) (e : TypeId) (size : Nat) : Ent (rowF e size (.slice none 0 0) 0 [] :: l) w :=
  hE.step0 (Bs := [rowF e size (.slice none 0 0) 0 []]) (Same.refl w) (Nat.le_refl _) (fun _ _ => rfl) ⟨fun _ => False, on_single ⟨⟨by simp, .inl ⟨rfl, rfl⟩⟩, fun b => by simp [Value.ownBlock]⟩, fun _ h => h.elim⟩
theorem Ent.grownF {e : TypeId} {size : Nat} {v v' : Value} {n n' : Nat} {xs xs' : List Value} {w' : World} (hE : Ent l w) (i : Nat) (hi : l[i]? = some (rowF e size v n xs))
    (hg : w.grownBy w' v.ownBlock) (ho : w'.ownsRowF 0 e size v' n' xs') (hat : v'.ownBlock = v.ownBlock ∨ v'.ownBlock = some w.heap.size) : Ent (l.set i (rowF e size v' n' xs')) w' := by
  refine Ent.put ((hE.front i hi).step (Bs := [rowF e size v' n' xs']) ⟨hg.os, hg.tape, hg.output⟩ hg.size fun F hF => ⟨fun b hb hbF => hg.block b hb fun h => hbF ((hF.2 b).2 h.symm), fun b => v'.ownBlock = some b, on_single ⟨ho, fun _ => Iff.rfl⟩, fun b hb => ?_⟩) (List.getElem?_eq_some_iff.1 hi).1
  rcases hat with h | h
  · exact .inl ((hF.2 b).2 (h ▸ hb))
  · right
    rw [h] at hb
    simp at hb
    omega

theorem append_srcF {e : TypeId} {i : TypeInfo} {z : Value} {size bytes : Nat} {t tx : TypeId} (ty : TypeId)
    (ht : P.underlying t = some (.slice e)) (hi : P.info? e = some i) (hz : i.zero = some z) (hsize : i.size = size) (hby : i.bytes = bytes) (hzs : z.cells.size = size) (hsz : 0 < size)
    {v : Value} {n : Nat} {xs : List Value} (hown : w.ownsRowF 0 e size v n xs) {x : Value} {m : Nat} {news : List Value} (hs : Src P size tx x m news w) (h63 : n + m ≤ maxLen) (hbytes : (n + m) * bytes ≤ 140737488355328) :
    ∃ ao' c' w', (Builtin.append_ #[t, tx] ty #[v, x]).run P w = .ok (.slice ao' (n + m) c') w' ∧ w'.ownsRowF 0 e size (.slice ao' (n + m) c') (n + m) (xs ++ news) ∧ w.grownBy w' v.ownBlock ∧
      ((Value.slice ao' (n + m) c').ownBlock = v.ownBlock ∨ (Value.slice ao' (n + m) c').ownBlock = some w.heap.size) := by
  subst hsize
  subst hby
  have hm : n + m ≤ 9223372036854775807 := by simp only [maxLen] at h63; omega
  have hlen : (xs ++ news).length = (n + m) * i.size := by rw [List.length_append, hown.1, hs.newsLen, Nat.add_mul]
  have hzero : ∀ k, (Builtin.zeroCells z.cells k).size = k * i.size := fun k => by rw [size_zeroCells, hzs]
  -- a new row
  have key : ∀ (base : Option Addr) (cap : Nat), (Builtin.firstCells i.size n (.slice base n cap)).run P w.drew = .ok xs.toArray w.drew → cap < n + m → v = .slice base n cap →
      ∃ ao' c' w', (Builtin.append_ #[t, tx] ty #[v, x]).run P w = .ok (.slice ao' (n + m) c') w' ∧ w'.ownsRowF 0 e i.size (.slice ao' (n + m) c') (n + m) (xs ++ news) ∧ w.grownBy w' v.ownBlock ∧
      ((Value.slice ao' (n + m) c').ownBlock = v.ownBlock ∨ (Value.slice ao' (n + m) c').ownBlock = some w.heap.size) := by
    intro base cap hold hc hv
    have hr := run_append_grow_src w t tx ty e i z ht hi hz base n cap xs hold x m news hs hc (by omega) (growslice_fits (by omega) hbytes)
    have hge := grownCap_ge w (n + m) cap e
    refine ⟨_, _, _, by rw [hv]; exact hr, ⟨hlen, .inr ⟨w.heap.size, _, _, (0, 0), rfl, Nat.zero_le _, heap_alloc_new w.drew _, Nat.zero_le _, hge, grownCap_le_maxLen w (n + m) cap e h63, ?_, ?_⟩⟩,
      ⟨rfl, rfl, rfl, by simp, fun k hk _ => RowKit.Below.heap_alloc w.drew _ k hk⟩, .inr rfl⟩
    · rw [Array.size_append, hzero, List.size_toArray, hlen, ← Nat.add_mul]
      congr 1
      omega
    · rw [Array.toList_append, ← hlen]
      exact List.take_left
  rcases hown.2 with ⟨hv, h0⟩ | ⟨g, cap, cur, fz, hv, _, hg, hfz, hnc, hcm, hcs, htake⟩
  · have hx : xs = [] := List.eq_nil_of_length_eq_zero (by rw [hown.1, h0]; simp)
    by_cases hm0 : m = 0
    · have hn : news = [] := List.eq_nil_of_length_eq_zero (by rw [hs.newsLen, hm0]; simp)
      subst hv h0 hx hn hm0
      refine ⟨none, 0, w, ?_, ⟨by simp, .inl ⟨rfl, rfl⟩⟩, World.grownBy.refl _ _, .inl rfl⟩
      have hc := hs.cells
      rcases hs.kind with ⟨e', hk⟩ | hk <;> simp [Builtin.append_, run_underlying ht, run_underlying hk, Go.sizeOf, typeInfo, hi, hs.len, hc]
    · exact key none 0 (by subst hx h0; exact run_firstCells_none w.drew i.size 0 0 0) (by omega) (by rw [hv, h0])
  · by_cases hroom : n + m ≤ cap
    · have hfit : n * i.size + news.length ≤ cur.size := by rw [hs.newsLen, hcs, ← Nat.add_mul]; exact Nat.mul_le_mul_right _ hroom
      have hr := run_append_room_src w t tx ty e i ht hi g 0 n cap x m news hs hroom (fun j hj => by simp [World.cell?, hg]; omega) (fun j hj => by
        simp only [World.frozen?, hg]
        simp
        omega)
      obtain ⟨cur', h1, h2, h3, h4⟩ := setCells_cells g e fz news (0 + n * i.size) w cur hg
      obtain ⟨s1, s2, s3⟩ := setCells_same g news (0 + n * i.size) w
      refine ⟨_, _, _, by rw [hv]; exact hr, ⟨hlen, .inr ⟨g, cap, cur', fz, rfl, Nat.zero_le _, h1, by rw [Nat.add_mul]; omega, hroom, hcm, by rw [h2, hcs], ?_⟩⟩, ⟨s1.os, s1.tape, s1.output, Nat.le_of_eq s2.symm, fun k _ hk => s3 k fun hkg => hk (by rw [hv, hkg]; rfl)⟩, .inl (by rw [hv]; rfl)⟩
      apply List.ext_getElem?
      intro j
      rw [List.getElem?_take]
      by_cases hj : j < n * i.size
      · rw [if_pos (by rw [Nat.add_mul]; omega), Array.getElem?_toList, h3 j (by omega), List.getElem?_append_left (by rw [hown.1]; exact hj), ← htake, List.getElem?_take, if_pos hj, Array.getElem?_toList]
      · by_cases hj2 : j < (n + m) * i.size
        · have := h4 (by omega) (j - n * i.size) (by rw [hs.newsLen]; rw [Nat.add_mul] at hj2; omega)
          rw [if_pos hj2, Array.getElem?_toList, List.getElem?_append_right (by rw [hown.1]; omega), hown.1, ← this]
          congr 1
          omega
        · rw [if_neg hj2, List.getElem?_eq_none (by rw [hlen]; omega)]
    · refine key (some ⟨g, 0, none⟩) cap ?_ (by omega) hv
      have holds : ∀ j u, xs[j]? = some u → w.drew.cell? ((⟨g, 0, none⟩ : Addr).add j) = some u := fun j u hu => by
        have hj : j < xs.length := (List.getElem?_eq_some_iff.1 hu).1
        rw [← htake, List.getElem?_take, if_pos (by rw [hown.1] at hj; exact hj)] at hu
        rw [Addr.add_lit]
        have hg2 : w.drew.heap[g]? = some (.cells cur e fz) := hg
        simp only [World.cell?, hg2]
        simpa using hu
      exact run_firstCells_some w.drew i.size n ⟨g, 0, none⟩ n cap xs hown.1 holds

/-- append of a string onto a row of bytes whose head may be frozen -/
theorem wpl_appendSF {ops : Array Oper} {rest : List Oper} {o : Oper} {a : Act} {Q : Exit → Act → World → Prop} {e : TypeId} {i : TypeInfo} {t tx : TypeId} (hE : Ent l w) (k : Nat) {v : Value} {n : Nat} {xs : List Value} (hk : l[k]? = some (rowF e 1 v n xs))
    {s y : Operand} (ho : o.op = .call { callee := .builtin .append, args := #[s, y], argTypes := #[t, tx] }) (hw : Region.wanted o (yielded ops a.tmps) = true)
    (hs : a.eval s = v) {b : ByteArray} (hy : a.eval y = .string b)
    (ht : P.underlying t = some (.slice e)) (htx : P.underlying tx = some .string) (hi : P.info? e = some i) (hz : i.zero = some (.int .u8 0)) (hsize : i.size = 1) (hby : i.bytes = 1) (h63 : n + b.size ≤ 140737488355328)
    (h : ∀ ao' c' w', Ent (l.set k (rowF e 1 (.slice ao' (n + b.size) c') (n + b.size) (xs ++ byteCells b))) w' → wpList P ops Q rest (a.put o.dst (.slice ao' (n + b.size) c')) w') : wpList P ops Q (o :: rest) a w := by
  obtain ⟨ao', c', w', hr, h1, h2, h3⟩ := append_srcF (P := P) o.type ht hi hz hsize hby rfl (by decide) (hE.ownsF k hk) (Src.ofString w htx b) (by unfold maxLen; omega) (by omega)
  refine wpl_run hw (w' := w') (v := .slice ao' (n + b.size) c') ?_ (h ao' c' w' (hE.grownF k hk h2 h1 h3))
  simp [execOp, ho, resolve, invoke, builtin, hs, hy, hr]
/-- append of a slice's bytes onto such a row -/
theorem wpl_appendBF {ops : Array Oper} {rest : List Oper} {o : Oper} {a : Act} {Q : Exit → Act → World → Prop} {e : TypeId} {i : TypeInfo} {t : TypeId} (hE : Ent l w) (k : Nat) {v : Value} {n : Nat} {xs : List Value} (hk : l[k]? = some (rowF e 1 v n xs))
    {s y : Operand} (ho : o.op = .call { callee := .builtin .append, args := #[s, y], argTypes := #[t, t] }) (hw : Region.wanted o (yielded ops a.tmps) = true)
    (hs : a.eval s = v) {ad : Addr} {m c : Nat} (hy : a.eval y = .slice (some ad) m c) {news : List Value} (hl : news.length = m) (hc : ∀ j u, news[j]? = some u → w.cell? (ad.add j) = some u) (h1 : ∀ u ∈ news, u.oneCell' = true)
    (ht : P.underlying t = some (.slice e)) (hi : P.info? e = some i) (hz : i.zero = some (.int .u8 0)) (hsize : i.size = 1) (hby : i.bytes = 1) (h63 : n + m ≤ 140737488355328)
    (h : ∀ ao' c' w', Ent (l.set k (rowF e 1 (.slice ao' (n + m) c') (n + m) (xs ++ news))) w' → wpList P ops Q rest (a.put o.dst (.slice ao' (n + m) c')) w') : wpList P ops Q (o :: rest) a w := by
  obtain ⟨ao', c', w', hr, h1', h2, h3⟩ := append_srcF (P := P) o.type ht hi hz hsize hby rfl (by decide) (hE.ownsF k hk) (Src.ofSlice w ht ad m c news (by rw [hl, Nat.mul_one]) hc h1) (by unfold maxLen; omega) (by omega)
  refine wpl_run hw (w' := w') (v := .slice ao' (n + m) c') ?_ (h ao' c' w' (hE.grownF k hk h2 h1' h3))
  simp [execOp, ho, resolve, invoke, builtin, hs, hy, hr]

/-- the bytes that a string shares from now on -/
theorem Ent.freeze {e : TypeId} {g n cap : Nat} {xs : List Value} (hE : Ent l w) (i : Nat) (hi : l[i]? = some (rowF e 1 (.slice (some ⟨g, 0, none⟩) n cap) n xs)) : Ent l (w.freeze ⟨g, 0, none⟩ n) := by
  by_cases hn : n = 0
  · subst hn
    exact hE
  have hlen : i < l.length := (List.getElem?_eq_some_iff.1 hi).1
  have hset : l.set i (rowF e 1 (.slice (some ⟨g, 0, none⟩) n cap) n xs) = l := by
    have hi2 := (List.getElem?_eq_some_iff.1 hi).2
    rw [← hi2, List.set_getElem_self]
  have hx : (w.freeze ⟨g, 0, none⟩ n).heap.size = w.heap.size := by simp [World.freeze, hn]
  rw [← hset]
  refine Ent.put ((hE.front i hi).step (Bs := [rowF e 1 (.slice (some ⟨g, 0, none⟩) n cap) n xs]) ⟨by simp [World.freeze, hn], by simp [World.freeze, hn], by simp [World.freeze, hn]⟩ (by omega) fun F hF => ?_) hlen
  unfold rowF at hF
  refine ⟨fun b hb hbF => ?_, F, ?_, fun _ h => .inl h⟩
  · have hne : g ≠ b := fun e => hbF ((hF.2 b).2 (by simp [Value.ownBlock, e]))
    simp [World.freeze, hn, Array.getElem?_modify, hne]
  · unfold rowF
    refine on_single ⟨⟨hF.1.1, ?_⟩, hF.2⟩
    rcases hF.1.2 with ⟨h, _⟩ | ⟨g', cap', cur, fz, hv, hb, hg, hfz, r⟩
    · cases h
    · cases hv
      obtain ⟨lo, hi'⟩ := fz
      refine .inr ⟨g, cap, cur, if lo == hi' then (0, 0 + n) else (min lo 0, max hi' (0 + n)), rfl, hb, ?_, ?_, r⟩
      · simp [World.freeze, hn, Array.getElem?_modify, hg]
      · simp only at hfz
        split <;> simp <;> omega
end
attribute [irreducible] rowF
end Go.SL
