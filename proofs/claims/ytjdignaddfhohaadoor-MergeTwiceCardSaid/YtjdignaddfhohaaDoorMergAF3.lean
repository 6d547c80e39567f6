/-
  One more node in a tree: the walk of the program's with. Printed by gen_fw4.py.
-/
import Derived.Test.YtjdignaddfhohaaDoorMergAF2
import Derived.Shelf.RegionOpen
import Derived.Deep.RegionHeld
import Derived.Maps.RangeRun
import Derived.Lib.LastIndexByte
namespace Go.Proofs.YtjdignaddfhohaaDoor
open Go.RowKit Go.SL

theorem ins_kids {l : List HProp} {ks : List (List UInt8 × Tr)} {vs : List Value} (hl : vs.length = ks.length) (hk : ∀ (i : Nat) (h : i < ks.length) (h' : i < vs.length), KidsAt l vs[i] ks[i].2.kids) {p : Nat} (hp : p ≤ ks.length) {n : List UInt8} {x : Tr} {v : Value} (hx : KidsAt l v x.kids) :
    ∀ (i : Nat) (h : i < (Tr.insAt p (n, x) ks).length) (h' : i < (Tr.insAt p v vs).length), KidsAt l (Tr.insAt p v vs)[i] (Tr.insAt p (n, x) ks)[i].2.kids := by
  intro i h h'
  rw [Tr.insAt_get hp i h, Tr.insAt_get (by omega) i h']
  by_cases h1 : i < p
  · rw [dif_pos h1, dif_pos h1]
    exact hk i (by omega) (by omega)
  · rw [dif_neg h1, dif_neg h1]
    by_cases h2 : i = p
    · rw [dif_pos h2, dif_pos h2]; exact hx
    · rw [dif_neg h2, dif_neg h2]
      rw [Tr.insAt_len hp] at h
      exact hk (i - 1) (by omega) (by omega)
theorem set_kids {l m : List HProp} {ks : List (List UInt8 × Tr)} {vs : List Value} (hl : vs.length = ks.length) (hk : ∀ (i : Nat) (h : i < ks.length) (h' : i < vs.length), KidsAt m vs[i] ks[i].2.kids) (hm : m <:+ l) (p : Nat) {n : List UInt8} {x : Tr} {v : Value} (hx : KidsAt l v x.kids) :
    ∀ (i : Nat) (h : i < (ks.set p (n, x)).length) (h' : i < (vs.set p v).length), KidsAt l (vs.set p v)[i] (ks.set p (n, x))[i].2.kids := by
  intro i h h'
  rw [List.getElem_set, List.getElem_set]
  split
  · exact hx
  · exact (hk i (by simpa using h) (by simpa using h')).suf hm
theorem withT_more {n : List UInt8} {q : List (List UInt8)} (hq : q ≠ []) (xd : Bool) (xb : List UInt8) (t : Tr) : Tr.withT (n :: q) xd xb t = if t.dir && isIn t.names n then
      (match Tr.withT q xd xb ((t.kids.getD (placeOf t.names n) ([], .zero)).2) with
       | (e, k) => if e = 0 then (0, .nd true [] (t.kids.set (placeOf t.names n) (n, k))) else (e, .zero)) else (8, .zero) := by
  cases q with
  | nil => exact absurd rfl hq
  | cons m r => rw [Tr.withT]
theorem withT_dir {n : List UInt8} {q : List (List UInt8)} (hq : q ≠ []) (xd : Bool) (xb dt : List UInt8) (ks : List (List UInt8 × Tr)) : Tr.withT (n :: q) xd xb (.nd true dt ks) =
    if isIn (ks.map Prod.fst) n = true then (if (Tr.withT q xd xb (ks.getD (placeOf (ks.map Prod.fst) n) ([], .zero)).2).1 = 0 then (0, .nd true [] (ks.set (placeOf (ks.map Prod.fst) n) (n, (Tr.withT q xd xb (ks.getD (placeOf (ks.map Prod.fst) n) ([], .zero)).2).2))) else ((Tr.withT q xd xb (ks.getD (placeOf (ks.map Prod.fst) n) ([], .zero)).2).1, .zero)) else (8, .zero) := by
  rw [withT_more hq]
  rfl
theorem _root_.Go.SL.Ent.mid {F m R : List HProp} {w : World} (h : Ent (F ++ (m ++ R)) w) : Ent (F ++ R) w := by
  have hp : (F ++ (m ++ R)).Perm (m ++ (F ++ R)) := by
    rw [← List.append_assoc, ← List.append_assoc]
    exact List.perm_append_comm.append_right R
  exact (h.perm hp).drop
def zkid : List Value := [.string ⟨#[]⟩, .bool false, .string ⟨#[]⟩, .slice none 0 0]
theorem zkids_len (n : Nat) : (List.replicate n zkid).flatten.length = n * 4 := by
  induction n with
  | zero => rfl
  | succ n ih => rw [List.replicate_succ, List.flatten_cons, List.length_append, ih]; simp [zkid]; omega
/-- the rows of kids with one more, or another one -/
theorem kCs_ins {ks : List (List UInt8 × Tr)} {vs : List Value} (hl : vs.length = ks.length) {p : Nat} (hp : p ≤ ks.length) (k : List UInt8 × Tr) (v : Value) (z : List Value) (hz : z.length = (ks.length + 1) * 4) :
    splice (splice (splice z (0 * 4) ((kCs ks vs).take (p * 4))) ((p + 1) * 4) ((kCs ks vs).drop (p * 4))) (p * 4) (kC k v) = kCs (Tr.insAt p k ks) (Tr.insAt p v vs) := by
  have e1 := kCs_take hl p
  have e2 := kCs_drop hl hp
  have l1 : (kCs (ks.take p) (vs.take p)).length = p * 4 := by rw [kCs_len (by rw [List.length_take, List.length_take]; omega), List.length_take, Nat.min_eq_left hp]
  have l2 : (kCs (ks.drop p) (vs.drop p)).length = (ks.length - p) * 4 := by rw [kCs_len (by rw [List.length_drop, List.length_drop]; omega), List.length_drop]
  rw [e1, e2]
  have h := splice_ins (z := z) (A := kCs (ks.take p) (vs.take p)) (B := kCs (ks.drop p) (vs.drop p)) (N := kC k v) (by rw [l1, l2, kC_len]; omega)
  rw [l1, kC_len] at h
  rw [Nat.zero_mul, show (p + 1) * 4 = p * 4 + 4 by omega, h, Tr.insAt, Tr.insAt, kCs_app (by rw [List.length_take, List.length_take]; omega), kCs_cons, List.append_assoc]
theorem kCs_set {ks : List (List UInt8 × Tr)} {vs : List Value} (hl : vs.length = ks.length) {p : Nat} (hp : p < ks.length) (x : Tr) (v : Value) (z : List Value) (hz : z.length = ks.length * 4) :
    splice (splice (splice z (0 * 4) ((kCs ks vs).take (p * 4))) (p * 4) ((kCs ks vs).drop (p * 4))) (p * 4 + 1) [.bool x.dir, .string ⟨x.data.toArray⟩, v] = kCs (ks.set p (ks[p].1, x)) (vs.set p v) := by
  have l0 := kCs_len hl
  have l1 : ((kCs ks vs).take (p * 4)).length = p * 4 := by rw [List.length_take, l0]; omega
  have h := splice_all (z := z) (A := (kCs ks vs).take (p * 4)) (B := (kCs ks vs).drop (p * 4)) (by rw [l1, List.length_drop, l0]; omega)
  rw [l1] at h
  rw [Nat.zero_mul, h, List.take_append_drop]
  have hk : ks = ks.take p ++ ks[p] :: ks.drop (p + 1) := by rw [← List.drop_eq_getElem_cons hp, List.take_append_drop]
  have hv : vs = vs.take p ++ vs[p]'(by omega) :: vs.drop (p + 1) := by rw [← List.drop_eq_getElem_cons (by omega), List.take_append_drop]
  have lk : (ks.take p).length = p := by rw [List.length_take]; omega
  have lv : (vs.take p).length = p := by rw [List.length_take]; omega
  have e : kCs ks vs = (kCs (ks.take p) (vs.take p) ++ [.string ⟨ks[p].1.toArray⟩]) ++ ([.bool ks[p].2.dir, .string ⟨ks[p].2.data.toArray⟩, vs[p]'(by omega)] ++ kCs (ks.drop (p + 1)) (vs.drop (p + 1))) := by
    conv => lhs; rw [hk, hv, kCs_app (by rw [lk, lv]), kCs_cons]
    simp [kC]
  have l3 : (kCs (ks.take p) (vs.take p) ++ [Value.string ⟨ks[p].1.toArray⟩]).length = p * 4 + 1 := by
    rw [List.length_append, kCs_len (by rw [lk, lv]), lk]; rfl
  have hm := splice_mid (kCs (ks.take p) (vs.take p) ++ [Value.string ⟨ks[p].1.toArray⟩]) [.bool ks[p].2.dir, .string ⟨ks[p].2.data.toArray⟩, vs[p]'(by omega)] [.bool x.dir, .string ⟨x.data.toArray⟩, v] (kCs (ks.drop (p + 1)) (vs.drop (p + 1))) rfl
  rw [e, ← l3, hm]
  have hk2 : ks.set p (ks[p].1, x) = ks.take p ++ (ks[p].1, x) :: ks.drop (p + 1) := by rw [List.set_eq_take_append_cons_drop, if_pos hp]
  have hv2 : vs.set p v = vs.take p ++ v :: vs.drop (p + 1) := by rw [List.set_eq_take_append_cons_drop, if_pos (by omega)]
  rw [hk2, hv2, kCs_app (by rw [lk, lv]), kCs_cons]
  simp [kC]
theorem nd_bytes : zeroList Tryd.prog 55 = some (zkid, 4, 64) := by kernel_rfl
theorem sz_kid : (Tryd.prog.info? 55).map (·.size) = some 4 := by kernel_rfl

set_option maxRecDepth 100000 in
theorem with_bad {d : Bool} {dt : List UInt8} {kv : Value} {L : Nat} (h : d = false ∨ L = 0) {an : Option Addr} {cn : Nat} {xd : Bool} {xb : List UInt8} {l : List HProp} {w : World} (hE : Ent l w) :
    Calls Tryd.prog 33 #[.agg #[.bool d, .string ⟨dt.toArray⟩, kv], .slice an L cn, .agg #[.bool xd, .string ⟨xb.toArray⟩, .slice none 0 0]] w
      (Ret fun v w' => v = .tuple #[.agg #[.bool false, .string ⟨#[]⟩, .slice none 0 0], .int .i64 8] ∧ Ent l w') := by
  cases d with
  | false =>
    go_enter Tryd.func33, Tryd.ntmps33
    go_wp2_with (first
      | go_skip
      | ((with_reducible (show Go.wpList _ _ _ (Go.Oper.mk _ (.box _ (.tmp 0)) _ _ _ _ :: _) _ _)); (refine bxX hE ?_; clear hE; intro b3 w hE))
      | ((with_reducible (show Go.wpList _ _ _ (Go.Oper.mk _ (.box _ (.tmp 2)) _ _ _ _ :: _) _ _)); (refine bxX hE ?_; clear hE; intro b5 w hE))
      | (refine alX hE ?_; clear hE; intro b6 w hE)
      | (refine ldX hE ?_)
      | (refine swX (t := 35) hE [.bool false, .string ⟨#[]⟩, .slice none 0 0] Tryd.sizeOf35 ?_; clear hE; intro w hE))
    refine bodyPost_ret (results_cell2 rfl hE 0 rfl rfl Tryd.isAgg35 Tryd.sizeOf35 rfl rfl) rfl ?_
    exact ⟨_, rfl, rfl, hE.tail.tail.tail⟩
  | true =>
    obtain rfl : L = 0 := by simpa using h
    go_enter Tryd.func33, Tryd.ntmps33
    go_wp2_with (first
      | go_skip
      | ((with_reducible (show Go.wpList _ _ _ (Go.Oper.mk _ (.box _ (.tmp 0)) _ _ _ _ :: _) _ _)); (refine bxX hE ?_; clear hE; intro b3 w hE))
      | ((with_reducible (show Go.wpList _ _ _ (Go.Oper.mk _ (.box _ (.tmp 2)) _ _ _ _ :: _) _ _)); (refine bxX hE ?_; clear hE; intro b5 w hE))
      | (refine alX hE ?_; clear hE; intro b6 w hE)
      | (refine ldX hE ?_)
      | (refine swX (t := 35) hE [.bool false, .string ⟨#[]⟩, .slice none 0 0] Tryd.sizeOf35 ?_; clear hE; intro w hE))
    refine bodyPost_ret (results_cell2 rfl hE 0 rfl rfl Tryd.isAgg35 Tryd.sizeOf35 rfl rfl) rfl ?_
    exact ⟨_, rfl, rfl, hE.tail.tail.tail⟩

set_option maxRecDepth 100000 in
set_option maxHeartbeats 8000000 in
attribute [-go_sem] Instr.loadAt in
theorem with_last {dt : List UInt8} {ks : List (List UInt8 × Tr)} {kv : Value} {pre lb : List HProp} (hkv : KidsAt lb kv ks) (hr : Rising (ks.map Prod.fst)) (h6 : ks.length ≤ 6) {n : List UInt8} {an : Option Addr} {cn : Nat} {xd : Bool} {xb : List UInt8} (hx : xb.length ≤ 1000000)
    (hn : Knows (pre ++ lb) (reads (.slice an 1 cn) 1 [strv n])) {w : World} (hE : Ent (pre ++ lb) w) :
    Calls Tryd.prog 33 #[.agg #[.bool true, .string ⟨dt.toArray⟩, kv], .slice an 1 cn, .agg #[.bool xd, .string ⟨xb.toArray⟩, .slice none 0 0]] w
      (Ret fun v w' => ∃ m kv', v = .tuple #[nodeV (Tr.withT [n] xd xb (.nd true dt ks)).2 kv', .int .i64 (Tr.withT [n] xd xb (.nd true dt ks)).1] ∧ Ent (pre ++ (m ++ lb)) w' ∧ KidsAt (m ++ lb) kv' (Tr.withT [n] xd xb (.nd true dt ks)).2.kids) := by
  have HT := SL.hid (show Tr.withT [n] xd xb (.nd true dt ks) = if !isIn (ks.map Prod.fst) n then (if 6 < ks.length + 1 ∨ 8192 < xb.length then (6, .zero) else (0, .nd true [] (Tr.insAt (placeOf (ks.map Prod.fst) n) (n, .leafOf xd xb) ks))) else (8, .zero) from by rw [Tr.withT]; rfl)
  have hp := (find_at hr n).2.1
  rw [List.length_map] at hp
  obtain ⟨ao, c, vs, rfl, hc, hl, hkn, hks, hone⟩ := hkv.open
  obtain ⟨bn, on, rfl, hz⟩ := reads_form (hn _ hE) (by omega) (by simp)
  clear hz
  have hNm := SL.hid (show ∀ W, Ent (pre ++ lb) W → W.cell? ⟨bn, on, none⟩ = some (.string ⟨n.toArray⟩) from fun W hW => by
    obtain ⟨b', o', e, h⟩ := reads_form (hn _ hW) (by omega) (by simp)
    cases e
    exact h 0 _ rfl)
  have hF := SL.hid (show ∀ (L : List HProp), (pre ++ lb) <:+ L → ∀ w, Ent L w → Calls Tryd.prog 43 #[.slice ao ks.length c, .string ⟨n.toArray⟩, .func (.func 44) #[] #[]] w
      (Ret fun r w' => r = .tuple #[.int .i64 (placeOf (ks.map Prod.fst) n), .bool (isIn (ks.map Prod.fst) n)] ∧ Ent L w') from fun L hL w hw => find_any (hkv.suf ((List.suffix_append pre lb).trans hL)) hr (by omega) n hw)
  have Hkn := SL.hid (show Knows (pre ++ lb) (reads (.slice ao ks.length c) ks.length (kCs ks vs)) from hkn.append)
  have Hlen := SL.hid (kCs_len hl)
  have Hone := SL.hid hone
  have Hins := SL.hid (fun z hz => kCs_ins (vs := vs) hl hp (n, .leafOf xd xb) (.slice none 0 0) z hz)
  have Hkk := SL.hid (ins_kids hl hks hp (n := n) (x := .leafOf xd xb) (KidsAt.nil lb))
  have Hil := SL.hid (Tr.insAt_len (x := (n, Tr.leafOf xd xb)) hp)
  have Hvl := SL.hid (Tr.insAt_len (x := Value.slice none 0 0) (l := vs) (i := placeOf (ks.map Prod.fst) n) (by omega))
  have Hl := SL.hid hl
  clear hn hkv hr hkn hone hl hks
  generalize placeOf (ks.map Prod.fst) n = p at *
  generalize isIn (ks.map Prod.fst) n = is at *
  cases is with
  | true =>
    rw [if_neg (by simp)] at HT
    rw [HT.out]
    as_aux_lemma =>
    go_enter Tryd.func33, Tryd.ntmps33
    go_wp2_with (first
      | go_skip
      | ((with_reducible (show Go.wpList _ _ _ (Go.Oper.mk _ (.box _ (.tmp 0)) _ _ _ _ :: _) _ _)); (refine bxX hE ?_; clear hE; intro b3 w hE))
      | ((with_reducible (show Go.wpList _ _ _ (Go.Oper.mk _ (.box _ (.tmp 2)) _ _ _ _ :: _) _ _)); (refine bxX hE ?_; clear hE; intro b5 w hE))
      | (refine alX hE ?_; clear hE; intro b6 w hE)
      | (refine ldX hE ?_))
    refine wp_region_held_drew (S := (fun w' => ((Instr.loadAt 33 (.pointer (some ⟨b3, 2, none⟩))).run Tryd.prog w' = .ok (.slice ao ks.length c) w') ∧ ((Instr.loadAt 9 (.pointer (some ⟨bn, on, none⟩))).run Tryd.prog w' = .ok (.string ⟨n.toArray⟩) w'))) (by kernel_rfl) ⟨(atVq hE.drew), (atCell (hNm.out _ (hE.drew.suf (by repeat (first | exact List.suffix_refl _ | refine List.IsSuffix.trans ?_ (List.suffix_cons _ _) | refine List.IsSuffix.trans ?_ (List.suffix_append _ _))))) (by simp [go_sem]))⟩ (fun hS => ?_)
    refine tV 0 hS ?_; refine tL 1 hS ?_; refine tV 2 hS ?_; refine tV 3 hS ?_; refine tL 4 hS ?_
    refine tO 5 (fun K hK => ?_)
    (go_simp; refine (hF.out _ (by repeat (first | exact List.suffix_refl _ | refine List.IsSuffix.trans ?_ (List.suffix_cons _ _) | refine List.IsSuffix.trans ?_ (List.suffix_append _ _))) _ hE.drew).mono ?_; rintro e w3 ⟨v, rfl, rfl, hE3⟩)
    refine tK hK ⟨(atVq hE3), (atCell (hNm.out _ (hE3.suf (by repeat (first | exact List.suffix_refl _ | refine List.IsSuffix.trans ?_ (List.suffix_cons _ _) | refine List.IsSuffix.trans ?_ (List.suffix_append _ _))))) (by simp [go_sem]))⟩ (fun hS => ?_); clear hK K
    refine tV 6 hS ?_; refine tV 7 hS ?_; refine tV 8 hS ?_; refine tV 9 hS ?_; refine tV 10 hS ?_
    refine wpAnyH_done (by kernel_rfl) ?_ _
    clear hE hS
    have hE := hE3
    clear hE3
    go_wp2_with (first
      | go_skip
      | (refine ldX hE ?_)
      | (refine swX (t := 35) hE [.bool false, .string ⟨#[]⟩, .slice none 0 0] Tryd.sizeOf35 ?_; clear hE; intro w hE))
    refine bodyPost_ret (results_cell2 rfl hE 0 rfl rfl Tryd.isAgg35 Tryd.sizeOf35 rfl rfl) rfl ?_
    exact ⟨_, rfl, [], .slice none 0 0, rfl, hE.tail.tail.tail, KidsAt.nil _⟩
  | false =>
    rw [if_pos (by simp)] at HT
    have h0p : (0 : Int) ≤ (p : Int) + 1 := by omega
    have hwp : IntKind.i64.wrap ((p : Int) + 1) = (p : Int) + 1 := wrap_id (by omega)
    have hs1 : ∀ w, (Instr.sliceAt 33 (.slice ao ks.length c) none (some (.int .i64 p)) none).run Tryd.prog w = .ok (.slice ao p c) w := fun w => by
      rw [sliceAt_slice Tryd.underlying33, run_cut_hi Tryd.underlying33 Tryd.sizeOf55 ao _ c .i64 p (by omega), cut_zero]; rfl
    have hs2 : ∀ w, (Instr.sliceAt 33 (.slice ao ks.length c) (some (.int .i64 p)) none none).run Tryd.prog w = .ok (.slice (cutAt 4 ao c p) (ks.length - p) (c - p)) w := fun w => by
      rw [sliceAt_slice Tryd.underlying33, run_cut_lo Tryd.underlying33 Tryd.sizeOf55 ao _ c .i64 p (by omega)]
    have hs3 : ∀ g w, (Instr.sliceAt 33 (.slice (some ⟨g, 0, none⟩) (ks.length + 1) (ks.length + 1)) (some (.int .i64 ((p : Int) + 1))) none none).run Tryd.prog w = .ok (.slice (cutAt 4 (some ⟨g, 0, none⟩) (ks.length + 1) (p + 1)) (ks.length - p) (ks.length - p)) w := fun g w => by
      rw [sliceAt_slice Tryd.underlying33, show (p : Int) + 1 = ((p + 1 : Nat) : Int) from rfl, run_cut_lo Tryd.underlying33 Tryd.sizeOf55 _ _ (ks.length + 1) .i64 (p + 1) (by omega), Nat.add_sub_add_right]
    have hpN : (p : Int) < (ks.length : Int) + 1 := by omega
    have hpN2 : p < ks.length + 1 := by omega
    have HpN := SL.hid (show p ≤ ks.length ∧ ks.length ≤ c ∧ ks.length ≤ 6 from by omega)
    have Hc1 := SL.hid (show (6 < ks.length + 1 ∨ 8192 < xb.length) ↔ ((decide ((6 : Int) < (ks.length : Int) + 1) || decide ((8192 : Int) < (xb.length : Int))) = true) from by
      rw [Bool.or_eq_true, decide_eq_true_eq, decide_eq_true_eq]; omega)
    clear hc
    as_aux_lemma =>
    go_enter Tryd.func33, Tryd.ntmps33
    go_wp2_with (first
      | go_skip
      | ((with_reducible (show Go.wpList _ _ _ (Go.Oper.mk _ (.box _ (.tmp 0)) _ _ _ _ :: _) _ _)); (refine bxX hE ?_; clear hE; intro b3 w hE))
      | ((with_reducible (show Go.wpList _ _ _ (Go.Oper.mk _ (.box _ (.tmp 2)) _ _ _ _ :: _) _ _)); (refine bxX hE ?_; clear hE; intro b5 w hE))
      | (refine alX hE ?_; clear hE; intro b6 w hE)
      | (refine ldX hE ?_))
    refine wp_region_held_drew (S := (fun w' => ((Instr.loadAt 33 (.pointer (some ⟨b3, 2, none⟩))).run Tryd.prog w' = .ok (.slice ao ks.length c) w') ∧ ((Instr.loadAt 9 (.pointer (some ⟨bn, on, none⟩))).run Tryd.prog w' = .ok (.string ⟨n.toArray⟩) w'))) (by kernel_rfl) ⟨(atVq hE.drew), (atCell (hNm.out _ (hE.drew.suf (by repeat (first | exact List.suffix_refl _ | refine List.IsSuffix.trans ?_ (List.suffix_cons _ _) | refine List.IsSuffix.trans ?_ (List.suffix_append _ _))))) (by simp [go_sem]))⟩ (fun hS => ?_)
    refine tV 0 hS ?_; refine tL 1 hS ?_; refine tV 2 hS ?_; refine tV 3 hS ?_; refine tL 4 hS ?_
    refine tO 5 (fun K hK => ?_)
    (go_simp; refine (hF.out _ (by repeat (first | exact List.suffix_refl _ | refine List.IsSuffix.trans ?_ (List.suffix_cons _ _) | refine List.IsSuffix.trans ?_ (List.suffix_append _ _))) _ hE.drew).mono ?_; rintro e w3 ⟨v, rfl, rfl, hE3⟩)
    refine tK hK ⟨(atVq hE3), (atCell (hNm.out _ (hE3.suf (by repeat (first | exact List.suffix_refl _ | refine List.IsSuffix.trans ?_ (List.suffix_cons _ _) | refine List.IsSuffix.trans ?_ (List.suffix_append _ _))))) (by simp [go_sem]))⟩ (fun hS => ?_); clear hK K
    refine tV 6 hS ?_; refine tV 7 hS ?_; refine tV 8 hS ?_; refine tV 9 hS ?_; refine tV 10 hS ?_
    refine wpAnyH_done (by kernel_rfl) ?_ _
    clear hE hS
    have hE := hE3
    clear hE3
    go_wp2_with (first
      | go_skip
      | (refine ldX hE ?_)
      | ((with_reducible (show Go.wpList _ _ _ (Go.Oper.mk _ (.makeSlice _ _ _) _ _ _ _ :: _) _ _)); refine wpl_make hE rfl rfl Tryd.underlying33 nd_bytes rfl (by decide) (ks.length + 1) rfl rfl (by have := HpN.out; omega) (by have := HpN.out; omega) ?_; clear hE; intro g w4 hE)
      | ((with_reducible (show Go.wpList _ _ _ (Go.Oper.mk _ (.call { callee := .builtin .copy, args := _, argTypes := _ }) _ _ _ _ :: _) _ _)); refine wpl_copyK (size := 4) (j := 0) (dLen := ks.length + 1) (dCap := ks.length + 1) hE 0 rfl rfl rfl (by rw [cut_zero]; rfl) rfl Tryd.underlying33 sz_kid (m := p) (ys := (kCs ks vs).take (p * 4)) (reads_first (Hkn.out _ (hE.suf (by repeat (first | exact List.suffix_refl _ | refine List.IsSuffix.trans ?_ (List.suffix_cons _ _) | refine List.IsSuffix.trans ?_ (List.suffix_append _ _))))) HpN.out.1) (by rw [List.length_take, Hlen.out]; have := HpN.out; omega) (fun u hu => Hone.out u (List.mem_of_mem_take hu)) (by have := HpN.out; omega) (by have := HpN.out; omega) ?_; clear hE; intro w5 hE; simp only [List.set_cons_zero] at hE))
    have hs4 := hs3 g
    clear hs3 hs1
    refine wp_region_held_drew (S := (fun w' => ((Instr.loadAt 33 (.pointer (some ⟨b3, 2, none⟩))).run Tryd.prog w' = .ok (.slice ao ks.length c) w'))) (by kernel_rfl) (atVq hE.drew) (fun hS => ?_)
    refine tV 0 hS ?_; refine tV 1 hS ?_; refine tV 2 hS ?_; refine tV 3 hS ?_; refine tV 4 hS ?_; refine tL 5 hS ?_; refine tV 6 hS ?_; refine tV 7 hS ?_
    refine tO 8 (fun K hK => ?_)
    (refine step_copyK (size := 4) (j := p + 1) (dLen := ks.length - p) (dCap := ks.length - p) hE.drew 0 rfl rfl (by rfl) (by rfl) (by rfl) Tryd.underlying33 sz_kid (m := ks.length - p) (ys := (kCs ks vs).drop (p * 4)) (reads_behind (Hkn.out _ (hE.drew.suf (by repeat (first | exact List.suffix_refl _ | refine List.IsSuffix.trans ?_ (List.suffix_cons _ _) | refine List.IsSuffix.trans ?_ (List.suffix_append _ _))))) Hlen.out HpN.out.2.1 HpN.out.1) (by rw [List.length_drop, Hlen.out, Nat.sub_mul]) (fun u hu => Hone.out u (List.mem_of_mem_drop hu)) (by have := HpN.out; omega) (by have := HpN.out; omega) ?_; intro w6 hE6; simp only [List.set_cons_zero] at hE6)
    refine tK hK (atVq hE6) (fun hS => ?_); clear hK K
    refine wpAnyH_done (by kernel_rfl) ?_ _
    clear hE hS hs2 hs4
    have hE := hE6
    clear hE6
    go_wp2_with (first | go_skip)
    refine wp_region_held_drew (S := (fun w' => ((Instr.loadAt 9 (.pointer (some ⟨bn, on, none⟩))).run Tryd.prog w' = .ok (.string ⟨n.toArray⟩) w') ∧ ((Instr.loadAt 35 (.pointer (some ⟨b5, 0, none⟩))).run Tryd.prog w' = .ok (.agg #[.bool xd, .string ⟨xb.toArray⟩, .slice none 0 0]) w'))) (by kernel_rfl) ⟨(atCell (hNm.out _ (hE.drew.suf (by repeat (first | exact List.suffix_refl _ | refine List.IsSuffix.trans ?_ (List.suffix_cons _ _) | refine List.IsSuffix.trans ?_ (List.suffix_append _ _))))) (by simp [go_sem])), (atWm (vs := [.bool xd, .string ⟨xb.toArray⟩, .slice none 0 0]) hE.drew (by repeat (first | exact List.Mem.head _ | refine List.Mem.tail _ ?_)) Tryd.isAgg35 Tryd.sizeOf35 rfl)⟩ (fun hS => ?_)
    refine tV 0 hS ?_; refine tV 1 hS ?_; refine tV 2 hS ?_; refine tV 3 hS ?_; refine tL 4 hS ?_; refine tL 5 hS ?_; refine tV 6 hS ?_; refine tV 7 hS ?_
    refine tO 8 (fun K hK => ?_)
    (refine step_storeRow hE.drew 0 (kC (n, .leafOf xd xb) (.slice none 0 0)) rfl rfl (by rfl) (by rfl) (by rfl) Tryd.sizeOf55 rfl (by simp [kC, Value.oneCell']) (off := p * 4) (by have := HpN.out; omega) ?_; intro w7 hE7; simp only [List.set_cons_zero] at hE7)
    refine tK hK ⟨(atCell (hNm.out _ (hE7.suf (by repeat (first | exact List.suffix_refl _ | refine List.IsSuffix.trans ?_ (List.suffix_cons _ _) | refine List.IsSuffix.trans ?_ (List.suffix_append _ _))))) (by simp [go_sem])), (atWm (vs := [.bool xd, .string ⟨xb.toArray⟩, .slice none 0 0]) hE7 (by repeat (first | exact List.Mem.head _ | refine List.Mem.tail _ ?_)) Tryd.isAgg35 Tryd.sizeOf35 rfl)⟩ (fun hS => ?_); clear hK K
    refine wpAnyH_done (by kernel_rfl) ?_ _
    clear hE hS
    have hE := hE7
    clear hE7
    have hZ := Hins.out (List.replicate (ks.length + 1) zkid).flatten (zkids_len _)
    rw [hZ] at hE
    cases c1 : decide ((6 : Int) < (ks.length : Int) + 1) <;> cases c2 : decide ((8192 : Int) < (xb.length : Int))
    all_goals rw [c1, c2] at Hc1
    rotate_left
    all_goals try (
      rw [if_pos (Hc1.out.2 (by rfl))] at HT
      go_wp2_with (first
        | go_skip
        | (refine ldX hE ?_)
        | ((with_reducible (show Go.wpList _ _ _ (Go.Oper.mk _ (.store 35 _ _) _ _ _ _ :: _) _ _)); refine wpl_storeW hE 1 rfl rfl rfl (xs := [.bool false, .string ⟨#[]⟩, .slice none 0 0]) rfl rfl Tryd.sizeOf35 rfl (by simp [Value.oneCell']) rfl ?_; clear hE; intro w8 hE; simp only [List.set_cons_zero, List.set_cons_succ] at hE))
      refine bodyPost_ret (results_cell2 rfl hE 1 rfl rfl Tryd.isAgg35 Tryd.sizeOf35 rfl rfl) rfl ?_
      rw [HT.out]
      exact ⟨_, rfl, [], .slice none 0 0, rfl, hE.tail.tail.tail.tail, KidsAt.nil _⟩)
    rw [if_neg (fun h => absurd (Hc1.out.1 h) (by decide))] at HT
    go_wp2_with (first
      | go_skip
      | (refine ldX hE ?_)
      | ((with_reducible (show Go.wpList _ _ _ (Go.Oper.mk _ (.store 35 _ _) _ _ _ _ :: _) _ _)); refine wpl_storeW hE 1 rfl rfl rfl (xs := [.bool true, .string ⟨#[]⟩, .slice (some ⟨g, 0, none⟩) (ks.length + 1) (ks.length + 1)]) rfl rfl Tryd.sizeOf35 rfl (by simp [Value.oneCell']) rfl ?_; clear hE; intro w8 hE; simp only [List.set_cons_zero, List.set_cons_succ] at hE))
    refine bodyPost_ret (results_cell2 rfl hE 1 rfl rfl Tryd.isAgg35 Tryd.sizeOf35 rfl rfl) rfl ?_
    rw [HT.out]
    refine ⟨_, rfl, [row 55 4 (.slice (some ⟨g, 0, none⟩) (ks.length + 1) (ks.length + 1)) (ks.length + 1) (kCs (Tr.insAt p (n, Tr.leafOf xd xb) ks) (Tr.insAt p (.slice none 0 0) vs))], .slice (some ⟨g, 0, none⟩) (ks.length + 1) (ks.length + 1), rfl, Ent.keepNew (((hE.erase 1).erase 1).erase 1), ?_⟩
    have e : (Tr.insAt p (n, Tr.leafOf xd xb) ks).length = ks.length + 1 := Hil.out
    have hE9 : ∀ w, Ent ([row 55 4 (.slice (some ⟨g, 0, none⟩) (ks.length + 1) (ks.length + 1)) (ks.length + 1) (kCs (Tr.insAt p (n, Tr.leafOf xd xb) ks) (Tr.insAt p (.slice none 0 0) vs))] ++ lb) w → reads (.slice (some ⟨g, 0, none⟩) (ks.length + 1) (ks.length + 1)) (ks.length + 1) (kCs (Tr.insAt p (n, Tr.leafOf xd xb) ks) (Tr.insAt p (.slice none 0 0) vs)) w := fun w h => reads_row h 0 rfl
    show KidsAt _ _ (Tr.insAt p (n, Tr.leafOf xd xb) ks)
    have h := KidsAt.mk (l := [row 55 4 (.slice (some ⟨g, 0, none⟩) (ks.length + 1) (ks.length + 1)) (ks.length + 1) (kCs (Tr.insAt p (n, Tr.leafOf xd xb) ks) (Tr.insAt p (.slice none 0 0) vs))] ++ lb) (some ⟨g, 0, none⟩) (ks.length + 1) (Tr.insAt p (n, Tr.leafOf xd xb) ks) (Tr.insAt p (.slice none 0 0) vs) (by omega) (by rw [Hvl.out, e, Hl.out]) (by rw [e]; exact hE9) (fun i h h' => (Hkk.out i h h').suf (List.suffix_append _ _))
    rwa [e] at h

/-- the contract of with at names and a node -/
def WithC (q : List (List UInt8)) (xd : Bool) (xb : List UInt8) : Prop :=
  ∀ (t : Tr) (dp : Nat), Tr.Wf dp t → ∀ (kv : Value) (pre lb : List HProp) (an : Option Addr) (cn : Nat) (w : World), KidsAt lb kv t.kids → q.length ≤ cn → Knows (pre ++ lb) (reads (.slice an q.length cn) q.length (q.map strv)) → Ent (pre ++ lb) w →
    Calls Tryd.prog 33 #[nodeV t kv, .slice an q.length cn, .agg #[.bool xd, .string ⟨xb.toArray⟩, .slice none 0 0]] w
      (Ret fun v w' => ∃ m kv', v = .tuple #[nodeV (Tr.withT q xd xb t).2 kv', .int .i64 (Tr.withT q xd xb t).1] ∧ Ent (pre ++ (m ++ lb)) w' ∧ KidsAt (m ++ lb) kv' (Tr.withT q xd xb t).2.kids)

set_option maxRecDepth 100000 in
set_option maxHeartbeats 8000000 in
attribute [-go_sem] Instr.loadAt in
theorem with_more {dt : List UInt8} {ks : List (List UInt8 × Tr)} {dp : Nat} (hw : Tr.Wf dp (.nd true dt ks)) {kv : Value} {pre lb : List HProp} (hkv : KidsAt lb kv ks) (hr : Rising (ks.map Prod.fst)) (h6 : ks.length ≤ 6) {n : List UInt8} {q : List (List UInt8)} (hq : q ≠ []) (hql : q.length ≤ 1000) {an : Option Addr} {cn : Nat} (hcn : (n :: q).length ≤ cn) {xd : Bool} {xb : List UInt8}
    (IH : WithC q xd xb) (hn : Knows (pre ++ lb) (reads (.slice an (n :: q).length cn) (n :: q).length ((n :: q).map strv))) {w : World} (hE : Ent (pre ++ lb) w) :
    Calls Tryd.prog 33 #[.agg #[.bool true, .string ⟨dt.toArray⟩, kv], .slice an (n :: q).length cn, .agg #[.bool xd, .string ⟨xb.toArray⟩, .slice none 0 0]] w
      (Ret fun v w' => ∃ m kv', v = .tuple #[nodeV (Tr.withT (n :: q) xd xb (.nd true dt ks)).2 kv', .int .i64 (Tr.withT (n :: q) xd xb (.nd true dt ks)).1] ∧ Ent (pre ++ (m ++ lb)) w' ∧ KidsAt (m ++ lb) kv' (Tr.withT (n :: q) xd xb (.nd true dt ks)).2.kids) := by
  have hT := withT_dir (n := n) hq xd xb dt ks
  have hp := (find_at hr n).2.1
  rw [List.length_map] at hp
  have hplace : isIn (ks.map Prod.fst) n = true → ∃ x : Tr, ks[placeOf (ks.map Prod.fst) n]? = some (n, x) := fun h => by
    obtain ⟨hi, e, _⟩ := Tr.kid_place (t := .nd true dt ks) hr h
    exact ⟨_, (List.getElem?_eq_getElem hi).trans (congrArg some (Prod.ext e rfl))⟩
  obtain ⟨ao, c, vs, rfl, hc, hl, hkn, hks, hone⟩ := hkv.open
  obtain ⟨bn, on, rfl, hz⟩ := reads_form (hn _ hE) (by simp) (by simp)
  clear hz
  have hNm := SL.hid (show ∀ W, Ent (pre ++ lb) W → W.cell? ⟨bn, on, none⟩ = some (.string ⟨n.toArray⟩) from fun W hW => by
    obtain ⟨b', o', e, h⟩ := reads_form (hn _ hW) (by simp) (by simp)
    cases e
    exact h 0 _ rfl)
  have hF := SL.hid (show ∀ (L : List HProp), (pre ++ lb) <:+ L → ∀ w, Ent L w → Calls Tryd.prog 43 #[.slice ao ks.length c, .string ⟨n.toArray⟩, .func (.func 44) #[] #[]] w
      (Ret fun r w' => r = .tuple #[.int .i64 (placeOf (ks.map Prod.fst) n), .bool (isIn (ks.map Prod.fst) n)] ∧ Ent L w') from fun L hL w hw => find_any (hkv.suf ((List.suffix_append pre lb).trans hL)) hr (by omega) n hw)
  have Hkn := SL.hid (show Knows (pre ++ lb) (reads (.slice ao ks.length c) ks.length (kCs ks vs)) from hkn.append)
  have Hlen := SL.hid (kCs_len hl)
  have Hone := SL.hid hone
  have Hl := SL.hid hl
  have hq0 : 0 < q.length := by cases q with | nil => exact absurd rfl hq | cons a b => simp
  have hL0 : (((n :: q).length : Int) == 0) = false := by rw [beq_eq_false_iff_ne]; simp; omega
  have hL1 : (((n :: q).length : Int) == 1) = false := by rw [beq_eq_false_iff_ne]; simp; omega
  have hs4 : ∀ w, (Instr.sliceAt 62 (.slice (some ⟨bn, on, none⟩) (n :: q).length cn) (some (.int .i64 1)) none none).run Tryd.prog w = .ok (.slice (cutAt 1 (some ⟨bn, on, none⟩) cn 1) q.length (cn - 1)) w := fun w => by
    rw [sliceAt_slice Tryd.underlying62]
    exact run_cut_lo Tryd.underlying62 Tryd.sizeOf9 _ (n :: q).length cn .i64 1 (by simp)
  have Hn2 := SL.hid (show Knows (pre ++ lb) (reads (.slice (cutAt 1 (some ⟨bn, on, none⟩) cn 1) q.length (cn - 1)) q.length (q.map strv)) from fun w hw => by
    have h := reads_behind (size := 1) (hn w hw) (by simp) hcn (k := 1) (by simp)
    simpa using h)
  have hix : 0 < (n :: q).length := by simp
  have Hcn := SL.hid (show q.length ≤ cn - 1 by simp at hcn; omega)
  clear hn hkv hr hkn hone hcn
  generalize placeOf (ks.map Prod.fst) n = p at *
  generalize isIn (ks.map Prod.fst) n = is at *
  generalize (n :: q).length = L at *
  cases is with
  | false =>
    have HT := SL.hid (hT.trans (if_neg (by simp)))
    clear hT hplace
    rw [HT.out]
    as_aux_lemma =>
    go_enter Tryd.func33, Tryd.ntmps33
    go_wp2_with (first
      | go_skip
      | ((with_reducible (show Go.wpList _ _ _ (Go.Oper.mk _ (.box _ (.tmp 0)) _ _ _ _ :: _) _ _)); (refine bxX hE ?_; clear hE; intro b3 w hE))
      | ((with_reducible (show Go.wpList _ _ _ (Go.Oper.mk _ (.box _ (.tmp 2)) _ _ _ _ :: _) _ _)); (refine bxX hE ?_; clear hE; intro b5 w hE))
      | (refine alX hE ?_; clear hE; intro b6 w hE)
      | (refine ldX hE ?_))
    refine wp_region_held_drew (S := (fun w' => ((Instr.loadAt 33 (.pointer (some ⟨b3, 2, none⟩))).run Tryd.prog w' = .ok (.slice ao ks.length c) w') ∧ ((Instr.loadAt 9 (.pointer (some ⟨bn, on, none⟩))).run Tryd.prog w' = .ok (.string ⟨n.toArray⟩) w'))) (by kernel_rfl) ⟨(atVq hE.drew), (atCell (hNm.out _ (hE.drew.suf (by repeat (first | exact List.suffix_refl _ | refine List.IsSuffix.trans ?_ (List.suffix_cons _ _) | refine List.IsSuffix.trans ?_ (List.suffix_append _ _))))) (by simp [go_sem]))⟩ (fun hS => ?_)
    refine tV 0 hS ?_; refine tL 1 hS ?_; refine tV 2 hS ?_; refine tV 3 hS ?_; refine tL 4 hS ?_
    refine tO 5 (fun K hK => ?_)
    (go_simp; refine (hF.out _ (by repeat (first | exact List.suffix_refl _ | refine List.IsSuffix.trans ?_ (List.suffix_cons _ _) | refine List.IsSuffix.trans ?_ (List.suffix_append _ _))) _ hE.drew).mono ?_; rintro e w3 ⟨v, rfl, rfl, hE3⟩)
    refine tK hK ⟨(atVq hE3), (atCell (hNm.out _ (hE3.suf (by repeat (first | exact List.suffix_refl _ | refine List.IsSuffix.trans ?_ (List.suffix_cons _ _) | refine List.IsSuffix.trans ?_ (List.suffix_append _ _))))) (by simp [go_sem]))⟩ (fun hS => ?_); clear hK K
    refine tV 6 hS ?_; refine tV 7 hS ?_; refine tV 8 hS ?_; refine tV 9 hS ?_; refine tV 10 hS ?_
    refine wpAnyH_done (by kernel_rfl) ?_ _
    clear hE hS
    have hE := hE3
    clear hE3
    go_wp2_with (first
      | go_skip
      | (refine ldX hE ?_)
      | (refine swX (t := 35) hE [.bool false, .string ⟨#[]⟩, .slice none 0 0] Tryd.sizeOf35 ?_; clear hE; intro w hE))
    refine bodyPost_ret (results_cell2 rfl hE 0 rfl rfl Tryd.isAgg35 Tryd.sizeOf35 rfl rfl) rfl ?_
    exact ⟨_, rfl, [], .slice none 0 0, rfl, hE.tail.tail.tail, KidsAt.nil _⟩
  | true =>
    obtain ⟨x0, hx0⟩ := hplace rfl
    obtain ⟨hpk, hpe⟩ := List.getElem?_eq_some_iff.1 hx0
    have hpn : ks[p].1 = n := by rw [hpe]
    clear hx0 hpe
    have hg : ks.getD p ([], Tr.zero) = ks[p] := by rw [List.getD_eq_getElem?_getD, List.getElem?_eq_getElem hpk]; rfl
    rw [if_pos rfl, hg] at hT
    obtain ⟨dp', rfl, hwk⟩ := Tr.wf_kid hw (List.getElem_mem hpk)
    have HK := SL.hid (show ∀ (A B C D : HProp) (w : World), Ent (A :: B :: C :: D :: (pre ++ lb)) w → Calls Tryd.prog 33 #[nodeV ks[p].2 (vs[p]'(by omega)), .slice (cutAt 1 (some ⟨bn, on, none⟩) cn 1) q.length (cn - 1), .agg #[.bool xd, .string ⟨xb.toArray⟩, .slice none 0 0]] w
      (Ret fun v w' => ∃ m kv', v = .tuple #[nodeV (Tr.withT q xd xb ks[p].2).2 kv', .int .i64 (Tr.withT q xd xb ks[p].2).1] ∧ Ent (A :: B :: C :: D :: (pre ++ (m ++ lb))) w' ∧ KidsAt (m ++ lb) kv' (Tr.withT q xd xb ks[p].2).2.kids) from
      fun A B C D w h => IH ks[p].2 dp' hwk _ (A :: B :: C :: D :: pre) lb _ _ w (hks p hpk (by omega)) Hcn.out (fun w hw => Hn2.out _ (hw.suf (by exact (List.suffix_append [A, B, C, D] (pre ++ lb))))) h)
    have HK5 := SL.hid (show ∀ (A B C D E : HProp) (w : World), Ent (A :: B :: C :: D :: E :: (pre ++ lb)) w → Calls Tryd.prog 33 #[nodeV ks[p].2 (vs[p]'(by omega)), .slice (cutAt 1 (some ⟨bn, on, none⟩) cn 1) q.length (cn - 1), .agg #[.bool xd, .string ⟨xb.toArray⟩, .slice none 0 0]] w
      (Ret fun v w' => ∃ m kv', v = .tuple #[nodeV (Tr.withT q xd xb ks[p].2).2 kv', .int .i64 (Tr.withT q xd xb ks[p].2).1] ∧ Ent (A :: B :: C :: D :: E :: (pre ++ (m ++ lb))) w' ∧ KidsAt (m ++ lb) kv' (Tr.withT q xd xb ks[p].2).2.kids) from
      fun A B C D E w h => IH ks[p].2 dp' hwk _ (A :: B :: C :: D :: E :: pre) lb _ _ w (hks p hpk (by omega)) Hcn.out (fun w hw => Hn2.out _ (hw.suf (by exact (List.suffix_append [A, B, C, D, E] (pre ++ lb))))) h)
    have hLd := SL.hid (show ∀ (W : World), Ent (pre ++ lb) W → ∀ j v, [Value.bool ks[p].2.dir, .string ⟨ks[p].2.data.toArray⟩, vs[p]'(by omega)][j]? = some v → ∃ b off, ao = some ⟨b, off, none⟩ ∧ W.cell? ⟨b, off + p * 4 + 1 + j, none⟩ = some v from fun W hW j v hv => by
      obtain ⟨b, off, e, h⟩ := kids_at hl (Hkn.out W hW) hpk
      exact ⟨b, off, e, by have := h (1 + j) v (by rw [kC, Nat.add_comm 1 j]; simpa using hv); rwa [← Nat.add_assoc] at this⟩)
    obtain ⟨bk, ok, hao, hz⟩ := kids_at hl (Hkn.out _ hE) hpk
    clear hz
    subst hao
    have hLe := SL.hid (show ∀ (W : World), Ent (pre ++ lb) W → ∀ j v, [Value.bool ks[p].2.dir, .string ⟨ks[p].2.data.toArray⟩, vs[p]'(by omega)][j]? = some v → W.cell? ((⟨bk, ok + p * 4 + 1, none⟩ : Addr).add j) = some v from fun W hW j v hv => by
      obtain ⟨b, off, e, h⟩ := hLd.out W hW j v hv
      cases e
      rwa [Addr.add_lit])
    have Hset := SL.hid (fun (x : Tr) (v : Value) (z : List Value) (hz : z.length = ks.length * 4) => kCs_set hl hpk x v z hz)
    rw [hpn] at Hset
    have Hkk := SL.hid (show ∀ (m : List HProp) (A : HProp) (x : Tr) (v : Value), KidsAt (m ++ lb) v x.kids → ∀ (i : Nat) (h : i < (ks.set p (n, x)).length) (h' : i < (vs.set p v).length), KidsAt (A :: (m ++ lb)) (vs.set p v)[i] (ks.set p (n, x))[i].2.kids from fun m A x v hx =>
      set_kids hl hks ((List.suffix_append m lb).trans (List.suffix_cons _ _)) p (hx.suf (List.suffix_cons _ _)))
    have hs1 : ∀ w, (Instr.sliceAt 33 (.slice (some ⟨bk, ok, none⟩) ks.length c) none (some (.int .i64 p)) none).run Tryd.prog w = .ok (.slice (some ⟨bk, ok, none⟩) p c) w := fun w => by
      rw [sliceAt_slice Tryd.underlying33, run_cut_hi Tryd.underlying33 Tryd.sizeOf55 _ _ c .i64 p (by omega), cut_zero]; rfl
    have hs2 : ∀ w, (Instr.sliceAt 33 (.slice (some ⟨bk, ok, none⟩) ks.length c) (some (.int .i64 p)) none none).run Tryd.prog w = .ok (.slice (cutAt 4 (some ⟨bk, ok, none⟩) c p) (ks.length - p) (c - p)) w := fun w => by
      rw [sliceAt_slice Tryd.underlying33, run_cut_lo Tryd.underlying33 Tryd.sizeOf55 _ _ c .i64 p (by omega)]
    have hs3 : ∀ g w, (Instr.sliceAt 33 (.slice (some ⟨g, 0, none⟩) ks.length ks.length) (some (.int .i64 p)) none none).run Tryd.prog w = .ok (.slice (cutAt 4 (some ⟨g, 0, none⟩) ks.length p) (ks.length - p) (ks.length - p)) w := fun g w => by
      rw [sliceAt_slice Tryd.underlying33, run_cut_lo Tryd.underlying33 Tryd.sizeOf55 _ _ ks.length .i64 p (by omega)]
    have HpN := SL.hid (show p < ks.length ∧ ks.length ≤ c ∧ ks.length ≤ 6 from ⟨hpk, hc, h6⟩)
    have Hkl := SL.hid (show (ks.set p (n, (Tr.withT q xd xb ks[p].2).2)).length = ks.length ∧ ∀ v, (vs.set p v).length = ks.length from ⟨by simp, fun v => by simp [hl]⟩)
    simp only [nodeV] at HK HK5
    clear hw hks hc hwk hLd
    generalize hres : Tr.withT q xd xb ks[p].2 = res at *
    obtain ⟨er, kd⟩ := res
    simp only at HK HK5 hT Hkl
    clear hres
    have HT := SL.hid hT
    clear hT hplace
    generalize ks[p].2.dir = kdr at *
    generalize ks[p].2.data = kdt at *
    obtain ⟨kvp, hkvp⟩ : ∃ x, vs[p]'(by omega) = x := ⟨_, rfl⟩
    rw [hkvp] at HK HK5 hLe
    clear hkvp hl
    as_aux_lemma =>
    go_enter Tryd.func33, Tryd.ntmps33
    go_wp2_with (first
      | go_skip
      | ((with_reducible (show Go.wpList _ _ _ (Go.Oper.mk _ (.box _ (.tmp 0)) _ _ _ _ :: _) _ _)); (refine bxX hE ?_; clear hE; intro b3 w hE))
      | ((with_reducible (show Go.wpList _ _ _ (Go.Oper.mk _ (.box _ (.tmp 2)) _ _ _ _ :: _) _ _)); (refine bxX hE ?_; clear hE; intro b5 w hE))
      | (refine alX hE ?_; clear hE; intro b6 w hE)
      | (refine ldX hE ?_))
    refine wp_region_held_drew (S := (fun w' => ((Instr.loadAt 33 (.pointer (some ⟨b3, 2, none⟩))).run Tryd.prog w' = .ok (.slice (some ⟨bk, ok, none⟩) ks.length c) w') ∧ ((Instr.loadAt 9 (.pointer (some ⟨bn, on, none⟩))).run Tryd.prog w' = .ok (.string ⟨n.toArray⟩) w'))) (by kernel_rfl) ⟨(atVq hE.drew), (atCell (hNm.out _ (hE.drew.suf (by repeat (first | exact List.suffix_refl _ | refine List.IsSuffix.trans ?_ (List.suffix_cons _ _) | refine List.IsSuffix.trans ?_ (List.suffix_append _ _))))) (by simp [go_sem]))⟩ (fun hS => ?_)
    refine tV 0 hS ?_; refine tL 1 hS ?_; refine tV 2 hS ?_; refine tV 3 hS ?_; refine tL 4 hS ?_
    refine tO 5 (fun K hK => ?_)
    (go_simp; refine (hF.out _ (by repeat (first | exact List.suffix_refl _ | refine List.IsSuffix.trans ?_ (List.suffix_cons _ _) | refine List.IsSuffix.trans ?_ (List.suffix_append _ _))) _ hE.drew).mono ?_; rintro e w3 ⟨v, rfl, rfl, hE3⟩)
    refine tK hK ⟨(atVq hE3), (atCell (hNm.out _ (hE3.suf (by repeat (first | exact List.suffix_refl _ | refine List.IsSuffix.trans ?_ (List.suffix_cons _ _) | refine List.IsSuffix.trans ?_ (List.suffix_append _ _))))) (by simp [go_sem]))⟩ (fun hS => ?_); clear hK K
    refine tV 6 hS ?_; refine tV 7 hS ?_; refine tV 8 hS ?_; refine tV 9 hS ?_; refine tV 10 hS ?_
    refine wpAnyH_done (by kernel_rfl) ?_ _
    clear hE hS
    have hE := hE3
    clear hE3
    go_wp2_with (first
      | go_skip
      | (refine ldX hE ?_)
      | ((with_reducible (show Go.wpList _ _ _ (Go.Oper.mk _ (.makeSlice _ _ _) _ _ _ _ :: _) _ _)); refine wpl_make hE rfl rfl Tryd.underlying33 nd_bytes rfl (by decide) ks.length rfl rfl (by have := HpN.out; omega) (by have := HpN.out; omega) ?_; clear hE; intro g w4 hE)
      | ((with_reducible (show Go.wpList _ _ _ (Go.Oper.mk _ (.call { callee := .builtin .copy, args := _, argTypes := _ }) _ _ _ _ :: _) _ _)); refine wpl_copyK (size := 4) (j := 0) (dLen := ks.length) (dCap := ks.length) hE 0 rfl rfl rfl (by rw [cut_zero]; rfl) rfl Tryd.underlying33 sz_kid (m := p) (ys := (kCs ks vs).take (p * 4)) (reads_first (Hkn.out _ (hE.suf (by repeat (first | exact List.suffix_refl _ | refine List.IsSuffix.trans ?_ (List.suffix_cons _ _) | refine List.IsSuffix.trans ?_ (List.suffix_append _ _))))) (by have := HpN.out; omega)) (by rw [List.length_take, Hlen.out]; have := HpN.out; omega) (fun u hu => Hone.out u (List.mem_of_mem_take hu)) (by have := HpN.out; omega) (by have := HpN.out; omega) ?_; clear hE; intro w5 hE; simp only [List.set_cons_zero] at hE))
    have hs5 := hs3 g
    clear hs3 hs1
    refine wp_region_held_drew (S := (fun w' => ((Instr.loadAt 33 (.pointer (some ⟨b3, 2, none⟩))).run Tryd.prog w' = .ok (.slice (some ⟨bk, ok, none⟩) ks.length c) w') ∧ ((Instr.loadAt 35 (.pointer (some ⟨bk, ok + p * 4 + 1, none⟩))).run Tryd.prog w' = .ok (.agg #[.bool kdr, .string ⟨kdt.toArray⟩, kvp]) w') ∧ ((Instr.loadAt 35 (.pointer (some ⟨b5, 0, none⟩))).run Tryd.prog w' = .ok (.agg #[.bool xd, .string ⟨xb.toArray⟩, .slice none 0 0]) w'))) (by kernel_rfl) ⟨(atVq hE.drew), (atCells Tryd.isAgg35 Tryd.sizeOf35 [.bool kdr, .string ⟨kdt.toArray⟩, kvp] rfl (hLe.out _ (by first | (refine hE.drew.suf ?_; (repeat (first | exact List.suffix_refl _ | refine List.IsSuffix.trans ?_ (List.suffix_cons _ _))); done) | (refine Ent.mid (m := m) (hE.drew.suf ?_); (repeat (first | exact List.suffix_refl _ | refine List.IsSuffix.trans ?_ (List.suffix_cons _ _))))))), (atWm (vs := [.bool xd, .string ⟨xb.toArray⟩, .slice none 0 0]) hE.drew (by repeat (first | exact List.Mem.head _ | refine List.Mem.tail _ ?_)) Tryd.isAgg35 Tryd.sizeOf35 rfl)⟩ (fun hS => ?_)
    refine tV 0 hS ?_; refine tL 1 hS ?_; refine tV 2 hS ?_; refine tV 3 hS ?_; refine tV 4 hS ?_; refine tL 5 hS ?_; refine tV 6 hS ?_; refine tV 7 hS ?_; refine tL 8 hS ?_
    refine wpAnyH_ready (rs := [9, 13]) (by kernel_rfl) (by simp) ?_
    refine (AllReadyH.cons (o := ⟨some 91, .call { callee := .value (.func 33), args := #[.tmp 87, .tmp 89, .tmp 90], argTypes := #[35, 62, 35] }, _, _, _, none⟩) rfl (fun K hK => ?_) (AllReadyH.cons (o := ⟨some 13, .alloc 35, _, _, _, none⟩) rfl (fun K hK => ?_) AllReadyH.nil))
    focus
      (go_simp; (first | have H := HK5.out _ _ _ _ _ _ hA | have H := HK.out _ _ _ _ _ hE.drew); refine H.mono ?_; clear H; rintro e w6 ⟨v, rfl, m, kv', rfl, hH, hKA⟩)
      refine tK hK ⟨(atVq hH), (atCells Tryd.isAgg35 Tryd.sizeOf35 [.bool kdr, .string ⟨kdt.toArray⟩, kvp] rfl (hLe.out _ (by first | (refine hH.suf ?_; (repeat (first | exact List.suffix_refl _ | refine List.IsSuffix.trans ?_ (List.suffix_cons _ _))); done) | (refine Ent.mid (m := m) (hH.suf ?_); (repeat (first | exact List.suffix_refl _ | refine List.IsSuffix.trans ?_ (List.suffix_cons _ _))))))), (atWm (vs := [.bool xd, .string ⟨xb.toArray⟩, .slice none 0 0]) hH (by repeat (first | exact List.Mem.head _ | refine List.Mem.tail _ ?_)) Tryd.isAgg35 Tryd.sizeOf35 rfl)⟩ (fun hS => ?_); clear hK K
      refine tV 10 hS ?_; refine tV 11 hS ?_; refine tV 12 hS ?_
      refine tO 13 (fun K hK => ?_)
      (go_simp; (first | have hA := hH.alloc (.cells #[.bool false, .string ⟨#[]⟩, .slice none 0 0] 35) | have hA := hE.drew.alloc (.cells #[.bool false, .string ⟨#[]⟩, .slice none 0 0] 35)))
      refine tK hK ⟨(atVq hA), (atCells Tryd.isAgg35 Tryd.sizeOf35 [.bool kdr, .string ⟨kdt.toArray⟩, kvp] rfl (hLe.out _ (by first | (refine hA.suf ?_; (repeat (first | exact List.suffix_refl _ | refine List.IsSuffix.trans ?_ (List.suffix_cons _ _))); done) | (refine Ent.mid (m := m) (hA.suf ?_); (repeat (first | exact List.suffix_refl _ | refine List.IsSuffix.trans ?_ (List.suffix_cons _ _))))))), (atWm (vs := [.bool xd, .string ⟨xb.toArray⟩, .slice none 0 0]) hA (by repeat (first | exact List.Mem.head _ | refine List.Mem.tail _ ?_)) Tryd.isAgg35 Tryd.sizeOf35 rfl)⟩ (fun hS => ?_); clear hK K
      refine tO 14 (fun K hK => ?_)
      ((first | refine step_storeW hA 0 rfl (by rfl) (by rfl) (by rfl) (xs := [.bool kd.dir, .string ⟨kd.data.toArray⟩, kv']) (by rfl) Tryd.sizeOf35 rfl (by obtain ⟨a1, a2, rfl⟩ := hKA.slice; simp [Value.oneCell']) rfl ?_ | refine step_storeW hH 0 rfl (by rfl) (by rfl) (by rfl) (xs := [.bool kd.dir, .string ⟨kd.data.toArray⟩, kv']) (by rfl) Tryd.sizeOf35 rfl (by obtain ⟨a1, a2, rfl⟩ := hKA.slice; simp [Value.oneCell']) rfl ?_); intro w7 hEs; simp only [List.set_cons_zero, List.set_cons_succ] at hEs)
      refine tK hK ⟨(atVq hEs), (atCells Tryd.isAgg35 Tryd.sizeOf35 [.bool kdr, .string ⟨kdt.toArray⟩, kvp] rfl (hLe.out _ (by first | (refine hEs.suf ?_; (repeat (first | exact List.suffix_refl _ | refine List.IsSuffix.trans ?_ (List.suffix_cons _ _))); done) | (refine Ent.mid (m := m) (hEs.suf ?_); (repeat (first | exact List.suffix_refl _ | refine List.IsSuffix.trans ?_ (List.suffix_cons _ _))))))), (atWm (vs := [.bool xd, .string ⟨xb.toArray⟩, .slice none 0 0]) hEs (by repeat (first | exact List.Mem.head _ | refine List.Mem.tail _ ?_)) Tryd.isAgg35 Tryd.sizeOf35 rfl)⟩ (fun hS => ?_); clear hK K
      refine tV 15 hS ?_
      refine wpAnyH_done (by kernel_rfl) ?_ _
    rotate_right
    focus
      (go_simp; (first | have hA := hH.alloc (.cells #[.bool false, .string ⟨#[]⟩, .slice none 0 0] 35) | have hA := hE.drew.alloc (.cells #[.bool false, .string ⟨#[]⟩, .slice none 0 0] 35)))
      refine tK hK ⟨(atVq hA), (atCells Tryd.isAgg35 Tryd.sizeOf35 [.bool kdr, .string ⟨kdt.toArray⟩, kvp] rfl (hLe.out _ (by first | (refine hA.suf ?_; (repeat (first | exact List.suffix_refl _ | refine List.IsSuffix.trans ?_ (List.suffix_cons _ _))); done) | (refine Ent.mid (m := m) (hA.suf ?_); (repeat (first | exact List.suffix_refl _ | refine List.IsSuffix.trans ?_ (List.suffix_cons _ _))))))), (atWm (vs := [.bool xd, .string ⟨xb.toArray⟩, .slice none 0 0]) hA (by repeat (first | exact List.Mem.head _ | refine List.Mem.tail _ ?_)) Tryd.isAgg35 Tryd.sizeOf35 rfl)⟩ (fun hS => ?_); clear hK K
      refine tO 9 (fun K hK => ?_)
      (go_simp; (first | have H := HK5.out _ _ _ _ _ _ hA | have H := HK.out _ _ _ _ _ hE.drew); refine H.mono ?_; clear H; rintro e w6 ⟨v, rfl, m, kv', rfl, hH, hKA⟩)
      refine tK hK ⟨(atVq hH), (atCells Tryd.isAgg35 Tryd.sizeOf35 [.bool kdr, .string ⟨kdt.toArray⟩, kvp] rfl (hLe.out _ (by first | (refine hH.suf ?_; (repeat (first | exact List.suffix_refl _ | refine List.IsSuffix.trans ?_ (List.suffix_cons _ _))); done) | (refine Ent.mid (m := m) (hH.suf ?_); (repeat (first | exact List.suffix_refl _ | refine List.IsSuffix.trans ?_ (List.suffix_cons _ _))))))), (atWm (vs := [.bool xd, .string ⟨xb.toArray⟩, .slice none 0 0]) hH (by repeat (first | exact List.Mem.head _ | refine List.Mem.tail _ ?_)) Tryd.isAgg35 Tryd.sizeOf35 rfl)⟩ (fun hS => ?_); clear hK K
      refine tV 10 hS ?_; refine tV 11 hS ?_; refine tV 12 hS ?_
      refine tO 14 (fun K hK => ?_)
      ((first | refine step_storeW hA 0 rfl (by rfl) (by rfl) (by rfl) (xs := [.bool kd.dir, .string ⟨kd.data.toArray⟩, kv']) (by rfl) Tryd.sizeOf35 rfl (by obtain ⟨a1, a2, rfl⟩ := hKA.slice; simp [Value.oneCell']) rfl ?_ | refine step_storeW hH 0 rfl (by rfl) (by rfl) (by rfl) (xs := [.bool kd.dir, .string ⟨kd.data.toArray⟩, kv']) (by rfl) Tryd.sizeOf35 rfl (by obtain ⟨a1, a2, rfl⟩ := hKA.slice; simp [Value.oneCell']) rfl ?_); intro w7 hEs; simp only [List.set_cons_zero, List.set_cons_succ] at hEs)
      refine tK hK ⟨(atVq hEs), (atCells Tryd.isAgg35 Tryd.sizeOf35 [.bool kdr, .string ⟨kdt.toArray⟩, kvp] rfl (hLe.out _ (by first | (refine hEs.suf ?_; (repeat (first | exact List.suffix_refl _ | refine List.IsSuffix.trans ?_ (List.suffix_cons _ _))); done) | (refine Ent.mid (m := m) (hEs.suf ?_); (repeat (first | exact List.suffix_refl _ | refine List.IsSuffix.trans ?_ (List.suffix_cons _ _))))))), (atWm (vs := [.bool xd, .string ⟨xb.toArray⟩, .slice none 0 0]) hEs (by repeat (first | exact List.Mem.head _ | refine List.Mem.tail _ ?_)) Tryd.isAgg35 Tryd.sizeOf35 rfl)⟩ (fun hS => ?_); clear hK K
      refine tV 15 hS ?_
      refine wpAnyH_done (by kernel_rfl) ?_ _
    all_goals
      first
        | (change Ent (pt w5.heap.size (.cells [.bool kd.dir, .string ⟨kd.data.toArray⟩, kv'].toArray _) :: _) _ at hEs; generalize w5.heap.size = ra at *)
        | (change Ent (pt w6.heap.size (.cells [.bool kd.dir, .string ⟨kd.data.toArray⟩, kv'].toArray _) :: _) _ at hEs; generalize w6.heap.size = ra at *)
      have hE := hEs
      clear hEs hS
      try clear hH
      try clear hA
      replace hE : Ent (pt ra (.cells #[.bool kd.dir, .string ⟨kd.data.toArray⟩, kv'] 35) :: row 55 4 (.slice (some ⟨g, 0, none⟩) ks.length ks.length) ks.length (splice (List.replicate ks.length zkid).flatten (0 * 4) ((kCs ks vs).take (p * 4))) :: pt b6 (.cells #[.bool false, .string ⟨#[]⟩, .slice none 0 0] 35) :: pt b5 (.cells #[.bool xd, .string ⟨xb.toArray⟩, .slice none 0 0] 35) :: pt b3 (.cells #[.bool true, .string ⟨dt.toArray⟩, .slice (some ⟨bk, ok, none⟩) ks.length c] 35) :: (pre ++ (m ++ lb))) w7 := hE
      cases he : (er == 0) with
      | false =>
        have her : ¬ er = 0 := by simpa using he
        have hne : (er != 0) = true := by simp [bne, he]
        rw [if_neg her] at HT
        clear her he
        go_wp2_with (first
          | go_skip
          | (refine ldX hE ?_)
          | ((with_reducible (show Go.wpList _ _ _ (Go.Oper.mk _ (.store 35 _ _) _ _ _ _ :: _) _ _)); refine wpl_storeW hE 2 rfl rfl rfl (xs := [.bool false, .string ⟨#[]⟩, .slice none 0 0]) rfl rfl Tryd.sizeOf35 rfl (by simp [Value.oneCell']) rfl ?_; clear hE; intro w8 hE; simp only [List.set_cons_zero, List.set_cons_succ] at hE))
        refine bodyPost_ret (results_cell2 rfl hE 2 rfl rfl Tryd.isAgg35 Tryd.sizeOf35 rfl rfl) rfl ?_
        rw [HT.out]
        exact ⟨_, rfl, m, .slice none 0 0, rfl, hE.tail.tail.tail.tail.tail, KidsAt.nil _⟩
      | true =>
        obtain rfl : er = 0 := by simpa using he
        rw [if_pos rfl] at HT
        go_wp2_with (first
          | go_skip
          | (refine ldX hE ?_))
        refine wp_region_held_drew (S := (fun w' => ((Instr.loadAt 33 (.pointer (some ⟨b3, 2, none⟩))).run Tryd.prog w' = .ok (.slice (some ⟨bk, ok, none⟩) ks.length c) w'))) (by kernel_rfl) (atVq hE.drew) (fun hS => ?_)
        refine tV 0 hS ?_; refine tV 1 hS ?_; refine tV 2 hS ?_; refine tV 3 hS ?_; refine tL 4 hS ?_; refine tV 5 hS ?_; refine tV 6 hS ?_
        refine tO 7 (fun K hK => ?_)
        (refine step_copyK (size := 4) (j := p) (dLen := ks.length - p) (dCap := ks.length - p) hE.drew 1 rfl rfl (by rfl) (by rfl) (by rfl) Tryd.underlying33 sz_kid (m := ks.length - p) (ys := (kCs ks vs).drop (p * 4)) (reads_behind (Hkn.out _ (Ent.mid (hE.drew.suf (by repeat (first | exact List.suffix_refl _ | refine List.IsSuffix.trans ?_ (List.suffix_cons _ _) | refine List.IsSuffix.trans ?_ (List.suffix_append _ _)))))) Hlen.out HpN.out.2.1 (by have := HpN.out; omega)) (by rw [List.length_drop, Hlen.out, Nat.sub_mul]) (fun u hu => Hone.out u (List.mem_of_mem_drop hu)) (by have := HpN.out; omega) (by have := HpN.out; omega) ?_; intro w8 hE8; simp only [List.set_cons_zero, List.set_cons_succ] at hE8)
        refine tK hK (atVq hE8) (fun hS => ?_); clear hK K
        refine wpAnyH_done (by kernel_rfl) ?_ _
        clear hE hS hs2 hs5
        have hE := hE8
        clear hE8
        have hZ := Hset.out kd kv' (List.replicate ks.length zkid).flatten (zkids_len _)
        have hpi : (p : Int) < (ks.length : Int) := by have := HpN.out; omega
        have hpj : p < ks.length := HpN.out.1
        go_wp2_with (first
          | go_skip
          | ((with_reducible (show Go.wpList _ _ _ (Go.Oper.mk _ (.load 35 (.tmp 13)) _ _ _ _ :: _) _ _)); refine wpl_loadW (xs := [.bool kd.dir, .string ⟨kd.data.toArray⟩, kv']) hE 0 rfl rfl rfl rfl Tryd.isAgg35 Tryd.sizeOf35 rfl ?_)
          | ((with_reducible (show Go.wpList _ _ _ (Go.Oper.mk _ (.store 35 (.tmp 110) _) _ _ _ _ :: _) _ _)); refine wpl_storeRowA hE 1 [.bool kd.dir, .string ⟨kd.data.toArray⟩, kv'] rfl rfl rfl rfl rfl Tryd.sizeOf35 rfl (by obtain ⟨a1, a2, rfl⟩ := hKA.slice; simp [Value.oneCell']) (off := p * 4 + 1) (by have := HpN.out; omega) ?_; clear hE; intro w9 hE; simp only [List.set_cons_zero, List.set_cons_succ] at hE; rw [hZ] at hE)
          | ((with_reducible (show Go.wpList _ _ _ (Go.Oper.mk _ (.store 35 (.tmp 6) _) _ _ _ _ :: _) _ _)); refine wpl_storeW hE 2 rfl rfl rfl (xs := [.bool true, .string ⟨#[]⟩, .slice (some ⟨g, 0, none⟩) ks.length ks.length]) rfl rfl Tryd.sizeOf35 rfl (by simp [Value.oneCell']) rfl ?_; clear hE; intro w10 hE; simp only [List.set_cons_zero, List.set_cons_succ] at hE))
        refine bodyPost_ret (results_cell2 rfl hE 2 rfl rfl Tryd.isAgg35 Tryd.sizeOf35 rfl rfl) rfl ?_
        rw [HT.out]
        refine ⟨_, rfl, row 55 4 (.slice (some ⟨g, 0, none⟩) ks.length ks.length) ks.length (kCs (ks.set p (n, kd)) (vs.set p kv')) :: m, .slice (some ⟨g, 0, none⟩) ks.length ks.length, rfl, Ent.keepNew (((hE.tail.erase 1).erase 1).erase 1), ?_⟩
        have hkl := Hkl.out
        have h := KidsAt.mk (l := row 55 4 (.slice (some ⟨g, 0, none⟩) ks.length ks.length) ks.length (kCs (ks.set p (n, kd)) (vs.set p kv')) :: (m ++ lb)) (some ⟨g, 0, none⟩) ks.length (ks.set p (n, kd)) (vs.set p kv') (by rw [hkl.1]; exact Nat.le_refl _) (by rw [hkl.1, hkl.2]) (by rw [hkl.1]; exact fun w h => reads_row h 0 rfl) (Hkk.out m _ kd kv' hKA)
        rw [hkl.1] at h
        exact h
theorem with_any : ∀ (q : List (List UInt8)), q.length ≤ 1000 → ∀ (xd : Bool) (xb : List UInt8), xb.length ≤ 1000000 → WithC q xd xb
  | [], _, xd, xb, _ => fun t dp hw kv pre lb an cn w hkv hcn hn hE => by
    obtain ⟨d, dt, ks⟩ := t
    refine (with_bad (d := d) (L := 0) (.inr rfl) hE).mono ?_
    rintro e w' ⟨v, rfl, rfl, h⟩
    exact ⟨_, rfl, [], .slice none 0 0, rfl, h, KidsAt.nil _⟩
  | n :: q, hl, xd, xb, hx => fun t dp hw kv pre lb an cn w hkv hcn hn hE => by
    obtain ⟨d, dt, ks⟩ := t
    have hr := Tr.wf_rising hw
    have h6 := (Tr.wf_size hw).2
    cases d with
    | false =>
      have hz : Tr.withT (n :: q) xd xb (.nd false dt ks) = (8, .zero) := by cases q <;> rfl
      refine (with_bad (d := false) (.inl rfl) hE).mono ?_
      rintro e w' ⟨v, rfl, rfl, h⟩
      exact ⟨_, rfl, [], .slice none 0 0, by rw [hz]; rfl, h, by rw [hz]; exact KidsAt.nil _⟩
    | true =>
      by_cases hq : q = []
      · subst hq
        exact with_last hkv hr h6 hx hn hE
      · exact with_more hw hkv hr h6 hq (by simp at hl; omega) hcn (with_any q (by simp at hl; omega) xd xb hx) hn hE
end Go.Proofs.YtjdignaddfhohaaDoor
namespace Go.Proofs.YtjdignaddfhohaaDoor
open Go.RowKit Go.SL

def enC (x : En) : List Value := [.string ⟨x.path.toArray⟩, .bool x.dir, .string ⟨x.data.toArray⟩]
theorem enC_len (x : En) : (enC x).length = 3 := rfl
theorem enC_one (x : En) : ∀ u ∈ enC x, u.oneCell' = true := by simp [enC, Value.oneCell']
theorem enC_flat_len (xs : List En) : (xs.flatMap enC).length = xs.length * 3 := flatMap_len enC 3 enC_len xs
theorem mkb (a b : List UInt8) : ((⟨a.toArray⟩ : ByteArray) == ⟨b.toArray⟩) = (a == b) := by
  rw [beq_toListBytes, ByteArray.toList_eq, ByteArray.toList_eq]
/-- where an entry of a row lies -/
theorem en_at {w : World} {ao : Option Addr} {c : Nat} {xs : List En} (hr : reads (.slice ao xs.length c) xs.length (xs.flatMap enC) w) {k : Nat} (hk : k < xs.length) : ∃ b off, ao = some ⟨b, off, none⟩ ∧ ∀ j v, (enC xs[k])[j]? = some v → w.cell? ⟨b, off + k * 3 + j, none⟩ = some v := by
  obtain ⟨b, off, rfl, hc⟩ := reads_form hr (by omega) (by rw [enC_flat_len]; omega)
  refine ⟨b, off, rfl, fun j v hv => ?_⟩
  rw [Nat.add_assoc]
  exact hc _ _ (flatMap_at enC 3 enC_len xs k j xs[k] v (List.getElem?_eq_getElem hk) hv)
def BuRel (es : List En) (b2 b4 : Nat) (l : List HProp) (i : Value) (wr : World) : Prop :=
  ∃ (k : Nat) (t : Tr) (m : List HProp) (kv : Value), k ≤ es.length ∧ i = .int .i64 k ∧ buildT es = goT t (es.drop k) ∧ Good t (es.take k) ∧ KidsAt (m ++ l) kv t.kids ∧
    Ent (pt b4 (.cells #[.bool t.dir, .string ⟨t.data.toArray⟩, kv] 35) :: pt b2 (.cells #[.bool false, .string ⟨#[]⟩, .slice none 0 0] 35) :: (m ++ l)) wr

set_option maxRecDepth 100000 in
set_option maxHeartbeats 8000000 in
theorem Build_any {es : List En} (hn : es.length ≤ 1000) (hb : ∀ x ∈ es, x.path.length ≤ 1000000 ∧ x.data.length ≤ 1000000) {ao : Option Addr} {c : Nat} {l : List HProp} {w : World} (hk : Knows l (reads (.slice ao es.length c) es.length (es.flatMap enC))) (hE : Ent l w) :
    Calls Tryd.prog 17 #[.slice ao es.length c] w (Ret fun v w' => ∃ m kv, v = .tuple #[nodeV (buildT es).2 kv, .int .i64 (buildT es).1] ∧ Ent (m ++ l) w' ∧ KidsAt (m ++ l) kv (buildT es).2.kids) := by
  cases h64 : decide ((64 : Int) < (es.length : Int)) with
  | true =>
    have hT : buildT es = (6, .zero) := by rw [buildT, if_pos (by have := of_decide_eq_true h64; omega)]
    rw [hT]
    go_enter Tryd.func17, Tryd.ntmps17
    go_wp2_with (first
      | go_skip
      | (refine alX hE ?_; clear hE; intro b2 w hE)
      | (refine swX (t := 35) hE [.bool false, .string ⟨#[]⟩, .slice none 0 0] Tryd.sizeOf35 ?_; clear hE; intro w hE))
    refine bodyPost_ret (results_cell2 rfl hE 0 rfl rfl Tryd.isAgg35 Tryd.sizeOf35 rfl rfl) rfl ?_
    exact ⟨_, rfl, [], .slice none 0 0, rfl, hE.tail, KidsAt.nil _⟩
  | false =>
    have hT0 : buildT es = goT root es := by rw [buildT, if_neg (by have := of_decide_eq_false h64; omega)]
    go_enter Tryd.func17, Tryd.ntmps17
    have Tok := SL.hid True.intro
    go_wp2_with (first
      | go_skip
      | ((with_reducible (show Go.wpList _ _ _ (Go.Oper.mk _ (.alloc _) _ _ _ _ :: _) _ _)); clear Tok; (refine alX hE ?_; clear hE; intro b2 w hE))
      | (refine alX hE ?_; clear hE; intro b4 w hE)
      | ((with_reducible (show Go.wpList _ _ _ (Go.Oper.mk _ (.store 35 _ _) _ _ _ _ :: _) _ _)); refine wpl_storeW hE 0 rfl rfl rfl (xs := [.bool true, .string ⟨#[]⟩, .slice none 0 0]) rfl rfl Tryd.sizeOf35 rfl (by simp [Value.oneCell']) rfl ?_; clear hE; intro w8 hE; simp only [List.set_cons_zero] at hE))
    clear h64
    go_loopw [16] (fun i wr => BuRel es b2 b4 l i wr) (fun i _ => es.length - (intOf i).toNat)
    case atStart => exact ⟨0, root, [], .slice none 0 0, Nat.zero_le _, rfl, by rw [List.drop_zero]; exact hT0, by rw [List.take_zero]; exact good_root, KidsAt.nil _, hE⟩
    case round =>
      clear hE hT0
      obtain ⟨k, t, m, kv, hkn, rfl, hB, hG, hkv, hE⟩ := hrel
      by_cases hlt : k < es.length
      · obtain ⟨b, off, rfl, hz⟩ := en_at (hk _ (hE.suf (l' := l) (by exact (List.suffix_append m l).trans (List.suffix_append [_, _] _)))) hlt
        clear hz
        have hL := SL.hid (show ∀ W, Ent l W → ∀ j v, (enC es[k])[j]? = some v → W.cell? ⟨b, off + k * 3 + j, none⟩ = some v from fun W hW => by
          obtain ⟨b', off', e, h⟩ := en_at (hk _ hW) hlt
          cases e
          exact h)
        replace hL := SL.hid (show ∀ W, Ent (m ++ l) W → ∀ j v, (enC es[k])[j]? = some v → W.cell? ⟨b, off + k * 3 + j, none⟩ = some v from fun W hW => hL.out W hW.drop)
        have hx := hb _ (List.getElem_mem hlt)
        have htk := List.take_succ_eq_append_getElem hlt
        have hdk : es.drop k = es[k] :: es.drop (k + 1) := List.drop_eq_getElem_cons hlt
        rw [hdk] at hB
        generalize es[k] = x at *
        obtain ⟨xp, xd, xb⟩ := x
        simp only at hx
        have Hxb := SL.hid hx.2
        have HS := SL.hid (show ∀ (L : List HProp) (w : World), Ent L w → Calls Tryd.prog 27 #[.string ⟨xp.toArray⟩] w (Ret fun v w' => ∃ ao c, v = .tuple #[.slice ao (splitL xp).length c, .int .i64 (splitE xp)] ∧ Ent (rowS ao c (splitL xp) :: L) w') from fun L w h => Split_any hx.1 h)
        have hmb := mkb xb []
        have hmb2 : ((⟨xb.toArray⟩ : ByteArray) != ⟨#[]⟩) = !(xb == []) := by rw [bne, mkb]
        clear hdk hx
        by_cases hse : splitE xp = 0
        · have Hse := SL.hid hse
          rw [hse] at HS
          clear hse
          cases xd with
          | true =>
            cases hxb : (xb == []) with
            | false =>
              have HT := SL.hid (show buildT es = (8, .zero) from by
                rw [hB, goT, addT]
                simp only [Hse.out]
                have h1 : xb ≠ [] := by simpa using hxb
                simp [h1])
              rw [hxb] at hmb hmb2
              as_aux_lemma =>
              go_wp2_with (first
                | go_skip
                | ((with_reducible (show Go.wpList _ _ _ (Go.Oper.mk _ (.load 51 _) _ _ _ _ :: _) _ _)); refine wpl_loadC rfl rfl rfl Tryd.isAgg51 Tryd.sizeOf51 (enC ⟨xp, true, xb⟩) rfl (fun j v hv => by rw [Addr.add_lit]; exact hL.out _ (hE.suf sfx) j v hv) ?_)
                | ((with_reducible (show Go.wpList _ _ _ (Go.Oper.mk _ (.alloc 51) _ _ _ _ :: _) _ _)); refine wpl_allocN hE rfl rfl (n := 3) (by kernel_rfl) ?_; clear hE; intro b6 cs w1 hq hE)
                | ((with_reducible (show Go.wpList _ _ _ (Go.Oper.mk _ (.store 51 _ _) _ _ _ _ :: _) _ _)); refine wpl_storeN hE 0 rfl rfl rfl rfl (xs := enC ⟨xp, true, xb⟩) rfl Tryd.sizeOf51 rfl (by simp [enC, Value.oneCell']) hq ?_; clear hE hq; intro w2 hE; simp only [List.set_cons_zero] at hE; replace hE : Ent (pt b6 (.cells #[.string ⟨xp.toArray⟩, .bool true, .string ⟨xb.toArray⟩] 51) :: pt b4 (.cells #[.bool t.dir, .string ⟨t.data.toArray⟩, kv] 35) :: pt b2 (.cells #[.bool false, .string ⟨#[]⟩, .slice none 0 0] 35) :: (m ++ l)) w2 := hE)
                | (go_at_call 27; refine (HS.out _ _ hE).mono ?_; clear hE; rintro e w3 ⟨v, rfl, an, cn, rfl, hE⟩)
                | ((with_reducible (show Go.wpList _ _ _ (Go.Oper.mk _ (.load 35 _) _ _ _ _ :: _) _ _)); refine wpl_loadW (xs := [.bool t.dir, .string ⟨t.data.toArray⟩, kv]) hE 2 rfl rfl rfl rfl Tryd.isAgg35 Tryd.sizeOf35 rfl ?_)
                | (refine ldX hE ?_)
                | ((with_reducible (show Go.wpList _ _ _ (Go.Oper.mk _ (.store 35 _ _) _ _ _ _ :: _) _ _)); refine wpl_storeW hE 3 rfl rfl rfl (xs := [.bool false, .string ⟨#[]⟩, .slice none 0 0]) rfl rfl Tryd.sizeOf35 rfl (by simp [Value.oneCell']) rfl ?_; clear hE; intro w8 hE; simp only [List.set_cons_zero, List.set_cons_succ] at hE))
              refine bodyPost_ret (results_cell2 rfl hE 3 rfl rfl Tryd.isAgg35 Tryd.sizeOf35 rfl rfl) rfl ?_
              rw [HT.out]
              exact ⟨_, rfl, m, .slice none 0 0, rfl, hE.tail.tail.tail.tail, KidsAt.nil _⟩
            | true =>
              obtain rfl : xb = [] := by simpa using hxb
              clear hmb hmb2 hxb
              have HW := SL.hid (show ∀ (A B C D : HProp) (w : World) (an : Option Addr) (cn : Nat), Ent (A :: B :: C :: D :: (m ++ l)) w → (splitL xp).length ≤ cn → Knows (A :: B :: C :: D :: (m ++ l)) (reads (.slice an (splitL xp).length cn) (splitL xp).length ((splitL xp).map strv)) →
                  Calls Tryd.prog 33 #[.agg #[.bool t.dir, .string ⟨t.data.toArray⟩, kv], .slice an (splitL xp).length cn, .agg #[.bool true, .string ⟨([] : List UInt8).toArray⟩, .slice none 0 0]] w
                    (Ret fun v w' => ∃ m' kv', v = .tuple #[.agg #[.bool (Tr.withT (splitL xp) true ([] : List UInt8) t).2.dir, .string ⟨(Tr.withT (splitL xp) true ([] : List UInt8) t).2.data.toArray⟩, kv'], .int .i64 (Tr.withT (splitL xp) true ([] : List UInt8) t).1] ∧ Ent (A :: B :: C :: D :: (m' ++ (m ++ l))) w' ∧ KidsAt (m' ++ (m ++ l)) kv' (Tr.withT (splitL xp) true ([] : List UInt8) t).2.kids) from
                fun A B C D w an cn h3 h1 h2 => with_any (splitL xp) (by have := (splitL_names xp).1; omega) true ([] : List UInt8) Hxb.out t 6 hG.2.1 kv [A, B, C, D] (m ++ l) an cn w hkv h1 h2 h3)
              have hadd : addT t ⟨xp, true, ([] : List UInt8)⟩ = Tr.withT (splitL xp) true ([] : List UInt8) t := by rw [addT]; simp only [Hse.out]; rw [if_neg (by simp), if_neg (by simp)]
              have HT := SL.hid (show ((Tr.withT (splitL xp) true ([] : List UInt8) t).1 = 0 → buildT es = goT (Tr.withT (splitL xp) true ([] : List UInt8) t).2 (es.drop (k + 1))) ∧ (¬ (Tr.withT (splitL xp) true ([] : List UInt8) t).1 = 0 → buildT es = ((Tr.withT (splitL xp) true ([] : List UInt8) t).1, .zero)) from by
                rw [hB, goT, hadd]
                exact ⟨fun h => if_pos h, fun h => if_neg h⟩)
              have HG := SL.hid (show (Tr.withT (splitL xp) true ([] : List UInt8) t).1 = 0 → Good (Tr.withT (splitL xp) true ([] : List UInt8) t).2 (es.take (k + 1)) from fun h => by
                have := add_good hG (x := ⟨xp, true, ([] : List UInt8)⟩) (by rw [hadd]; exact h)
                rw [hadd, ← htk] at this
                exact this)
              clear hadd hB hG hkv
              try clear hx0
              try clear hxb
              generalize hres : Tr.withT (splitL xp) true ([] : List UInt8) t = res at *
              clear hres
              generalize splitL xp = ns at *
              obtain ⟨er, kd⟩ := res
              simp only at HW HT HG
              cases her : (er == 0) with
              | true =>
                obtain rfl : er = 0 := by simpa using her
                clear her
                as_aux_lemma =>
                go_wp2_with (first
                  | go_skip
                  | ((with_reducible (show Go.wpList _ _ _ (Go.Oper.mk _ (.load 51 _) _ _ _ _ :: _) _ _)); refine wpl_loadC rfl rfl rfl Tryd.isAgg51 Tryd.sizeOf51 (enC ⟨xp, true, ([] : List UInt8)⟩) rfl (fun j v hv => by rw [Addr.add_lit]; exact hL.out _ (hE.suf sfx) j v hv) ?_)
                  | ((with_reducible (show Go.wpList _ _ _ (Go.Oper.mk _ (.alloc 51) _ _ _ _ :: _) _ _)); refine wpl_allocN hE rfl rfl (n := 3) (by kernel_rfl) ?_; clear hE; intro b6 cs w1 hq hE)
                  | ((with_reducible (show Go.wpList _ _ _ (Go.Oper.mk _ (.store 51 _ _) _ _ _ _ :: _) _ _)); refine wpl_storeN hE 0 rfl rfl rfl rfl (xs := enC ⟨xp, true, ([] : List UInt8)⟩) rfl Tryd.sizeOf51 rfl (by simp [enC, Value.oneCell']) hq ?_; clear hE hq; intro w2 hE; simp only [List.set_cons_zero] at hE; replace hE : Ent (pt b6 (.cells #[.string ⟨xp.toArray⟩, .bool true, .string ⟨([] : List UInt8).toArray⟩] 51) :: pt b4 (.cells #[.bool t.dir, .string ⟨t.data.toArray⟩, kv] 35) :: pt b2 (.cells #[.bool false, .string ⟨#[]⟩, .slice none 0 0] 35) :: (m ++ l)) w2 := hE)
                  | (go_at_call 27; refine (HS.out _ _ hE).mono ?_; clear hE; rintro e w3 ⟨v, rfl, an, cn, rfl, hE⟩)
                  | ((with_reducible (show Go.wpList _ _ _ (Go.Oper.mk _ (.load 35 _) _ _ _ _ :: _) _ _)); refine wpl_loadW (xs := [.bool t.dir, .string ⟨t.data.toArray⟩, kv]) hE 2 rfl rfl rfl rfl Tryd.isAgg35 Tryd.sizeOf35 rfl ?_)
                  | (refine ldX hE ?_)
                  | (go_at_call 33; have H := HW.out _ _ _ _ _ an cn hE (row_capJ hE 0 rfl) (fun w h => reads_row h 0 rfl); refine H.mono ?_; clear H hE; rintro e w7 ⟨v, rfl, m', kv', rfl, hE, hKA⟩)
                  | ((with_reducible (show Go.wpList _ _ _ (Go.Oper.mk _ (.store 35 (.tmp 4) _) _ _ _ _ :: _) _ _)); refine wpl_storeW hE 2 rfl rfl rfl (xs := [.bool kd.dir, .string ⟨kd.data.toArray⟩, kv']) rfl rfl Tryd.sizeOf35 rfl (by obtain ⟨a1, a2, rfl⟩ := hKA.slice; simp [Value.oneCell']) rfl ?_; clear hE; intro w8 hE; simp only [List.set_cons_zero, List.set_cons_succ] at hE)
                  | ((with_reducible (show Go.wpList _ _ _ (Go.Oper.mk _ (.store 35 (.tmp 2) _) _ _ _ _ :: _) _ _)); refine wpl_storeW hE 3 rfl rfl rfl (xs := [.bool false, .string ⟨#[]⟩, .slice none 0 0]) rfl rfl Tryd.sizeOf35 rfl (by simp [Value.oneCell']) rfl ?_; clear hE; intro w8 hE; simp only [List.set_cons_zero, List.set_cons_succ] at hE))
                go_roundw
                case rel => exact ⟨k + 1, kd, m' ++ m, kv', hlt, by simp, HT.out.1 (by trivial), HG.out (by trivial), by rw [List.append_assoc]; exact hKA, by rw [List.append_assoc]; exact hE.tail.tail⟩
                case measure => simp [intOf]; omega
              | false =>
                have hne : ¬ er = 0 := by simpa using her
                have hne2 : (er != 0) = true := by simp [bne, her]
                have HT2 := SL.hid (HT.out.2 hne)
                clear hne
                as_aux_lemma =>
                go_wp2_with (first
                  | go_skip
                  | ((with_reducible (show Go.wpList _ _ _ (Go.Oper.mk _ (.load 51 _) _ _ _ _ :: _) _ _)); refine wpl_loadC rfl rfl rfl Tryd.isAgg51 Tryd.sizeOf51 (enC ⟨xp, true, ([] : List UInt8)⟩) rfl (fun j v hv => by rw [Addr.add_lit]; exact hL.out _ (hE.suf sfx) j v hv) ?_)
                  | ((with_reducible (show Go.wpList _ _ _ (Go.Oper.mk _ (.alloc 51) _ _ _ _ :: _) _ _)); refine wpl_allocN hE rfl rfl (n := 3) (by kernel_rfl) ?_; clear hE; intro b6 cs w1 hq hE)
                  | ((with_reducible (show Go.wpList _ _ _ (Go.Oper.mk _ (.store 51 _ _) _ _ _ _ :: _) _ _)); refine wpl_storeN hE 0 rfl rfl rfl rfl (xs := enC ⟨xp, true, ([] : List UInt8)⟩) rfl Tryd.sizeOf51 rfl (by simp [enC, Value.oneCell']) hq ?_; clear hE hq; intro w2 hE; simp only [List.set_cons_zero] at hE; replace hE : Ent (pt b6 (.cells #[.string ⟨xp.toArray⟩, .bool true, .string ⟨([] : List UInt8).toArray⟩] 51) :: pt b4 (.cells #[.bool t.dir, .string ⟨t.data.toArray⟩, kv] 35) :: pt b2 (.cells #[.bool false, .string ⟨#[]⟩, .slice none 0 0] 35) :: (m ++ l)) w2 := hE)
                  | (go_at_call 27; refine (HS.out _ _ hE).mono ?_; clear hE; rintro e w3 ⟨v, rfl, an, cn, rfl, hE⟩)
                  | ((with_reducible (show Go.wpList _ _ _ (Go.Oper.mk _ (.load 35 _) _ _ _ _ :: _) _ _)); refine wpl_loadW (xs := [.bool t.dir, .string ⟨t.data.toArray⟩, kv]) hE 2 rfl rfl rfl rfl Tryd.isAgg35 Tryd.sizeOf35 rfl ?_)
                  | (refine ldX hE ?_)
                  | (go_at_call 33; have H := HW.out _ _ _ _ _ an cn hE (row_capJ hE 0 rfl) (fun w h => reads_row h 0 rfl); refine H.mono ?_; clear H hE; rintro e w7 ⟨v, rfl, m', kv', rfl, hE, hKA⟩)
                  | ((with_reducible (show Go.wpList _ _ _ (Go.Oper.mk _ (.store 35 (.tmp 4) _) _ _ _ _ :: _) _ _)); refine wpl_storeW hE 2 rfl rfl rfl (xs := [.bool kd.dir, .string ⟨kd.data.toArray⟩, kv']) rfl rfl Tryd.sizeOf35 rfl (by obtain ⟨a1, a2, rfl⟩ := hKA.slice; simp [Value.oneCell']) rfl ?_; clear hE; intro w8 hE; simp only [List.set_cons_zero, List.set_cons_succ] at hE)
                  | ((with_reducible (show Go.wpList _ _ _ (Go.Oper.mk _ (.store 35 (.tmp 2) _) _ _ _ _ :: _) _ _)); refine wpl_storeW hE 3 rfl rfl rfl (xs := [.bool false, .string ⟨#[]⟩, .slice none 0 0]) rfl rfl Tryd.sizeOf35 rfl (by simp [Value.oneCell']) rfl ?_; clear hE; intro w8 hE; simp only [List.set_cons_zero, List.set_cons_succ] at hE))
                refine bodyPost_ret (results_cell2 rfl hE 3 rfl rfl Tryd.isAgg35 Tryd.sizeOf35 rfl rfl) rfl ?_
                rw [HT2.out]
                exact ⟨_, rfl, m' ++ m, .slice none 0 0, rfl, by rw [List.append_assoc]; exact hE.tail.tail.tail.tail, KidsAt.nil _⟩
          | false =>
            cases hxb : (xb == [])
            all_goals
              rw [hxb] at hmb hmb2
              have HW := SL.hid (show ∀ (A B C D : HProp) (w : World) (an : Option Addr) (cn : Nat), Ent (A :: B :: C :: D :: (m ++ l)) w → (splitL xp).length ≤ cn → Knows (A :: B :: C :: D :: (m ++ l)) (reads (.slice an (splitL xp).length cn) (splitL xp).length ((splitL xp).map strv)) →
                  Calls Tryd.prog 33 #[.agg #[.bool t.dir, .string ⟨t.data.toArray⟩, kv], .slice an (splitL xp).length cn, .agg #[.bool false, .string ⟨xb.toArray⟩, .slice none 0 0]] w
                    (Ret fun v w' => ∃ m' kv', v = .tuple #[.agg #[.bool (Tr.withT (splitL xp) false xb t).2.dir, .string ⟨(Tr.withT (splitL xp) false xb t).2.data.toArray⟩, kv'], .int .i64 (Tr.withT (splitL xp) false xb t).1] ∧ Ent (A :: B :: C :: D :: (m' ++ (m ++ l))) w' ∧ KidsAt (m' ++ (m ++ l)) kv' (Tr.withT (splitL xp) false xb t).2.kids) from
                fun A B C D w an cn h3 h1 h2 => with_any (splitL xp) (by have := (splitL_names xp).1; omega) false xb Hxb.out t 6 hG.2.1 kv [A, B, C, D] (m ++ l) an cn w hkv h1 h2 h3)
              have hadd : addT t ⟨xp, false, xb⟩ = Tr.withT (splitL xp) false xb t := by rw [addT]; simp only [Hse.out]; rw [if_neg (by simp), if_neg (by simp)]
              have HT := SL.hid (show ((Tr.withT (splitL xp) false xb t).1 = 0 → buildT es = goT (Tr.withT (splitL xp) false xb t).2 (es.drop (k + 1))) ∧ (¬ (Tr.withT (splitL xp) false xb t).1 = 0 → buildT es = ((Tr.withT (splitL xp) false xb t).1, .zero)) from by
                rw [hB, goT, hadd]
                exact ⟨fun h => if_pos h, fun h => if_neg h⟩)
              have HG := SL.hid (show (Tr.withT (splitL xp) false xb t).1 = 0 → Good (Tr.withT (splitL xp) false xb t).2 (es.take (k + 1)) from fun h => by
                have := add_good hG (x := ⟨xp, false, xb⟩) (by rw [hadd]; exact h)
                rw [hadd, ← htk] at this
                exact this)
              clear hadd hB hG hkv
              try clear hx0
              try clear hxb
              generalize hres : Tr.withT (splitL xp) false xb t = res at *
              clear hres
              generalize splitL xp = ns at *
              obtain ⟨er, kd⟩ := res
              simp only at HW HT HG
              cases her : (er == 0) with
              | true =>
                obtain rfl : er = 0 := by simpa using her
                clear her
                as_aux_lemma =>
                go_wp2_with (first
                  | go_skip
                  | ((with_reducible (show Go.wpList _ _ _ (Go.Oper.mk _ (.load 51 _) _ _ _ _ :: _) _ _)); refine wpl_loadC rfl rfl rfl Tryd.isAgg51 Tryd.sizeOf51 (enC ⟨xp, false, xb⟩) rfl (fun j v hv => by rw [Addr.add_lit]; exact hL.out _ (hE.suf sfx) j v hv) ?_)
                  | ((with_reducible (show Go.wpList _ _ _ (Go.Oper.mk _ (.alloc 51) _ _ _ _ :: _) _ _)); refine wpl_allocN hE rfl rfl (n := 3) (by kernel_rfl) ?_; clear hE; intro b6 cs w1 hq hE)
                  | ((with_reducible (show Go.wpList _ _ _ (Go.Oper.mk _ (.store 51 _ _) _ _ _ _ :: _) _ _)); refine wpl_storeN hE 0 rfl rfl rfl rfl (xs := enC ⟨xp, false, xb⟩) rfl Tryd.sizeOf51 rfl (by simp [enC, Value.oneCell']) hq ?_; clear hE hq; intro w2 hE; simp only [List.set_cons_zero] at hE; replace hE : Ent (pt b6 (.cells #[.string ⟨xp.toArray⟩, .bool false, .string ⟨xb.toArray⟩] 51) :: pt b4 (.cells #[.bool t.dir, .string ⟨t.data.toArray⟩, kv] 35) :: pt b2 (.cells #[.bool false, .string ⟨#[]⟩, .slice none 0 0] 35) :: (m ++ l)) w2 := hE)
                  | (go_at_call 27; refine (HS.out _ _ hE).mono ?_; clear hE; rintro e w3 ⟨v, rfl, an, cn, rfl, hE⟩)
                  | ((with_reducible (show Go.wpList _ _ _ (Go.Oper.mk _ (.load 35 _) _ _ _ _ :: _) _ _)); refine wpl_loadW (xs := [.bool t.dir, .string ⟨t.data.toArray⟩, kv]) hE 2 rfl rfl rfl rfl Tryd.isAgg35 Tryd.sizeOf35 rfl ?_)
                  | (refine ldX hE ?_)
                  | (go_at_call 33; have H := HW.out _ _ _ _ _ an cn hE (row_capJ hE 0 rfl) (fun w h => reads_row h 0 rfl); refine H.mono ?_; clear H hE; rintro e w7 ⟨v, rfl, m', kv', rfl, hE, hKA⟩)
                  | ((with_reducible (show Go.wpList _ _ _ (Go.Oper.mk _ (.store 35 (.tmp 4) _) _ _ _ _ :: _) _ _)); refine wpl_storeW hE 2 rfl rfl rfl (xs := [.bool kd.dir, .string ⟨kd.data.toArray⟩, kv']) rfl rfl Tryd.sizeOf35 rfl (by obtain ⟨a1, a2, rfl⟩ := hKA.slice; simp [Value.oneCell']) rfl ?_; clear hE; intro w8 hE; simp only [List.set_cons_zero, List.set_cons_succ] at hE)
                  | ((with_reducible (show Go.wpList _ _ _ (Go.Oper.mk _ (.store 35 (.tmp 2) _) _ _ _ _ :: _) _ _)); refine wpl_storeW hE 3 rfl rfl rfl (xs := [.bool false, .string ⟨#[]⟩, .slice none 0 0]) rfl rfl Tryd.sizeOf35 rfl (by simp [Value.oneCell']) rfl ?_; clear hE; intro w8 hE; simp only [List.set_cons_zero, List.set_cons_succ] at hE))
                go_roundw
                case rel => exact ⟨k + 1, kd, m' ++ m, kv', hlt, by simp, HT.out.1 (by trivial), HG.out (by trivial), by rw [List.append_assoc]; exact hKA, by rw [List.append_assoc]; exact hE.tail.tail⟩
                case measure => simp [intOf]; omega
              | false =>
                have hne : ¬ er = 0 := by simpa using her
                have hne2 : (er != 0) = true := by simp [bne, her]
                have HT2 := SL.hid (HT.out.2 hne)
                clear hne
                as_aux_lemma =>
                go_wp2_with (first
                  | go_skip
                  | ((with_reducible (show Go.wpList _ _ _ (Go.Oper.mk _ (.load 51 _) _ _ _ _ :: _) _ _)); refine wpl_loadC rfl rfl rfl Tryd.isAgg51 Tryd.sizeOf51 (enC ⟨xp, false, xb⟩) rfl (fun j v hv => by rw [Addr.add_lit]; exact hL.out _ (hE.suf sfx) j v hv) ?_)
                  | ((with_reducible (show Go.wpList _ _ _ (Go.Oper.mk _ (.alloc 51) _ _ _ _ :: _) _ _)); refine wpl_allocN hE rfl rfl (n := 3) (by kernel_rfl) ?_; clear hE; intro b6 cs w1 hq hE)
                  | ((with_reducible (show Go.wpList _ _ _ (Go.Oper.mk _ (.store 51 _ _) _ _ _ _ :: _) _ _)); refine wpl_storeN hE 0 rfl rfl rfl rfl (xs := enC ⟨xp, false, xb⟩) rfl Tryd.sizeOf51 rfl (by simp [enC, Value.oneCell']) hq ?_; clear hE hq; intro w2 hE; simp only [List.set_cons_zero] at hE; replace hE : Ent (pt b6 (.cells #[.string ⟨xp.toArray⟩, .bool false, .string ⟨xb.toArray⟩] 51) :: pt b4 (.cells #[.bool t.dir, .string ⟨t.data.toArray⟩, kv] 35) :: pt b2 (.cells #[.bool false, .string ⟨#[]⟩, .slice none 0 0] 35) :: (m ++ l)) w2 := hE)
                  | (go_at_call 27; refine (HS.out _ _ hE).mono ?_; clear hE; rintro e w3 ⟨v, rfl, an, cn, rfl, hE⟩)
                  | ((with_reducible (show Go.wpList _ _ _ (Go.Oper.mk _ (.load 35 _) _ _ _ _ :: _) _ _)); refine wpl_loadW (xs := [.bool t.dir, .string ⟨t.data.toArray⟩, kv]) hE 2 rfl rfl rfl rfl Tryd.isAgg35 Tryd.sizeOf35 rfl ?_)
                  | (refine ldX hE ?_)
                  | (go_at_call 33; have H := HW.out _ _ _ _ _ an cn hE (row_capJ hE 0 rfl) (fun w h => reads_row h 0 rfl); refine H.mono ?_; clear H hE; rintro e w7 ⟨v, rfl, m', kv', rfl, hE, hKA⟩)
                  | ((with_reducible (show Go.wpList _ _ _ (Go.Oper.mk _ (.store 35 (.tmp 4) _) _ _ _ _ :: _) _ _)); refine wpl_storeW hE 2 rfl rfl rfl (xs := [.bool kd.dir, .string ⟨kd.data.toArray⟩, kv']) rfl rfl Tryd.sizeOf35 rfl (by obtain ⟨a1, a2, rfl⟩ := hKA.slice; simp [Value.oneCell']) rfl ?_; clear hE; intro w8 hE; simp only [List.set_cons_zero, List.set_cons_succ] at hE)
                  | ((with_reducible (show Go.wpList _ _ _ (Go.Oper.mk _ (.store 35 (.tmp 2) _) _ _ _ _ :: _) _ _)); refine wpl_storeW hE 3 rfl rfl rfl (xs := [.bool false, .string ⟨#[]⟩, .slice none 0 0]) rfl rfl Tryd.sizeOf35 rfl (by simp [Value.oneCell']) rfl ?_; clear hE; intro w8 hE; simp only [List.set_cons_zero, List.set_cons_succ] at hE))
                refine bodyPost_ret (results_cell2 rfl hE 3 rfl rfl Tryd.isAgg35 Tryd.sizeOf35 rfl rfl) rfl ?_
                rw [HT2.out]
                exact ⟨_, rfl, m' ++ m, .slice none 0 0, rfl, by rw [List.append_assoc]; exact hE.tail.tail.tail.tail, KidsAt.nil _⟩
        · have HT := SL.hid (show buildT es = (splitE xp, .zero) from by
            rw [hB, goT, addT]
            simp only
            rw [if_pos hse]
            rw [if_neg hse])
          have h1 : (splitE xp == 0) = false := by simpa using hse
          have h2 : (splitE xp != 0) = true := by simpa using hse
          generalize splitE xp = se at *
          as_aux_lemma =>
          go_wp2_with (first
            | go_skip
            | ((with_reducible (show Go.wpList _ _ _ (Go.Oper.mk _ (.load 51 _) _ _ _ _ :: _) _ _)); refine wpl_loadC rfl rfl rfl Tryd.isAgg51 Tryd.sizeOf51 (enC ⟨xp, xd, xb⟩) rfl (fun j v hv => by rw [Addr.add_lit]; exact hL.out _ (hE.suf sfx) j v hv) ?_)
            | ((with_reducible (show Go.wpList _ _ _ (Go.Oper.mk _ (.alloc 51) _ _ _ _ :: _) _ _)); refine wpl_allocN hE rfl rfl (n := 3) (by kernel_rfl) ?_; clear hE; intro b6 cs w1 hq hE)
            | ((with_reducible (show Go.wpList _ _ _ (Go.Oper.mk _ (.store 51 _ _) _ _ _ _ :: _) _ _)); refine wpl_storeN hE 0 rfl rfl rfl rfl (xs := enC ⟨xp, xd, xb⟩) rfl Tryd.sizeOf51 rfl (by simp [enC, Value.oneCell']) hq ?_; clear hE hq; intro w2 hE; simp only [List.set_cons_zero] at hE; replace hE : Ent (pt b6 (.cells #[.string ⟨xp.toArray⟩, .bool xd, .string ⟨xb.toArray⟩] 51) :: pt b4 (.cells #[.bool t.dir, .string ⟨t.data.toArray⟩, kv] 35) :: pt b2 (.cells #[.bool false, .string ⟨#[]⟩, .slice none 0 0] 35) :: (m ++ l)) w2 := hE)
            | (go_at_call 27; refine (HS.out _ _ hE).mono ?_; clear hE; rintro e w3 ⟨v, rfl, an, cn, rfl, hE⟩)
            | ((with_reducible (show Go.wpList _ _ _ (Go.Oper.mk _ (.load 35 _) _ _ _ _ :: _) _ _)); refine wpl_loadW (xs := [.bool t.dir, .string ⟨t.data.toArray⟩, kv]) hE 2 rfl rfl rfl rfl Tryd.isAgg35 Tryd.sizeOf35 rfl ?_)
            | (refine ldX hE ?_)
            | ((with_reducible (show Go.wpList _ _ _ (Go.Oper.mk _ (.store 35 _ _) _ _ _ _ :: _) _ _)); refine wpl_storeW hE 3 rfl rfl rfl (xs := [.bool false, .string ⟨#[]⟩, .slice none 0 0]) rfl rfl Tryd.sizeOf35 rfl (by simp [Value.oneCell']) rfl ?_; clear hE; intro w8 hE; simp only [List.set_cons_zero, List.set_cons_succ] at hE))
          refine bodyPost_ret (results_cell2 rfl hE 3 rfl rfl Tryd.isAgg35 Tryd.sizeOf35 rfl rfl) rfl ?_
          rw [HT.out]
          exact ⟨_, rfl, m, .slice none 0 0, rfl, hE.tail.tail.tail.tail, KidsAt.nil _⟩
      · obtain rfl : k = es.length := by omega
        rw [List.drop_length] at hB
        have HT := SL.hid (show buildT es = (0, t) from hB)
        as_aux_lemma =>
        go_wp2_with (first
          | go_skip
          | ((with_reducible (show Go.wpList _ _ _ (Go.Oper.mk _ (.load 35 _) _ _ _ _ :: _) _ _)); refine wpl_loadW (xs := [.bool t.dir, .string ⟨t.data.toArray⟩, kv]) hE 0 rfl rfl rfl rfl Tryd.isAgg35 Tryd.sizeOf35 rfl ?_)
          | ((with_reducible (show Go.wpList _ _ _ (Go.Oper.mk _ (.store 35 _ _) _ _ _ _ :: _) _ _)); refine wpl_storeW hE 1 rfl rfl rfl (xs := [.bool t.dir, .string ⟨t.data.toArray⟩, kv]) rfl rfl Tryd.sizeOf35 rfl (by obtain ⟨a1, a2, rfl⟩ := hkv.slice; simp [Value.oneCell']) rfl ?_; clear hE; intro w8 hE; simp only [List.set_cons_zero, List.set_cons_succ] at hE))
        refine bodyPost_ret (results_cell2 rfl hE 1 rfl rfl Tryd.isAgg35 Tryd.sizeOf35 rfl rfl) rfl ?_
        rw [HT.out]
        exact ⟨_, rfl, m, kv, rfl, hE.tail.tail, hkv⟩
end Go.Proofs.YtjdignaddfhohaaDoor
namespace Go.Proofs.YtjdignaddfhohaaDoor
open Go.RowKit Go.SL

def AtRel (q : List (List UInt8)) (t0 : Tr) (b2 b4 : Nat) (lk l : List HProp) (i : Value) (wr : World) : Prop :=
  ∃ (k : Nat) (t : Tr) (d : Nat) (kv : Value), k ≤ q.length ∧ i = .int .i64 k ∧ atT 11 10 q t0 = atT 11 10 (q.drop k) t ∧ Tr.Wf d t ∧ KidsAt lk kv t.kids ∧
    Ent (pt b4 (.cells #[.bool false, .string ⟨#[]⟩, .slice none 0 0] 35) :: pt b2 (.cells #[.bool t.dir, .string ⟨t.data.toArray⟩, kv] 35) :: l) wr
set_option maxRecDepth 100000 in
set_option maxHeartbeats 8000000 in
attribute [-go_sem] Instr.loadAt in
theorem At_in {t0 : Tr} {d0 : Nat} (hw : Tr.Wf d0 t0) {kv0 : Value} {lk l : List HProp} (hlk : ∀ W, Ent l W → Ent lk W) (hkv : KidsAt lk kv0 t0.kids) {q : List (List UInt8)} (hq : q.length ≤ 1000) {an : Option Addr} {cn : Nat} {w : World} (hn : Knows l (reads (.slice an q.length cn) q.length (q.map strv))) (hE : Ent l w) :
    Calls Tryd.prog 28 #[nodeV t0 kv0, .slice an q.length cn] w (Ret fun v w' => ∃ kv', v = .tuple #[nodeV (atT 11 10 q t0).2 kv', .int .i64 (atT 11 10 q t0).1] ∧ Ent l w' ∧ KidsAt lk kv' (atT 11 10 q t0).2.kids) := by
  have Hlk := SL.hid hlk
  clear hlk
  unfold nodeV
  go_enter Tryd.func28, Tryd.ntmps28
  go_wp2_with (first
    | go_skip
    | (refine bxX hE ?_; clear hE; intro b2 w hE)
    | (refine alX hE ?_; clear hE; intro b4 w hE))
  go_loopw [12] (fun i wr => AtRel q t0 b2 b4 lk l i wr) (fun i _ => q.length - (intOf i).toNat)
  case atStart => exact ⟨0, t0, d0, kv0, Nat.zero_le _, rfl, rfl, hw, hkv, hE⟩
  case round =>
    clear hE hw hkv
    obtain ⟨k, t, d, kv, hkn, rfl, hB, hw, hkv, hE⟩ := hrel
    by_cases hlt : k < q.length
    · obtain ⟨b, off, rfl, hz⟩ := reads_form (hn _ hE.tail.tail) (by omega) (by rw [List.length_map]; omega)
      clear hz
      have hln : (Instr.loadAt 9 (.pointer (some ⟨b, off + k, none⟩))).run Tryd.prog wr = .ok (.string ⟨q[k].toArray⟩) wr := atCell (str_cells (hn _ hE.tail.tail) hlt) (by simp [go_sem])
      have hdk : q.drop k = q[k] :: q.drop (k + 1) := List.drop_eq_getElem_cons hlt
      rw [hdk, atT] at hB
      have hr := Tr.wf_rising hw
      have h6 := (Tr.wf_size hw).2
      obtain ⟨t_d, t_b, ks⟩ := t
      obtain ⟨ao, c, vs, rfl, hc, hl, hkk, hks, hone⟩ := hkv.open
      replace hl : vs.length = ks.length := hl
      replace h6 : ks.length ≤ 6 := h6
      replace hkk : Knows lk (reads (.slice ao ks.length c) ks.length (kCs ks vs)) := hkk
      replace hks : ∀ (i : Nat) (h : i < ks.length) (h' : i < vs.length), KidsAt lk vs[i] ks[i].2.kids := hks
      replace hkv : KidsAt lk (.slice ao ks.length c) ks := hkv
      have hF := SL.hid (show ∀ (L : List HProp), l <:+ L → ∀ w, Ent L w → Calls Tryd.prog 43 #[.slice ao ks.length c, .string ⟨q[k].toArray⟩, .func (.func 44) #[] #[]] w
        (Ret fun r w' => r = .tuple #[.int .i64 (placeOf (ks.map Prod.fst) q[k]), .bool (isIn (ks.map Prod.fst) q[k])] ∧ Ent L w') from fun L hL w hw => find_any (hkv.mono fun p hp W hW => hp W (Hlk.out W (hW.suf hL))) hr (by omega) _ hw)
      have hplace : isIn (ks.map Prod.fst) q[k] = true → ∃ x : Tr, ks[placeOf (ks.map Prod.fst) q[k]]? = some (q[k], x) ∧ Tr.kid? (.nd t_d t_b ks) q[k] = some x := fun h => by
        obtain ⟨hi, e, e2⟩ := Tr.kid_place (t := .nd t_d t_b ks) hr h
        exact ⟨_, (List.getElem?_eq_getElem hi).trans (congrArg some (Prod.ext e rfl)), e2⟩
      have hnone : isIn (ks.map Prod.fst) q[k] = false → Tr.kid? (.nd t_d t_b ks) q[k] = none := fun h => Tr.kid_none.2 h
      have Hn := SL.hid hn
      have Hks := SL.hid hks
      have hks2 := Hks
      simp only [Tr.dir, Tr.data] at hB hE ⊢
      generalize placeOf (ks.map Prod.fst) q[k] = p at *
      generalize isIn (ks.map Prod.fst) q[k] = is at *
      cases t_d with
      | false =>
        have HT := SL.hid (show atT 11 10 q t0 = (11, .zero) from hB.trans (if_neg (by simp)))
        clear hB hplace hnone hks2
        generalize q[k] = x at *
        as_aux_lemma =>
          go_wp2_with (first
            | go_skip
            | ((with_reducible (show Go.wpList _ _ _ (Go.Oper.mk _ (.load 9 _) _ _ _ _ :: _) _ _)); refine wpl_run rfl (w' := wr) (v := .string ⟨x.toArray⟩) (by simp only [execOp, Act.eval]; simp [hln]) ?_)
            | ((with_reducible (show Go.wpList _ _ _ (Go.Oper.mk _ (.load 33 _) _ _ _ _ :: _) _ _)); refine wpl_load1 hE 1 rfl rfl rfl rfl (by simp [go_sem]) rfl ?_)
            | ((with_reducible (show Go.wpList _ _ _ (Go.Oper.mk _ (.load 4 _) _ _ _ _ :: _) _ _)); refine wpl_load1 hE 1 rfl rfl rfl rfl (by simp [go_sem]) rfl ?_)
            | (go_at_call 43; refine (hF.out _ (by exact List.suffix_append [_, _] l) _ hE).mono ?_; clear hE; rintro e w3 ⟨v, rfl, rfl, hE⟩)
            | ((with_reducible (show Go.wpList _ _ _ (Go.Oper.mk _ (.store 35 _ _) _ _ _ _ :: _) _ _)); refine wpl_storeW hE 0 rfl rfl rfl (xs := [.bool false, .string ⟨#[]⟩, .slice none 0 0]) rfl rfl Tryd.sizeOf35 rfl (by simp [Value.oneCell']) rfl ?_; clear hE; intro w8 hE; simp only [List.set_cons_zero, List.set_cons_succ] at hE))
          refine bodyPost_ret (results_cell2 rfl hE 0 rfl rfl Tryd.isAgg35 Tryd.sizeOf35 rfl rfl) rfl ?_
          rw [HT.out]
          exact ⟨_, rfl, .slice none 0 0, rfl, hE.tail.tail, KidsAt.nil _⟩
      | true =>
        cases is with
        | false =>
          have HT := SL.hid (show atT 11 10 q t0 = (10, .zero) from by rw [hB]; simp [hnone rfl])
          clear hB hplace hnone hks2
          generalize q[k] = x at *
          as_aux_lemma =>
          go_wp2_with (first
            | go_skip
            | ((with_reducible (show Go.wpList _ _ _ (Go.Oper.mk _ (.load 9 _) _ _ _ _ :: _) _ _)); refine wpl_run rfl (w' := wr) (v := .string ⟨x.toArray⟩) (by simp only [execOp, Act.eval]; simp [hln]) ?_)
            | ((with_reducible (show Go.wpList _ _ _ (Go.Oper.mk _ (.load 33 _) _ _ _ _ :: _) _ _)); refine wpl_load1 hE 1 rfl rfl rfl rfl (by simp [go_sem]) rfl ?_)
            | ((with_reducible (show Go.wpList _ _ _ (Go.Oper.mk _ (.load 4 _) _ _ _ _ :: _) _ _)); refine wpl_load1 hE 1 rfl rfl rfl rfl (by simp [go_sem]) rfl ?_)
            | (go_at_call 43; refine (hF.out _ (by exact List.suffix_append [_, _] l) _ hE).mono ?_; clear hE; rintro e w3 ⟨v, rfl, rfl, hE⟩)
            | ((with_reducible (show Go.wpList _ _ _ (Go.Oper.mk _ (.store 35 _ _) _ _ _ _ :: _) _ _)); refine wpl_storeW hE 0 rfl rfl rfl (xs := [.bool false, .string ⟨#[]⟩, .slice none 0 0]) rfl rfl Tryd.sizeOf35 rfl (by simp [Value.oneCell']) rfl ?_; clear hE; intro w8 hE; simp only [List.set_cons_zero, List.set_cons_succ] at hE))
          refine bodyPost_ret (results_cell2 rfl hE 0 rfl rfl Tryd.isAgg35 Tryd.sizeOf35 rfl rfl) rfl ?_
          rw [HT.out]
          exact ⟨_, rfl, .slice none 0 0, rfl, hE.tail.tail, KidsAt.nil _⟩
        | true =>
          obtain ⟨x0, hx0, hx1⟩ := hplace rfl
          obtain ⟨hpk, hpe⟩ := List.getElem?_eq_some_iff.1 hx0
          have HT := SL.hid (show atT 11 10 q t0 = atT 11 10 (q.drop (k + 1)) x0 from by rw [hB]; simp [hx1])
          obtain ⟨d', rfl, hwk⟩ := Tr.wf_kid hw (show (q[k], x0) ∈ (Tr.nd true t_b ks).kids from hpe ▸ List.getElem_mem hpk)
          obtain ⟨bk, ok, hao, hz⟩ := kids_at hl (hkk _ (Hlk.out _ hE.tail.tail)) hpk
          clear hz
          subst hao
          have hLe := SL.hid (show ∀ (W : World), Ent l W → ∀ j v, [Value.bool x0.dir, .string ⟨x0.data.toArray⟩, vs[p]'(by omega)][j]? = some v → W.cell? ((⟨bk, ok + p * 4 + 1, none⟩ : Addr).add j) = some v from fun W hW j v hv => by
            obtain ⟨b', o', e, h⟩ := kids_at hl (hkk W (Hlk.out W hW)) hpk
            cases e
            have := h (1 + j) v (by rw [kC, hpe, Nat.add_comm 1 j]; simpa using hv)
            rw [Addr.add_lit]
            rwa [← Nat.add_assoc] at this)
          have hkx : KidsAt lk (vs[p]'(by omega)) x0.kids := by
            have := hks p hpk (by omega)
            rwa [hpe] at this
          have hpi : (p : Int) < (ks.length : Int) := by omega
          have hpj : p < ks.length := hpk
          have Hwk := SL.hid hwk
          clear hB hplace hnone hks2 Hks hks hx0 hx1 hpe hw hwk hkv
          obtain ⟨kvp, hkvp⟩ : ∃ x, vs[p]'(by omega) = x := ⟨_, rfl⟩
          rw [hkvp] at hLe hkx
          clear hkvp hdk
          generalize q[k] = x at *
          as_aux_lemma =>
          go_wp2_with (first
            | go_skip
            | ((with_reducible (show Go.wpList _ _ _ (Go.Oper.mk _ (.load 9 _) _ _ _ _ :: _) _ _)); refine wpl_run rfl (w' := wr) (v := .string ⟨x.toArray⟩) (by simp only [execOp, Act.eval]; simp [hln]) ?_)
            | ((with_reducible (show Go.wpList _ _ _ (Go.Oper.mk _ (.load 33 _) _ _ _ _ :: _) _ _)); refine wpl_load1 hE 1 rfl rfl rfl rfl (by simp [go_sem]) rfl ?_)
            | ((with_reducible (show Go.wpList _ _ _ (Go.Oper.mk _ (.load 4 _) _ _ _ _ :: _) _ _)); refine wpl_load1 hE 1 rfl rfl rfl rfl (by simp [go_sem]) rfl ?_)
            | (go_at_call 43; refine (hF.out _ (by exact List.suffix_append [_, _] l) _ hE).mono ?_; clear hE; rintro e w3 ⟨v, rfl, rfl, hE⟩)
            | ((with_reducible (show Go.wpList _ _ _ (Go.Oper.mk _ (.load 35 _) _ _ _ _ :: _) _ _)); refine wpl_loadC rfl rfl rfl Tryd.isAgg35 Tryd.sizeOf35 [.bool x0.dir, .string ⟨x0.data.toArray⟩, kvp] rfl (hLe.out _ hE.tail.tail) ?_)
            | ((with_reducible (show Go.wpList _ _ _ (Go.Oper.mk _ (.store 35 _ _) _ _ _ _ :: _) _ _)); refine wpl_storeW hE 1 rfl rfl rfl (xs := [.bool x0.dir, .string ⟨x0.data.toArray⟩, kvp]) rfl rfl Tryd.sizeOf35 rfl (by obtain ⟨a1, a2, rfl⟩ := hkx.slice; simp [Value.oneCell']) rfl ?_; clear hE; intro w8 hE; simp only [List.set_cons_zero, List.set_cons_succ] at hE))
          go_roundw
          case rel => exact ⟨k + 1, x0, d', kvp, hlt, by simp, HT.out, Hwk.out, hkx, hE⟩
          case measure => simp [intOf]; omega
    · obtain rfl : k = q.length := by omega
      rw [List.drop_length] at hB
      have HT := SL.hid (show atT 11 10 q t0 = (0, t) from hB)
      as_aux_lemma =>
      go_wp2_with (first
        | go_skip
        | ((with_reducible (show Go.wpList _ _ _ (Go.Oper.mk _ (.load 35 _) _ _ _ _ :: _) _ _)); refine wpl_loadW (xs := [.bool t.dir, .string ⟨t.data.toArray⟩, kv]) hE 1 rfl rfl rfl rfl Tryd.isAgg35 Tryd.sizeOf35 rfl ?_)
        | ((with_reducible (show Go.wpList _ _ _ (Go.Oper.mk _ (.store 35 _ _) _ _ _ _ :: _) _ _)); refine wpl_storeW hE 0 rfl rfl rfl (xs := [.bool t.dir, .string ⟨t.data.toArray⟩, kv]) rfl rfl Tryd.sizeOf35 rfl (by obtain ⟨a1, a2, rfl⟩ := hkv.slice; simp [Value.oneCell']) rfl ?_; clear hE; intro w8 hE; simp only [List.set_cons_zero, List.set_cons_succ] at hE))
      refine bodyPost_ret (results_cell2 rfl hE 0 rfl rfl Tryd.isAgg35 Tryd.sizeOf35 rfl rfl) rfl ?_
      rw [HT.out]
      exact ⟨_, rfl, kv, rfl, hE.tail.tail, hkv⟩
theorem At_any {t0 : Tr} {d0 : Nat} (hw : Tr.Wf d0 t0) {kv0 : Value} {l : List HProp} (hkv : KidsAt l kv0 t0.kids) {q : List (List UInt8)} (hq : q.length ≤ 1000) {an : Option Addr} {cn : Nat} {w : World} (hn : Knows l (reads (.slice an q.length cn) q.length (q.map strv))) (hE : Ent l w) :
    Calls Tryd.prog 28 #[nodeV t0 kv0, .slice an q.length cn] w (Ret fun v w' => ∃ kv', v = .tuple #[nodeV (atT 11 10 q t0).2 kv', .int .i64 (atT 11 10 q t0).1] ∧ Ent l w' ∧ KidsAt l kv' (atT 11 10 q t0).2.kids) := At_in hw (fun _ h => h) hkv hq hn hE
end Go.Proofs.YtjdignaddfhohaaDoor
namespace Go.SL
section
variable {P : Program} {w : World} {l : List HProp}

theorem run_copyS (dT sT ty elem : TypeId) (g dLen dCap : Nat) (ys : List UInt8) (cur : Array Value) (t : TypeId)
    (hu : P.underlying dT = some (.slice elem)) (hs : (P.info? elem).map (·.size) = some 1) (hg : w.heap[g]? = some (.cells cur t (0, 0))) (hfit : dLen ≤ cur.size) :
    (Builtin.copy_ #[dT, sT] ty #[.slice (some ⟨g, 0, none⟩) dLen dCap, .string ⟨ys.toArray⟩]).run P w =
      .ok (goInt (min ys.length dLen : Nat)) (w.setRow g (((ys.take dLen).map fun b => Value.int .u8 b.toNat) ++ cur.toList.drop (min ys.length dLen)).toArray) := by
  have hlen : ((ys.take dLen).map fun b => Value.int .u8 (b.toNat : Int)).length = min ys.length dLen := by rw [List.length_map, List.length_take, Nat.min_comm]
  have h1 : ∀ u ∈ ((ys.take dLen).map fun b => Value.int .u8 (b.toNat : Int)), u.oneCell' = true := by
    intro v hv
    simp only [List.mem_map] at hv
    obtain ⟨b, _, rfl⟩ := hv
    rfl
  have hst := run_storeCells_at P g 0 t ((ys.take dLen).map fun b => Value.int .u8 (b.toNat : Int)) 0 cur w hg (by rw [hlen]; omega) h1
  rw [hlen] at hst
  simp only [Nat.add_zero, Nat.zero_add, List.take_zero, List.nil_append] at hst
  have hsz : (ByteArray.mk ys.toArray).size = ys.length := by simp [ByteArray.size]
  have hmin : Nat.min ys.length dLen = min ys.length dLen := rfl
  have htk : List.take (min ys.length dLen) (List.map (fun b : UInt8 => Value.int IntKind.u8 (b.toNat : Int)) ys) = (ys.take dLen).map fun b => Value.int .u8 (b.toNat : Int) := by
    rw [← List.map_take]
    congr 1
    rw [Nat.min_comm, List.take_eq_take_iff]
    omega
  cases hq : P.info? elem with
  | none => simp [hq] at hs
  | some i =>
    simp [Builtin.copy_, run_underlying hu, Builtin.lenOf, Builtin.firstCells, sizeOf, typeInfo, hq, hsz, hmin]
    rw [htk, hst]
    simp [Result.andThen]

theorem step_copyS {ops : Array Oper} {o : Oper} {a : Act} {K : Act → World → Prop} {Q : Exit → Act → World → Prop} {E : Prop} (hE : Ent l w) (i : Nat) {g : Nat} {cur : Array Value} {T : TypeId} (hi : l[i]? = some (pt g (.cells cur T (0, 0))))
    {d s : Operand} {dT sT elem : TypeId} (ho : o.op = .call { callee := .builtin .copy, args := #[d, s], argTypes := #[dT, sT] }) (hw : Region.wanted o (yielded ops a.tmps) = true)
    {dLen dCap : Nat} (hd : a.eval d = .slice (some ⟨g, 0, none⟩) dLen dCap) {ys : List UInt8} (hy : a.eval s = .string ⟨ys.toArray⟩)
    (hu : P.underlying dT = some (.slice elem)) (hs : (P.info? elem).map (·.size) = some 1) (hfit : dLen ≤ cur.size)
    (h : ∀ w', Ent (l.set i (pt g (.cells (((ys.take dLen).map fun b => Value.int .u8 b.toNat) ++ cur.toList.drop (min ys.length dLen)).toArray T (0, 0)))) w' → K (a.put o.dst (goInt (min ys.length dLen : Nat))) w') :
    if Region.wanted o (yielded ops a.tmps) = true then Oper.wp P o a w K Q else E := by
  rw [if_pos hw]
  have hr := run_copyS (P := P) (w := w) dT sT o.type elem g dLen dCap ys cur T hu hs (hE.at i hi) hfit
  unfold Oper.wp execOp
  simp only [ho, resolve, invoke, builtin, Sem.run_bind, Sem.run_pure, Result.andThen_ok, List.map_toArray, List.map_cons, List.map_nil, hd, hy, hr]
  exact h _ (hE.setRow i hi _)
end
end Go.SL
namespace Go.SL
section
variable {P : Program} {w : World} {l : List HProp} {ops : Array Oper} {o : Oper} {a : Act} {K : Act → World → Prop} {Q : Exit → Act → World → Prop} {E : Prop}

theorem step_run (hw : Region.wanted o (yielded ops a.tmps) = true) {v : Value} {w' : World} (hr : (execOp a.eval o).run P w = .ok (.value v) w') (h : K (a.put o.dst v) w') :
    if Region.wanted o (yielded ops a.tmps) = true then Oper.wp P o a w K Q else E := by
  rw [if_pos hw]
  simp only [Oper.wp, hr, Oper.upon]
  exact h

theorem step_loadW (hE : Ent l w) (i : Nat) {b : Nat} {xs : List Value} {T : TypeId} {fz : Nat × Nat} (hi : l[i]? = some (pt b (.cells xs.toArray T fz)))
    {t : TypeId} {x : Operand} (ho : o.op = .load t x) (hw : Region.wanted o (yielded ops a.tmps) = true)
    (hx : a.eval x = .pointer (some ⟨b, 0, none⟩)) (hA : ∀ w, (isAgg t).run P w = .ok true w) {n : Nat} (hn : ∀ w, (Go.sizeOf t).run P w = .ok n w) (hl : xs.length = n)
    (h : K (a.put o.dst (.agg xs.toArray)) w) : if Region.wanted o (yielded ops a.tmps) = true then Oper.wp P o a w K Q else E := by
  refine step_run hw (w' := w) (v := .agg xs.toArray) ?_ h
  simp [execOp, ho, hx, run_loadA hE i hi hA hn hl (off := 0) (fun j _ => by simp)]

theorem step_neA {t e t' : TypeId} {x y : Operand} (ho : o.op = .binOp .neq t x y t') (hw : Region.wanted o (yielded ops a.tmps) = true) {ys zs : List UInt8} {n : Nat}
    (hx : a.eval x = .agg (ys.map fun b => Value.int .u8 b.toNat).toArray) (hy : a.eval y = .agg (zs.map fun b => Value.int .u8 b.toNat).toArray)
    (hm : P.eqGuardType P.depth t = false) (hu : P.underlying t = some (.array n e)) (hi : (P.info? e).isSome = true) (h1 : P.cellsOf e = 1) (he : P.underlying e = some (.int .u8)) (ha : ys.length = n) (hb : zs.length = n)
    (h : K (a.put o.dst (.bool (!(ys == zs)))) w) : if Region.wanted o (yielded ops a.tmps) = true then Oper.wp P o a w K Q else E := by
  obtain ⟨i, hi⟩ := Option.isSome_iff_exists.1 hi
  refine step_run hw (w' := w) (v := .bool (!(ys == zs))) ?_ h
  simp [execOp, ho, hx, hy, run_eqGuard_agg _ _ _ _ _ _ _ hm, run_neq_struct, run_equalA 9998 hu hi h1 he ys zs ha hb]
end
end Go.SL
namespace Go.SL
section
variable {P : Program} {w : World} {l : List HProp}
theorem reads_cap {ao : Option Addr} {n c : Nat} {xs : List Value} (h : reads (.slice ao n c) n xs w) (c' : Nat) : reads (.slice ao n c') n xs w := by
  obtain ⟨a, c0, e, h1, h2⟩ := h
  cases e
  exact ⟨_, c', rfl, h1, h2⟩
theorem Ent.appendFull {e : TypeId} {size bytes : Nat} {t : TypeId} (ty : TypeId) (hE : Ent l w) (ht : P.underlying t = some (.slice e)) (hI : elemInfo P e = some (some size, size, bytes)) (hsz : 0 < size)
    {ao : Option Addr} {n : Nat} {xs : List Value} (hr : reads (.slice ao n n) n xs w) (hxl : xs.length = n * size)
    {ad : Addr} {m c : Nat} {news : List Value} (hx : reads (.slice (some ad) m c) m news w) (hl : news.length = m * size) (hm : 0 < m) (h1 : ∀ u ∈ news, u.oneCell' = true) (hbytes : (n + m) * bytes ≤ 140737488355328) (h63 : n + m ≤ 140737488355328) :
    ∃ ao' c' w', (Builtin.append_ #[t, t] ty #[.slice ao n n, .slice (some ad) m c]).run P w = .ok (.slice ao' (n + m) c') w' ∧ Ent (row e size (.slice ao' (n + m) c') (n + m) (xs ++ news) :: l) w' := by
  obtain ⟨i, z, hi, hz, hs, hb, hzs⟩ := elemInfo_parts hI
  subst hs hb
  obtain ⟨ao2, c2, e2, hnone, hc⟩ := hr
  cases e2
  obtain ⟨ad3, c3, e3, _, hc3⟩ := hx
  cases e3
  have hsrc := Src.ofSlice (P := P) w ht ad m c news hl (hc3 ad rfl) h1
  have hlen : (xs ++ news).length = (n + m) * i.size := by rw [List.length_append, hxl, hl, Nat.add_mul]
  have hzero : ∀ k, (Builtin.zeroCells z.cells k).size = k * i.size := fun k => by rw [size_zeroCells, hzs]
  have hold : (Builtin.firstCells i.size n (.slice ao n n)).run P w.drew = .ok xs.toArray w.drew := by
    cases ao with
    | none =>
      obtain ⟨rfl, rfl⟩ := hnone rfl
      exact run_firstCells_none w.drew i.size 0 0 0
    | some a => exact run_firstCells_some w.drew i.size n a n n xs hxl (hc a rfl)
  have hr := run_append_grow_src w t t ty e i z ht hi hz ao n n xs hold (.slice (some ad) m c) m news hsrc (by omega) (by omega) (growslice_fits (by omega) hbytes)
  have hge := grownCap_ge w (n + m) n e
  refine ⟨_, _, _, hr, hE.step0 (Bs := [row e i.size _ (n + m) (xs ++ news)]) ⟨rfl, rfl, rfl⟩ (by simp) (fun b hb => RowKit.Below.heap_alloc w.drew _ b hb) ⟨fun b => b = w.heap.size, on_single ?_, fun b hb => by omega⟩⟩
  unfold row
  refine ⟨⟨hlen, .inr ⟨w.heap.size, _, _, rfl, Nat.zero_le _, heap_alloc_new w.drew _, hge, grownCap_le_maxLen w (n + m) n e (by unfold maxLen; omega), ?_, ?_⟩⟩, fun b => by simp [Value.ownBlock, eq_comm]⟩
  · rw [Array.size_append, hzero, List.size_toArray, hlen, ← Nat.add_mul]
    congr 1
    omega
  · rw [Array.toList_append, ← hlen]
    exact List.take_left
variable {ops : Array Oper} {o : Oper} {a : Act} {K : Act → World → Prop} {Q : Exit → Act → World → Prop} {E : Prop}
theorem step_appendFull {e : TypeId} {size bytes : Nat} {t : TypeId} (hE : Ent l w) {s y : Operand} (ho : o.op = .call { callee := .builtin .append, args := #[s, y], argTypes := #[t, t] }) (hw : Region.wanted o (yielded ops a.tmps) = true)
    {ao : Option Addr} {n : Nat} (hs : a.eval s = .slice ao n n) {ad : Addr} {m c : Nat} (hy : a.eval y = .slice (some ad) m c) (ht : P.underlying t = some (.slice e)) (hI : elemInfo P e = some (some size, size, bytes)) (hsz : 0 < size)
    {xs : List Value} (hr : reads (.slice ao n n) n xs w) (hxl : xs.length = n * size) {news : List Value} (hx : reads (.slice (some ad) m c) m news w) (hl : news.length = m * size) (hm : 0 < m) (h1 : ∀ u ∈ news, u.oneCell' = true) (hbytes : (n + m) * bytes ≤ 140737488355328) (h63 : n + m ≤ 140737488355328)
    (h : ∀ ao' c' w', Ent (row e size (.slice ao' (n + m) c') (n + m) (xs ++ news) :: l) w' → K (a.put o.dst (.slice ao' (n + m) c')) w') : if Region.wanted o (yielded ops a.tmps) = true then Oper.wp P o a w K Q else E := by
  rw [if_pos hw]
  obtain ⟨ao', c', w', hr0, hE'⟩ := hE.appendFull (P := P) o.type ht hI hsz hr hxl hx hl hm h1 hbytes h63
  unfold Oper.wp execOp
  simp only [ho, resolve, invoke, builtin, Sem.run_bind, Sem.run_pure, Result.andThen_ok, List.map_toArray, List.map_cons, List.map_nil, hs, hy, hr0]
  exact h ao' c' w' hE'
theorem step_build1 (hE : Ent l w) {t e : TypeId} {x : Operand} (ho : o.op = .buildSlice t 1 #[(0, x)]) (hw : Region.wanted o (yielded ops a.tmps) = true) {xs : List Value} (hx : a.eval x = .agg xs.toArray)
    (ht : P.underlying t = some (.slice e)) {size : Nat} (hI : zeroSize P e = some size) (hn : ∀ w, (Go.sizeOf e).run P w = .ok size w) (h0 : 0 < size) (h24 : size ≤ 16777216) (hxl : xs.length = size)
    (h : ∀ b w', Ent (pt b (.cells xs.toArray e) :: l) w' → K (a.put o.dst (.slice (some ⟨b, 0, none⟩) 1 1)) w') : if Region.wanted o (yielded ops a.tmps) = true then Oper.wp P o a w K Q else E := by
  have hr := run_buildSlice1 (P := P) (w := w) ht hI hn h0 h24 xs hxl
  refine step_run hw (w' := w.alloc (.cells xs.toArray e)) (v := .slice (some ⟨w.heap.size, 0, none⟩) 1 1) ?_ (h _ _ (hE.alloc _))
  simp [execOp, ho, hx, hr]
/-- one cell written, as one step of a region that draws -/
theorem step_setC (hE : Ent l w) (i : Nat) {b : Nat} {cur : Array Value} {T : TypeId} (hi : l[i]? = some (pt b (.cells cur T (0, 0))))
    {t : TypeId} {x y : Operand} (ho : o.op = .store t x y) (hw : Region.wanted o (yielded ops a.tmps) = true) {off : Nat} (hx : a.eval x = .pointer (some ⟨b, off, none⟩)) {v : Value} (hy : a.eval y = v)
    (hn : ∀ w, (Go.sizeOf t).run P w = .ok 1 w) (hv : v.cells = #[v]) (h1 : v.oneCell' = true) (hfit : off < cur.size)
    (h : ∀ w', Ent (l.set i (pt b (.cells (cur.setIfInBounds off v) T (0, 0)))) w' → K (a.put o.dst undef) w') : if Region.wanted o (yielded ops a.tmps) = true then Oper.wp P o a w K Q else E := by
  rw [if_pos hw]
  have hr := run_storeV (P := P) hE i hi (t := t) (v := v) (n := 1) hn (by rw [hv]; rfl) (by rw [hv]; simpa using h1) (off := off) (by omega)
  have e : (cur.toList.take off ++ v.cells.toList ++ cur.toList.drop (off + v.cells.toList.length)).toArray = cur.setIfInBounds off v := by
    rw [hv]
    apply Array.ext'
    rw [Array.toList_setIfInBounds, List.set_eq_take_append_cons_drop, if_pos (by simpa using hfit)]
    simp
  rw [e] at hr
  have hx2 : (execOp a.eval o).run P w = .ok .skip (w.setRow b (cur.setIfInBounds off v)) := by simp [execOp, ho, hx, hy, hr]
  simp only [Oper.wp, hx2, Oper.upon]
  exact h _ (hE.setRow i hi _)
end
end Go.SL
namespace Go.Proofs.YtjdignaddfhohaaDoor
open Go.RowKit Go.SL
abbrev rowEn (ao : Option Addr) (c : Nat) (xs : List En) : HProp := row 51 3 (.slice ao xs.length c) xs.length (xs.flatMap enC)
theorem info_en : elemInfo Tryd.prog 51 = some (some 3, 3, 40) := by kernel_rfl
theorem zs_en : zeroSize Tryd.prog 51 = some 3 := by kernel_rfl
theorem zs_st : zeroSize Tryd.prog 9 = some 1 := by kernel_rfl
end Go.Proofs.YtjdignaddfhohaaDoor
namespace Go.Proofs.YtjdignaddfhohaaDoor
open Go.RowKit Go.SL

theorem Clip_any (ao : Option Addr) (n c : Nat) (h : n ≤ c) (w : World) : Calls Tryd.prog 31 #[.slice ao n c] w (fun e w' => e = .returned (.slice ao n n) ∧ w' = w) := by
  have hs : ∀ w, (Instr.sliceAt 62 (.slice ao n c) none (some (.int .i64 n)) (some (.int .i64 n))).run Tryd.prog w = .ok (.slice ao n n) w := fun w => by
    rw [sliceAt_slice Tryd.underlying62]
    have hz : ∀ w, (Go.sizeOf 9).run Tryd.prog w = .ok 1 w := fun w => by first | (simp [go_sem]; done) | (simp [go_sem]; rfl)
    have a1 : ((n : Int) ≤ (c : Int)) := by omega
    cases ao with
    | none => simp [Instr.slice, run_underlying Tryd.underlying62, Instr.sliceBounds, Instr.sliceBound, asIntOf, hz, a1, h]
    | some a => simp [Instr.slice, run_underlying Tryd.underlying62, Instr.sliceBounds, Instr.sliceBound, asIntOf, hz, a1, h, Addr.add]
  go_enter Tryd.func31, Tryd.ntmps31
  go_wp2
  go_ret
  exact ⟨rfl, rfl⟩

def boO (bo : Nat) (ao : Option Addr) (n c : Nat) : HProp := pt bo (.cells #[.slice ao n c] 32)
def boW (bo bw : Nat) : HProp := pt bw (.cells #[.func (.func 30) #[] #[.pointer (some ⟨bo, 0, none⟩), .pointer (some ⟨bw, 0, none⟩)]] 76)
/-- the contract of the walk through a tree, so deep -/
def WalkC (bo bw d : Nat) : Prop := ∀ (t : Tr), Tr.Wf d t → ∀ (kv : Value) (q : List (List UInt8)) (an : Option Addr) (cn : Nat) (lb : List HProp) (pre : List En) (ao : Option Addr) (co : Nat) (w : World), KidsAt lb kv t.kids → q.length ≤ cn → q.length + d ≤ 100 → (∀ x ∈ q, x.length ≤ 600) →
  Knows lb (reads (.slice an q.length cn) q.length (q.map strv)) → pre.length + (entT d q t).length ≤ 1000000 → Ent (boO bo ao pre.length co :: boW bo bw :: rowEn ao co pre :: lb) w →
  Calls Tryd.prog 30 #[nodeV t kv, .slice an q.length cn, .pointer (some ⟨bo, 0, none⟩), .pointer (some ⟨bw, 0, none⟩)] w
    (Ret fun _ w' => ∃ ao' co', Ent (boO bo ao' (pre ++ entT d q t).length co' :: boW bo bw :: rowEn ao' co' (pre ++ entT d q t) :: lb) w')
set_option maxRecDepth 100000 in
theorem walk_none {bo bw : Nat} {t : Tr} (h : t.kids = []) {kv : Value} {an : Option Addr} {n cn : Nat} {lb : List HProp} {L : List HProp} {w : World} (hkv : KidsAt lb kv t.kids) (hE : Ent L w) :
    Calls Tryd.prog 30 #[nodeV t kv, .slice an n cn, .pointer (some ⟨bo, 0, none⟩), .pointer (some ⟨bw, 0, none⟩)] w (Ret fun _ w' => Ent L w') := by
  obtain ⟨td, tb, ks⟩ := t
  obtain rfl : ks = [] := h
  obtain ⟨ao, c, vs, rfl, _⟩ := hkv.open
  simp only [nodeV, Tr.dir, Tr.data, Tr.kids, List.length_nil]
  go_enter Tryd.func30, Tryd.ntmps30
  go_wp2_with (first
    | go_skip
    | (refine bxX hE ?_; clear hE; intro b4 w hE)
    | ((with_reducible (show Go.wpList _ _ _ (Go.Oper.mk _ (.load 33 _) _ _ _ _ :: _) _ _)); refine wpl_load1 hE 0 rfl rfl rfl rfl (by simp [go_sem]) rfl ?_))
  go_loopw [12] (fun i wr => i = .int .i64 0 ∧ Ent L wr) (fun _ _ => 0)
  case atStart => exact ⟨rfl, hE.tail⟩
  case round =>
    clear hE
    obtain ⟨rfl, hE⟩ := hrel
    go_wp2
    refine bodyPost_ret (results_none rfl _ _ _) rfl ?_
    exact ⟨_, rfl, hE⟩

def WkRel (bo bw d : Nat) (q : List (List UInt8)) (ks : List (List UInt8 × Tr)) (pre : List En) (lb : List HProp) (i : Value) (wr : World) : Prop :=
  ∃ (k : Nat) (ao : Option Addr) (co : Nat) (out : List En), k ≤ ks.length ∧ i = .int .i64 k ∧ out = pre ++ (ks.take k).flatMap (fun x => entOf q x :: entT d (q ++ [x.1]) x.2) ∧ Ent (boO bo ao out.length co :: boW bo bw :: rowEn ao co out :: lb) wr
theorem Ent.dropLast {A B C D : HProp} {l : List HProp} {w : World} (h : Ent (A :: B :: C :: D :: l) w) : Ent (A :: B :: C :: l) w := h.erase 3
set_option maxRecDepth 100000 in
set_option maxHeartbeats 8000000 in
attribute [-go_sem] Instr.loadAt in
theorem walk_step {bo bw d : Nat} (IH : WalkC bo bw d) : WalkC bo bw (d + 1) := by
  intro t hw kv q an cn lb pre ao0 co0 w hkv hcn hqd hq6 hn hbig hE
  obtain ⟨td, tb, ks⟩ := t
  have hk6 : ks.length ≤ 6 := hw.2.2.2.1
  have hwk := hw.2.2.2.2.2
  obtain ⟨ak, ck, vs, rfl, hc, hl, hkk, hks, hone⟩ := hkv.open
  replace hl : vs.length = ks.length := hl
  replace hkk : Knows lb (reads (.slice ak ks.length ck) ks.length (kCs ks vs)) := hkk
  replace hks : ∀ (i : Nat) (h : i < ks.length) (h' : i < vs.length), KidsAt lb vs[i] ks[i].2.kids := hks
  have hent : entT (d + 1) q (.nd td tb ks) = ks.flatMap fun x => entOf q x :: entT d (q ++ [x.1]) x.2 := rfl
  rw [hent] at hbig ⊢
  simp only [nodeV, Tr.dir, Tr.data, Tr.kids] at *
  clear hone hkv hw hent
  unfold boO boW at hE ⊢
  go_enter Tryd.func30, Tryd.ntmps30
  go_wp2_with (first
    | go_skip
    | (refine bxX hE ?_; clear hE; intro b4 w hE)
    | ((with_reducible (show Go.wpList _ _ _ (Go.Oper.mk _ (.load 33 _) _ _ _ _ :: _) _ _)); refine wpl_load1 hE 0 rfl rfl rfl rfl (by simp [go_sem]) rfl ?_))
  replace hE := hE.tail
  go_loopw [12] (fun i wr => WkRel bo bw d q ks pre lb i wr) (fun i _ => ks.length - (intOf i).toNat)
  case atStart => exact ⟨0, ao0, co0, pre, Nat.zero_le _, rfl, by simp, hE⟩
  case round =>
    clear hE
    obtain ⟨k, ao, co, out, hkn, rfl, hout, hE⟩ := hrel
    by_cases hlt : k < ks.length
    · obtain ⟨b, off, rfl, hz⟩ := kids_at hl (hkk _ hE.tail.tail.tail) hlt
      clear hz
      have hL := SL.hid (show ∀ W, Ent lb W → ∀ j v, (kC ks[k] (vs[k]'(by omega)))[j]? = some v → W.cell? ⟨b, off + k * 4 + j, none⟩ = some v from fun W hW => by
        obtain ⟨b', off', e, h⟩ := kids_at hl (hkk _ hW) hlt
        cases e
        exact h)
      have hkid := hks k hlt (by omega)
      have hwx := hwk _ (List.getElem_mem hlt)
      have htake := List.take_succ_eq_append_getElem hlt
      have hlen2 : out.length + (entOf q ks[k] :: entT d (q ++ [ks[k].1]) ks[k].2).length ≤ 1000000 := by
        have e : ks = ks.take k ++ ks[k] :: ks.drop (k + 1) := by rw [← List.drop_eq_getElem_cons hlt, List.take_append_drop]
        have h2 : ((ks.take k).flatMap (fun x => entOf q x :: entT d (q ++ [x.1]) x.2)).length + (entOf q ks[k] :: entT d (q ++ [ks[k].1]) ks[k].2).length ≤ (ks.flatMap (fun x => entOf q x :: entT d (q ++ [x.1]) x.2)).length := by
          conv => rhs; rw [e, List.flatMap_append, List.flatMap_cons, List.length_append, List.length_append]
          omega
        rw [hout, List.length_append]
        omega
      have hnx := (name_len hwx.1).2
      have Hout := SL.hid (show (out ++ [entOf q ks[k]]) ++ entT d (q ++ [ks[k].1]) ks[k].2 = pre ++ (ks.take (k + 1)).flatMap (fun x => entOf q x :: entT d (q ++ [x.1]) x.2) from by
        rw [htake, List.flatMap_append, hout]
        simp [List.append_assoc])
      obtain ⟨kvp, hkvp⟩ : ∃ x, vs[k]'(by omega) = x := ⟨_, rfl⟩
      rw [hkvp] at hL hkid
      have Hv1 := SL.hid (show kvp.oneCell' = true from by obtain ⟨a1, a2, e⟩ := hkid.slice; rw [e]; rfl)
      clear hkvp htake hout
      generalize ks[k] = x at *
      obtain ⟨xn, xt⟩ := x
      simp only at hkid hwx hnx Hout hlen2
      have Hlen2 := SL.hid hlen2
      have hqx : ∀ y ∈ q ++ [xn], y.length ≤ 600 := fun y hy => by
        rcases List.mem_append.1 hy with h | h
        · exact hq6 y h
        · rw [List.mem_singleton.1 h]; omega
      have Hqx := SL.hid hqx
      have HI := SL.hid (fun (an : Option Addr) (cn : Nat) (lb' : List HProp) (out' : List En) (ao : Option Addr) (co : Nat) (w : World) (hkv : KidsAt lb' kvp xt.kids) (hcn : (q ++ [xn]).length ≤ cn) (hn : Knows lb' (reads (.slice an (q ++ [xn]).length cn) (q ++ [xn]).length ((q ++ [xn]).map strv))) (hb : out'.length + (entT d (q ++ [xn]) xt).length ≤ 1000000) (hE : Ent (boO bo ao out'.length co :: boW bo bw :: rowEn ao co out' :: lb') w) =>
        IH xt hwx.2 kvp (q ++ [xn]) an cn lb' out' ao co w hkv hcn (by simp; omega) hqx hn hb hE)
      have HJ := SL.hid (fun (ao : Option Addr) (c : Nat) (hc : (q ++ [xn]).length ≤ c) (l : List HProp) (w : World) (hE : Ent l w) (hk : Knows l (reads (.slice ao (q ++ [xn]).length c) (q ++ [xn]).length ((q ++ [xn]).map strv))) => Join_any (by simp; omega) hqx hc hE hk)
      have hql : (q ++ [xn]).length = q.length + 1 := by simp
      have hqm : (q ++ [xn]).map strv = q.map strv ++ [strv xn] := by simp
      rw [hql, hqm] at HI HJ
      have HN := SL.hid (show Knows lb (reads (.slice an q.length q.length) q.length (q.map strv)) from fun w h => reads_cap (hn w h) _)
      have Hcn := SL.hid hcn
      have Hql := SL.hid (show q.length ≤ 100 from by omega)
      have hCl := fun w => Clip_any an q.length cn hcn w
      simp only [nodeV] at HI
      generalize hp : joinP (q ++ [xn]) = jp at *
      have Hp := SL.hid hp
      clear hp hql hqm hqx hn hcn hqd hlen2 hwx hbig
      unfold boO boW at HI hE
      have He := SL.hid (show entOf q (xn, xt) = ⟨jp, xt.dir, xt.data⟩ from by rw [entOf]; simp only [Hp.out])
      as_aux_lemma =>
      go_wp2_with (first
        | go_skip
        | ((with_reducible (show Go.wpList _ _ _ (Go.Oper.mk _ (.load 55 _) _ _ _ _ :: _) _ _)); refine wpl_loadC rfl rfl rfl Tryd.isAgg55 Tryd.sizeOf55 (kC (xn, xt) kvp) rfl (fun j v hv => by rw [Addr.add_lit]; exact hL.out _ (hE.suf sfx) j v hv) ?_)
        | ((with_reducible (show Go.wpList _ _ _ (Go.Oper.mk _ (.alloc 55) _ _ _ _ :: _) _ _)); refine wpl_allocN hE rfl rfl (n := 4) (by kernel_rfl) ?_; clear hE; intro b7 cs w1 hq hE)
        | ((with_reducible (show Go.wpList _ _ _ (Go.Oper.mk _ (.store 55 _ _) _ _ _ _ :: _) _ _)); refine wpl_storeN hE 0 rfl rfl rfl rfl (xs := [.string ⟨xn.toArray⟩, .bool xt.dir, .string ⟨xt.data.toArray⟩, kvp]) rfl Tryd.sizeOf55 rfl (by simp [Value.oneCell']; have := Hv1.out; simpa [Value.oneCell'] using this) hq ?_; clear hE hq; intro w2 hE; simp only [List.set_cons_zero] at hE))
      refine wp_region_held_drew (S := (fun w' => ((Instr.loadAt 9 (.pointer (some ⟨b7, 0, none⟩))).run Tryd.prog w' = .ok (.string ⟨xn.toArray⟩) w'))) (by kernel_rfl) (atVq hE.drew) (fun hS => ?_)
      refine tV 0 hS ?_; refine tV 2 hS ?_; refine tL 3 hS ?_
      refine wpAnyH_ready (rs := [1, 4]) (by kernel_rfl) (by simp) ?_
      refine (AllReadyH.cons (o := ⟨some 17, .call { callee := .value (.func 31), args := #[.tmp 16], argTypes := #[62] }, _, _, _, none⟩) rfl (fun K hK => ?_) (AllReadyH.cons (o := ⟨some 20, .buildSlice 62 1 #[(0, .tmp 19)], _, _, _, none⟩) rfl (fun K hK => ?_) AllReadyH.nil))
      focus
        (go_simp; refine (hCl _).mono ?_; rintro e w3 ⟨rfl, rfl⟩)
        refine tK hK (by first | exact (atVq hB) | exact (atVq hE.drew)) (fun hS => ?_); clear hK K
        refine tO 4 (fun K hK => ?_)
        (go_simp; have hB := hE.drew.alloc (.cells #[.string ⟨xn.toArray⟩] 9))
        refine tK hK (atVq hB) (fun hS => ?_); clear hK K
        refine tO 5 (fun K hK => ?_)
        (refine step_appendFull hB rfl (by rfl) (by rfl) (by rfl) Tryd.underlying62 info_str (by decide) (HN.out _ (hB.suf sfx)) (by simp) (m := 1) (news := [strv xn]) (reads_pt hB 0 rfl (off := 0) (fun j u hu => by rw [Nat.zero_add]; simpa [strv] using hu)) rfl (by decide) (by simp [strv, Value.oneCell']) (by have := Hql.out; omega) (by have := Hql.out; omega) ?_; intro aa ca w5 hA)
        refine tK hK (atVq hA) (fun hS => ?_); clear hK K
        refine tV 6 hS ?_
        refine wpAnyH_done (by kernel_rfl) ?_ _
      rotate_right
      focus
        (go_simp; have hB := hE.drew.alloc (.cells #[.string ⟨xn.toArray⟩] 9))
        refine tK hK (atVq hB) (fun hS => ?_); clear hK K
        refine tO 1 (fun K hK => ?_)
        (go_simp; refine (hCl _).mono ?_; rintro e w3 ⟨rfl, rfl⟩)
        refine tK hK (by first | exact (atVq hB) | exact (atVq hE.drew)) (fun hS => ?_); clear hK K
        refine tO 5 (fun K hK => ?_)
        (refine step_appendFull hB rfl (by rfl) (by rfl) (by rfl) Tryd.underlying62 info_str (by decide) (HN.out _ (hB.suf sfx)) (by simp) (m := 1) (news := [strv xn]) (reads_pt hB 0 rfl (off := 0) (fun j u hu => by rw [Nat.zero_add]; simpa [strv] using hu)) rfl (by decide) (by simp [strv, Value.oneCell']) (by have := Hql.out; omega) (by have := Hql.out; omega) ?_; intro aa ca w5 hA)
        refine tK hK (atVq hA) (fun hS => ?_); clear hK K
        refine tV 6 hS ?_
        refine wpAnyH_done (by kernel_rfl) ?_ _
      all_goals
        replace hE := hA.erase 1
        clear hA hB hS
        simp only [List.eraseIdx_cons_succ, List.eraseIdx_cons_zero] at hE
        obtain ⟨g, rfl, hca, _⟩ := hE.rowIs 0 rfl (by omega)
        have Hca := SL.hid hca
        clear hca
        go_wp2_with (first | go_skip)
        refine wp_region_held_drew (S := (fun w' => ((Instr.loadAt 4 (.pointer (some ⟨b7, 1, none⟩))).run Tryd.prog w' = .ok (.bool xt.dir) w') ∧ ((Instr.loadAt 9 (.pointer (some ⟨b7, 2, none⟩))).run Tryd.prog w' = .ok (.string ⟨xt.data.toArray⟩) w'))) (by kernel_rfl) ⟨(atVq hE.drew), (atVq hE.drew)⟩ (fun hS => ?_)
        refine tV 1 hS ?_; refine tV 3 hS ?_; refine tV 4 hS ?_; refine tL 5 hS ?_; refine tV 6 hS ?_; refine tV 7 hS ?_; refine tL 8 hS ?_
        refine wpAnyH_ready (rs := [0, 2]) (by kernel_rfl) (by simp) ?_
        refine (AllReadyH.cons (o := ⟨some 22, .load 32 (.tmp 2), _, _, _, none⟩) rfl (fun K hK => ?_) (AllReadyH.cons (o := ⟨some 24, .call { callee := .value (.func 32), args := #[.tmp 23], argTypes := #[62] }, _, _, _, none⟩) rfl (fun K hK => ?_) AllReadyH.nil))
        focus
          (first | refine step_load1 hB 3 rfl (by rfl) (by rfl) (by rfl) (by simp [go_sem]) rfl ?_ | refine step_load1 hJ 2 rfl (by rfl) (by rfl) (by rfl) (by simp [go_sem]) rfl ?_ | refine step_load1 hE.drew 2 rfl (by rfl) (by rfl) (by rfl) (by simp [go_sem]) rfl ?_)
          refine tK hK (by first | exact ⟨(atVq hB), (atVq hB)⟩ | exact ⟨(atVq hJ), (atVq hJ)⟩ | exact ⟨(atVq hE.drew), (atVq hE.drew)⟩) (fun hS => ?_); clear hK K
          refine tO 2 (fun K hK => ?_)
          (go_simp; refine (HJ.out _ _ Hca.out _ _ hE.drew (fun w h => reads_row h 0 rfl)).mono ?_; rintro e w6 ⟨v, rfl, rfl, hJ⟩)
          refine tK hK ⟨(atVq hJ), (atVq hJ)⟩ (fun hS => ?_); clear hK K
          refine tV 9 hS ?_
          refine tO 10 (fun K hK => ?_)
          (refine step_build1 hJ rfl (by rfl) (xs := enC ⟨jp, xt.dir, xt.data⟩) (by rfl) Tryd.underlying32 zs_en Tryd.sizeOf51 (by decide) (by decide) rfl ?_; intro b9 w7 hB)
          refine tK hK ⟨(atVq hB), (atVq hB)⟩ (fun hS => ?_); clear hK K
          refine tO 11 (fun K hK => ?_)
          (refine step_appendG hB 5 rfl rfl (by rfl) (by rfl) (by rfl) Tryd.underlying32 info_en (by decide) (m := 1) (news := enC ⟨jp, xt.dir, xt.data⟩) (reads_pt hB 0 rfl (off := 0) (fun j u hu => by rw [Nat.zero_add, List.getElem?_toArray]; exact hu)) rfl (enC_one _) (by have := Hlen2.out; simp at this; omega) (by have := Hlen2.out; simp at this; omega) ?_; intro ao' c' w8 hC; simp only [List.set_cons_zero, List.set_cons_succ] at hC)
          refine tK hK ⟨(atVq hC), (atVq hC)⟩ (fun hS => ?_); clear hK K
          refine tO 12 (fun K hK => ?_)
          (refine step_setC hC 3 rfl (by rfl) (by rfl) (by rfl) (v := .slice ao' (out.length + 1) c') (by rfl) (by first | (simp [go_sem]; done) | (simp [go_sem]; rfl)) rfl rfl (by simp) ?_; intro w9 hD; simp only [List.set_cons_zero, List.set_cons_succ] at hD)
          refine tK hK ⟨(atVq hD), (atVq hD)⟩ (fun hS => ?_); clear hK K
          refine wpAnyH_done (by kernel_rfl) ?_ _
        rotate_right
        focus
          (go_simp; refine (HJ.out _ _ Hca.out _ _ hE.drew (fun w h => reads_row h 0 rfl)).mono ?_; rintro e w6 ⟨v, rfl, rfl, hJ⟩)
          refine tK hK ⟨(atVq hJ), (atVq hJ)⟩ (fun hS => ?_); clear hK K
          refine tV 9 hS ?_
          refine wpAnyH_ready (rs := [0, 10]) (by kernel_rfl) (by simp) ?_
          refine (AllReadyH.cons (o := ⟨some 22, .load 32 (.tmp 2), _, _, _, none⟩) rfl (fun K hK => ?_) (AllReadyH.cons (o := ⟨some 32, .buildSlice 32 1 #[(0, .tmp 31)], _, _, _, none⟩) rfl (fun K hK => ?_) AllReadyH.nil))
          focus
            (first | refine step_load1 hB 3 rfl (by rfl) (by rfl) (by rfl) (by simp [go_sem]) rfl ?_ | refine step_load1 hJ 2 rfl (by rfl) (by rfl) (by rfl) (by simp [go_sem]) rfl ?_ | refine step_load1 hE.drew 2 rfl (by rfl) (by rfl) (by rfl) (by simp [go_sem]) rfl ?_)
            refine tK hK (by first | exact ⟨(atVq hB), (atVq hB)⟩ | exact ⟨(atVq hJ), (atVq hJ)⟩ | exact ⟨(atVq hE.drew), (atVq hE.drew)⟩) (fun hS => ?_); clear hK K
            refine tO 10 (fun K hK => ?_)
            (refine step_build1 hJ rfl (by rfl) (xs := enC ⟨jp, xt.dir, xt.data⟩) (by rfl) Tryd.underlying32 zs_en Tryd.sizeOf51 (by decide) (by decide) rfl ?_; intro b9 w7 hB)
            refine tK hK ⟨(atVq hB), (atVq hB)⟩ (fun hS => ?_); clear hK K
            refine tO 11 (fun K hK => ?_)
            (refine step_appendG hB 5 rfl rfl (by rfl) (by rfl) (by rfl) Tryd.underlying32 info_en (by decide) (m := 1) (news := enC ⟨jp, xt.dir, xt.data⟩) (reads_pt hB 0 rfl (off := 0) (fun j u hu => by rw [Nat.zero_add, List.getElem?_toArray]; exact hu)) rfl (enC_one _) (by have := Hlen2.out; simp at this; omega) (by have := Hlen2.out; simp at this; omega) ?_; intro ao' c' w8 hC; simp only [List.set_cons_zero, List.set_cons_succ] at hC)
            refine tK hK ⟨(atVq hC), (atVq hC)⟩ (fun hS => ?_); clear hK K
            refine tO 12 (fun K hK => ?_)
            (refine step_setC hC 3 rfl (by rfl) (by rfl) (by rfl) (v := .slice ao' (out.length + 1) c') (by rfl) (by first | (simp [go_sem]; done) | (simp [go_sem]; rfl)) rfl rfl (by simp) ?_; intro w9 hD; simp only [List.set_cons_zero, List.set_cons_succ] at hD)
            refine tK hK ⟨(atVq hD), (atVq hD)⟩ (fun hS => ?_); clear hK K
            refine wpAnyH_done (by kernel_rfl) ?_ _
          rotate_right
          focus
            (refine step_build1 hJ rfl (by rfl) (xs := enC ⟨jp, xt.dir, xt.data⟩) (by rfl) Tryd.underlying32 zs_en Tryd.sizeOf51 (by decide) (by decide) rfl ?_; intro b9 w7 hB)
            refine tK hK ⟨(atVq hB), (atVq hB)⟩ (fun hS => ?_); clear hK K
            refine tO 0 (fun K hK => ?_)
            (first | refine step_load1 hB 3 rfl (by rfl) (by rfl) (by rfl) (by simp [go_sem]) rfl ?_ | refine step_load1 hJ 2 rfl (by rfl) (by rfl) (by rfl) (by simp [go_sem]) rfl ?_ | refine step_load1 hE.drew 2 rfl (by rfl) (by rfl) (by rfl) (by simp [go_sem]) rfl ?_)
            refine tK hK (by first | exact ⟨(atVq hB), (atVq hB)⟩ | exact ⟨(atVq hJ), (atVq hJ)⟩ | exact ⟨(atVq hE.drew), (atVq hE.drew)⟩) (fun hS => ?_); clear hK K
            refine tO 11 (fun K hK => ?_)
            (refine step_appendG hB 5 rfl rfl (by rfl) (by rfl) (by rfl) Tryd.underlying32 info_en (by decide) (m := 1) (news := enC ⟨jp, xt.dir, xt.data⟩) (reads_pt hB 0 rfl (off := 0) (fun j u hu => by rw [Nat.zero_add, List.getElem?_toArray]; exact hu)) rfl (enC_one _) (by have := Hlen2.out; simp at this; omega) (by have := Hlen2.out; simp at this; omega) ?_; intro ao' c' w8 hC; simp only [List.set_cons_zero, List.set_cons_succ] at hC)
            refine tK hK ⟨(atVq hC), (atVq hC)⟩ (fun hS => ?_); clear hK K
            refine tO 12 (fun K hK => ?_)
            (refine step_setC hC 3 rfl (by rfl) (by rfl) (by rfl) (v := .slice ao' (out.length + 1) c') (by rfl) (by first | (simp [go_sem]; done) | (simp [go_sem]; rfl)) rfl rfl (by simp) ?_; intro w9 hD; simp only [List.set_cons_zero, List.set_cons_succ] at hD)
            refine tK hK ⟨(atVq hD), (atVq hD)⟩ (fun hS => ?_); clear hK K
            refine wpAnyH_done (by kernel_rfl) ?_ _
        all_goals
          clear hC hB hJ hE hS
          go_wp2_with (first
            | go_skip
            | ((with_reducible (show Go.wpList _ _ _ (Go.Oper.mk _ (.load 35 _) _ _ _ _ :: _) _ _)); refine wpl_loadA hD 2 rfl rfl rfl (off := 1) rfl Tryd.isAgg35 Tryd.sizeOf35 [.bool xt.dir, .string ⟨xt.data.toArray⟩, kvp] rfl (fun j hj => by match j, hj with | 0, _ => rfl | 1, _ => rfl | 2, _ => rfl) ?_)
            | ((with_reducible (show Go.wpList _ _ _ (Go.Oper.mk _ (.load _ (.tmp 3)) _ _ _ _ :: _) _ _)); refine wpl_load1 hD 4 rfl rfl rfl rfl (by simp [go_sem]) rfl ?_))
          have H := HI.out (some ⟨g, 0, none⟩) ca (row 9 1 (.slice (some ⟨g, 0, none⟩) (q.length + 1) ca) (q.length + 1) (q.map strv ++ [strv xn]) :: lb) (out ++ [entOf q (xn, xt)]) ao' c' _ (hkid.suf (List.suffix_cons _ _)) Hca.out (fun w h => reads_row h 0 rfl) (by have := Hlen2.out; simp at this ⊢; omega) (by have h := ((((hD.erase 0).erase 1).front 3 rfl).front 3 rfl).front 3 rfl; have e1 : (out ++ [entOf q (xn, xt)]).length = out.length + 1 := (by simp); have e2 : (out ++ [entOf q (xn, xt)]).flatMap enC = out.flatMap enC ++ enC ⟨jp, xt.dir, xt.data⟩ := (by rw [He.out]; simp); simp only [rowEn, e1, e2]; exact h)
          refine H.mono ?_
          clear H hD
          rintro e w10 ⟨v, rfl, ao2, co2, hF⟩
          go_wp2
          go_roundw
          case rel => exact ⟨k + 1, ao2, co2, _, hlt, by simp, Hout.out, Ent.dropLast hF⟩
          case measure => simp [intOf]; omega
    · obtain rfl : k = ks.length := by omega
      rw [List.take_length] at hout
      have Ho := SL.hid hout
      clear hout
      go_wp2
      refine bodyPost_ret (results_none rfl _ _ _) rfl ?_
      refine ⟨_, rfl, ao, co, ?_⟩
      rw [← Ho.out]
      exact hE
end Go.Proofs.YtjdignaddfhohaaDoor
namespace Go.Proofs.YtjdignaddfhohaaDoor
open Go.RowKit Go.SL

theorem walk_all (bo bw : Nat) : ∀ d, WalkC bo bw d
  | 0 => by
    intro t hw kv q an cn lb pre ao co w hkv hcn hqd hq6 hn hbig hE
    have hz : t.kids = [] := by cases t; exact hw.1
    refine (walk_none hz hkv hE).mono ?_
    rintro e w' ⟨v, rfl, h⟩
    refine ⟨v, rfl, ao, co, ?_⟩
    rw [entT_file hz, List.append_nil]
    exact h
  | d + 1 => walk_step (walk_all bo bw d)
set_option maxRecDepth 100000 in
set_option maxHeartbeats 2000000 in
attribute [-go_sem] Instr.loadAt in
theorem Entries_any {d : Nat} {t : Tr} (hw : Tr.Wf d t) (hd : d ≤ 100) {kv : Value} {l : List HProp} (hkv : KidsAt l kv t.kids) (hb : (entT d [] t).length ≤ 1000000) {w : World} (hE : Ent l w) :
    Calls Tryd.prog 16 #[nodeV t kv] w (Ret fun v w' => ∃ ao c m, v = .slice ao (entT d [] t).length c ∧ Ent (rowEn ao c (entT d [] t) :: (m ++ l)) w') := by
  have HW := SL.hid (fun (bo bw : Nat) (lb : List HProp) (w : World) (hkv : KidsAt lb kv t.kids) (hE : Ent (boO bo none 0 0 :: boW bo bw :: rowEn none 0 [] :: lb) w) =>
    walk_all bo bw d t hw kv [] none 0 lb [] none 0 w hkv (Nat.zero_le _) (by simpa using hd) (by simp) (fun _ _ => reads_nil 0 0 rfl _) (by simpa using hb) hE)
  simp only [List.length_nil, List.nil_append, nodeV] at HW
  unfold nodeV
  unfold boO boW at HW
  clear hb hw
  generalize entT d [] t = es at *
  go_enter Tryd.func16, Tryd.ntmps16
  go_wp2_with (first
    | go_skip
    | (refine bxX hE ?_; clear hE; intro b1 w hE)
    | ((with_reducible (show Go.wpList _ _ _ (Go.Oper.mk _ (.alloc 32) _ _ _ _ :: _) _ _)); refine wpl_alloc hE rfl rfl (by simp [go_sem]; rfl) ?_; clear hE; intro b3 w hE; simp only [Act.eval, Act.put, List.setIfInBounds_toArray, List.set_cons_zero, List.set_cons_succ, getD_lit, List.getD_cons_succ, List.getD_cons_zero, Value.cells] at hE)
    | ((with_reducible (show Go.wpList _ _ _ (Go.Oper.mk _ (.alloc 76) _ _ _ _ :: _) _ _)); refine wpl_alloc hE rfl rfl (by simp [go_sem]; rfl) ?_; clear hE; intro b4 w hE; simp only [Act.eval, Act.put, List.setIfInBounds_toArray, List.set_cons_zero, List.set_cons_succ, getD_lit, List.getD_cons_succ, List.getD_cons_zero, Value.cells] at hE)
    | ((with_reducible (show Go.wpList _ _ _ (Go.Oper.mk _ (.store _ _ _) _ _ _ _ :: _) _ _)); refine wpl_st1 hE 0 rfl rfl rfl rfl rfl (by first | (simp [go_sem]; done) | (simp [go_sem]; rfl)) rfl rfl (by simp) ?_; clear hE; intro w hE; simp only [Act.eval, Act.put, List.setIfInBounds_toArray, List.set_cons_zero, List.set_cons_succ, getD_lit, List.getD_cons_succ, List.getD_cons_zero, Value.cells] at hE)
    | ((with_reducible (show Go.wpList _ _ _ (Go.Oper.mk _ (.load 35 _) _ _ _ _ :: _) _ _)); refine wpl_loadA hE 2 rfl rfl rfl (off := 0) rfl Tryd.isAgg35 Tryd.sizeOf35 [.bool t.dir, .string ⟨t.data.toArray⟩, kv] rfl (fun j hj => by match j, hj with | 0, _ => rfl | 1, _ => rfl | 2, _ => rfl) ?_)
    | ((with_reducible (show Go.wpList _ _ _ (Go.Oper.mk _ (.load 76 _) _ _ _ _ :: _) _ _)); refine wpl_load1 hE 0 rfl rfl rfl rfl (by simp [go_sem]) rfl ?_))
  replace hE := ((hE.nil 51 3).front 1 rfl).front 2 rfl
  simp only [List.eraseIdx_cons_succ, List.eraseIdx_cons_zero] at hE
  refine (HW.out b3 b4 (pt b1 (.cells #[.bool t.dir, .string ⟨t.data.toArray⟩, kv] 35) :: l) _ (hkv.suf (List.suffix_cons _ _)) hE).mono ?_
  clear hE
  rintro e w9 ⟨v, rfl, ao, co, hE⟩
  go_wp2_with (first
    | go_skip
    | ((with_reducible (show Go.wpList _ _ _ (Go.Oper.mk _ (.load _ (.tmp 3)) _ _ _ _ :: _) _ _)); refine wpl_load1 hE 0 rfl rfl rfl rfl (by simp [go_sem]) rfl ?_))
  go_ret
  exact ⟨_, rfl, ao, co, [_, _, _], rfl, hE.front 2 rfl⟩
end Go.Proofs.YtjdignaddfhohaaDoor
namespace Go.SL
theorem Ent.swap {a b c : List HProp} {w : World} (h : Ent (a ++ (b ++ c)) w) : Ent (b ++ (a ++ c)) w := h.perm (by rw [← List.append_assoc, ← List.append_assoc]; exact List.perm_append_comm.append_right c)
end Go.SL
namespace Go.Proofs.YtjdignaddfhohaaDoor
open Go.RowKit Go.SL

def sdC (s : Sd) : List Value := [.bool s.there, .bool s.dir, .string ⟨s.data.toArray⟩]
def sdV (s : Sd) : Value := .agg #[.bool s.there, .bool s.dir, .string ⟨s.data.toArray⟩]
/-- the document's side of a path -/
def rOf (l : List En) (p : List UInt8) : Sd := match l.find? (fun x => x.path == p) with
  | some x => ⟨true, x.dir, x.data⟩
  | none => if p = [] then ⟨true, true, []⟩ else .no
theorem rOf_fE {l : List En} {p : List UInt8} (h : p ≠ []) : rOf l p = fE l p := by
  unfold rOf fE
  cases l.find? (fun x => x.path == p) with
  | some x => rfl
  | none => rw [if_neg h]; rfl
set_option maxRecDepth 100000 in
theorem sideOf_any {t : Tr} {kv : Value} {l : List HProp} {w : World} (hE : Ent l w) :
    Calls Tryd.prog 29 #[.agg #[.bool t.dir, .string ⟨t.data.toArray⟩, kv]] w (Ret fun v w' => v = sdV ⟨true, t.dir, t.data⟩ ∧ Ent l w') := by
  go_enter Tryd.func29, Tryd.ntmps29
  go_wp2_with (first
    | go_skip
    | (refine bxX hE ?_; clear hE; intro b1 w hE)
    | (refine alX hE ?_; clear hE; intro b2 w hE)
    | ((with_reducible (show Go.wpList _ _ _ (Go.Oper.mk _ (.store _ _ _) _ _ _ _ :: _) _ _)); refine wpl_storeW hE 0 rfl rfl rfl (xs := [.bool true, .bool t.dir, .string ⟨t.data.toArray⟩]) rfl rfl Tryd.sizeOf25 rfl (by simp [Value.oneCell']) rfl ?_; clear hE; intro w8 hE; simp only [List.set_cons_zero] at hE)
    | (refine ldX hE ?_))
  refine bodyPost_ret (results_cellA rfl hE 0 rfl rfl Tryd.isAgg25 Tryd.sizeOf25 rfl) rfl ?_
  exact ⟨_, rfl, rfl, hE.tail.tail⟩
def ofP (t : Tr) (p : List UInt8) : Sd := if splitE p = 0 then (if (atT 11 10 (splitL p) t).1 = 0 then ⟨true, (atT 11 10 (splitL p) t).2.dir, (atT 11 10 (splitL p) t).2.data⟩ else .no) else .no
def OfPost (s : Sd) (l : List HProp) (v : Value) (w' : World) : Prop := v = sdV s ∧ ∃ m, Ent (m ++ l) w'
set_option maxRecDepth 100000 in
set_option maxHeartbeats 4000000 in
theorem Of_any {t : Tr} (ht : Tr.Wf 6 t) {kv : Value} {p : List UInt8} (hp : p.length ≤ 100000) {l : List HProp} (hkv : KidsAt l kv t.kids) {w : World} (hE : Ent l w) :
    Calls Tryd.prog 15 #[nodeV t kv, .string ⟨p.toArray⟩] w (Ret (OfPost (ofP t p) l)) := by
  have HS := SL.hid (fun (L : List HProp) (w : World) (h : Ent L w) => Split_any (p := p) (by omega) h)
  have hl6 : splitE p = 0 → (splitL p).length ≤ 1000 := by
    intro h
    unfold splitE at h
    unfold splitL
    split
    · simp
    · rename_i h0
      rw [if_neg h0] at h
      split at h
      · next h1 =>
        rw [if_pos h1]
        split at h
        · next h2 => rw [if_pos h2]; omega
        · cases h
      · cases h
  have HAt := SL.hid (fun (h0 : splitE p = 0) (L : List HProp) (w : World) (hs : l <:+ L) (a1 : Option Addr) (c1 : Nat) hk (h : Ent L w) => At_any ht (hkv.suf hs) (q := splitL p) (hl6 h0) (an := a1) (cn := c1) hk h)
  have HSo := SL.hid (fun (T : Tr) (v : Value) (L : List HProp) (w : World) (h : Ent L w) => sideOf_any (t := T) (kv := v) h)
  unfold ofP
  unfold nodeV at *
  generalize splitL p = q at *
  by_cases h0 : splitE p = 0
  · rw [if_pos h0]
    rw [h0] at HS
    have HAt := SL.hid (HAt.out h0)
    clear h0 hl6
    generalize atT 11 10 q t = r at *
    obtain ⟨er, T⟩ := r
    simp only at HAt ⊢
    cases hne : (er != 0) with
    | true =>
      rw [if_neg (by simpa using hne)]
      go_enter Tryd.func15, Tryd.ntmps15
      go_wp2_with (first
        | go_skip
        | (refine bxX hE ?_; clear hE; intro b2 w hE)
        | ((with_reducible (show Go.wpList _ _ _ (Go.Oper.mk _ (.alloc 25) _ _ _ _ :: _) _ _)); refine wpl_alloc hE rfl rfl (by simp [go_sem]; rfl) ?_; clear hE; intro b4 w hE; simp only [Act.eval, Act.put, List.setIfInBounds_toArray, List.set_cons_zero, List.set_cons_succ, getD_lit, List.getD_cons_succ, List.getD_cons_zero, Value.cells] at hE)
        | ((with_reducible (show Go.wpList _ _ _ (Go.Oper.mk _ (.alloc 35) _ _ _ _ :: _) _ _)); refine wpl_alloc hE rfl rfl (by simp [go_sem]; rfl) ?_; clear hE; intro b7 w hE; simp only [Act.eval, Act.put, List.setIfInBounds_toArray, List.set_cons_zero, List.set_cons_succ, getD_lit, List.getD_cons_succ, List.getD_cons_zero, Value.cells] at hE)
        | (go_at_call 27; refine (HS.out _ _ hE).mono ?_; clear hE; rintro e w2 ⟨v, h1, a1, c1, h2, hE⟩; cases h1; cases h2)
        | ((with_reducible (show Go.wpList _ _ _ (Go.Oper.mk _ (.load 35 (.tmp 2)) _ _ _ _ :: _) _ _)); refine wpl_loadW (xs := [.bool t.dir, .string ⟨t.data.toArray⟩, kv]) hE 2 rfl rfl rfl rfl Tryd.isAgg35 Tryd.sizeOf35 rfl ?_)
        | (go_at_call 28; refine (HAt.out _ _ sfx _ _ (fun w h => reads_row h 0 rfl) hE).mono ?_; clear hE; rintro e w2 ⟨v, h1, kv2, h2, hE, hK⟩; obtain ⟨a9, c9, rfl⟩ := hK.slice; cases h1; cases h2)
        | ((with_reducible (show Go.wpList _ _ _ (Go.Oper.mk _ (.store 35 _ _) _ _ _ _ :: _) _ _)); refine wpl_storeW hE 0 rfl rfl rfl (xs := [.bool T.dir, .string ⟨T.data.toArray⟩, .slice a9 T.kids.length c9]) rfl rfl Tryd.sizeOf35 rfl (by simp [Value.oneCell']) rfl ?_; clear hE; intro w8 hE; simp only [List.set_cons_zero] at hE)
        | ((with_reducible (show Go.wpList _ _ _ (Go.Oper.mk _ (.store 25 _ _) _ _ _ _ :: _) _ _)); refine wpl_storeW hE 2 rfl rfl rfl (xs := [.bool false, .bool false, .string ⟨#[]⟩]) rfl rfl Tryd.sizeOf25 rfl (by simp [Value.oneCell']) rfl ?_; clear hE; intro w8 hE; simp only [List.set_cons_zero, List.set_cons_succ] at hE))
      refine bodyPost_ret (results_cellA rfl hE 2 rfl rfl Tryd.isAgg25 Tryd.sizeOf25 rfl) rfl ?_
      exact ⟨_, rfl, rfl, [], hE.tail.tail.tail.tail⟩
    | false =>
      obtain rfl : er = 0 := by simpa using hne
      rw [if_pos rfl]
      go_enter Tryd.func15, Tryd.ntmps15
      go_wp2_with (first
        | go_skip
        | (refine bxX hE ?_; clear hE; intro b2 w hE)
        | ((with_reducible (show Go.wpList _ _ _ (Go.Oper.mk _ (.alloc 25) _ _ _ _ :: _) _ _)); refine wpl_alloc hE rfl rfl (by simp [go_sem]; rfl) ?_; clear hE; intro b4 w hE; simp only [Act.eval, Act.put, List.setIfInBounds_toArray, List.set_cons_zero, List.set_cons_succ, getD_lit, List.getD_cons_succ, List.getD_cons_zero, Value.cells] at hE)
        | ((with_reducible (show Go.wpList _ _ _ (Go.Oper.mk _ (.alloc 35) _ _ _ _ :: _) _ _)); refine wpl_alloc hE rfl rfl (by simp [go_sem]; rfl) ?_; clear hE; intro b7 w hE; simp only [Act.eval, Act.put, List.setIfInBounds_toArray, List.set_cons_zero, List.set_cons_succ, getD_lit, List.getD_cons_succ, List.getD_cons_zero, Value.cells] at hE)
        | (go_at_call 27; refine (HS.out _ _ hE).mono ?_; clear hE; rintro e w2 ⟨v, h1, a1, c1, h2, hE⟩; cases h1; cases h2)
        | ((with_reducible (show Go.wpList _ _ _ (Go.Oper.mk _ (.load 35 (.tmp 2)) _ _ _ _ :: _) _ _)); refine wpl_loadW (xs := [.bool t.dir, .string ⟨t.data.toArray⟩, kv]) hE 2 rfl rfl rfl rfl Tryd.isAgg35 Tryd.sizeOf35 rfl ?_)
        | ((with_reducible (show Go.wpList _ _ _ (Go.Oper.mk _ (.load 35 _) _ _ _ _ :: _) _ _)); refine wpl_loadW (xs := [.bool T.dir, .string ⟨T.data.toArray⟩, .slice a9 T.kids.length c9]) hE 0 rfl rfl rfl rfl Tryd.isAgg35 Tryd.sizeOf35 rfl ?_)
        | (go_at_call 28; refine (HAt.out _ _ sfx _ _ (fun w h => reads_row h 0 rfl) hE).mono ?_; clear hE; rintro e w2 ⟨v, h1, kv2, h2, hE, hK⟩; obtain ⟨a9, c9, rfl⟩ := hK.slice; cases h1; cases h2)
        | (go_at_call 29; refine (HSo.out T _ _ _ hE).mono ?_; clear hE; rintro e w2 ⟨v, h1, h2, hE⟩; cases h1; cases h2)
        | ((with_reducible (show Go.wpList _ _ _ (Go.Oper.mk _ (.store 35 _ _) _ _ _ _ :: _) _ _)); refine wpl_storeW hE 0 rfl rfl rfl (xs := [.bool T.dir, .string ⟨T.data.toArray⟩, .slice a9 T.kids.length c9]) rfl rfl Tryd.sizeOf35 rfl (by simp [Value.oneCell']) rfl ?_; clear hE; intro w8 hE; simp only [List.set_cons_zero] at hE)
        | ((with_reducible (show Go.wpList _ _ _ (Go.Oper.mk _ (.store 25 _ _) _ _ _ _ :: _) _ _)); refine wpl_storeW hE 2 rfl rfl rfl (xs := [.bool true, .bool T.dir, .string ⟨T.data.toArray⟩]) rfl rfl Tryd.sizeOf25 rfl (by simp [Value.oneCell']) rfl ?_; clear hE; intro w8 hE; simp only [List.set_cons_zero, List.set_cons_succ] at hE))
      refine bodyPost_ret (results_cellA rfl hE 2 rfl rfl Tryd.isAgg25 Tryd.sizeOf25 rfl) rfl ?_
      exact ⟨_, rfl, rfl, [], hE.tail.tail.tail.tail⟩
  · rw [if_neg h0]
    have hne : (splitE p != 0) = true := by simpa using h0
    clear HAt h0 hl6
    generalize splitE p = er at *
    go_enter Tryd.func15, Tryd.ntmps15
    go_wp2_with (first
      | go_skip
      | (refine bxX hE ?_; clear hE; intro b2 w hE)
      | (refine alX hE ?_; clear hE; intro b4 w hE)
      | (go_at_call 27; refine (HS.out _ _ hE).mono ?_; clear hE; rintro e w2 ⟨v, h1, a1, c1, h2, hE⟩; cases h1; cases h2)
      | ((with_reducible (show Go.wpList _ _ _ (Go.Oper.mk _ (.store 25 _ _) _ _ _ _ :: _) _ _)); refine wpl_storeW hE 1 rfl rfl rfl (xs := [.bool false, .bool false, .string ⟨#[]⟩]) rfl rfl Tryd.sizeOf25 rfl (by simp [Value.oneCell']) rfl ?_; clear hE; intro w8 hE; simp only [List.set_cons_zero, List.set_cons_succ] at hE))
    refine bodyPost_ret (results_cellA rfl hE 1 rfl rfl Tryd.isAgg25 Tryd.sizeOf25 rfl) rfl ?_
    exact ⟨_, rfl, rfl, [], hE.tail.tail.tail⟩
/-- the program's side of a path is the document's -/
theorem of_same {t : Tr} (ht : Tr.Wf 6 t) (hd : t.dir = true) (hb : t.data = []) (p : List UInt8) : ofP t p = rOf (entT 6 [] t) p := by
  by_cases hp : p = []
  · subst hp
    have hn : (entT 6 [] t).find? (fun x => x.path == []) = none := List.find?_eq_none.2 (fun x hx => by have := (ent_path ht hx).2.2; simpa using this)
    rw [rOf, hn]
    show (if splitE [] = 0 then _ else _) = _
    rw [show splitE [] = 0 from rfl, show splitL [] = [] from rfl, if_pos rfl, if_pos rfl]
    simp only [atT, if_true, hd, hb]
  · rw [rOf_fE hp]
    unfold ofP
    by_cases h0 : splitE p = 0
    · rw [if_pos h0]
      have hs : splitL p = cuts p ∧ (cuts p).all isName = true ∧ (cuts p).length ≤ 6 := by
        unfold splitE at h0
        unfold splitL
        rw [if_neg hp] at h0 ⊢
        split at h0
        · next h1 =>
          rw [if_pos h1]
          split at h0
          · next h2 => rw [if_pos h2]; exact ⟨rfl, h1, h2⟩
          · cases h0
        · cases h0
      have e := fE_at ht (cuts_ne p) hs.2.1 hs.2.2
      rw [join_cuts] at e
      rw [e, hs.1]
      have hg := atT_get (kE := 11) (nE := 10) (by decide) (by decide) (q := cuts p) ht
      cases hq : Tr.get? (cuts p) t with
      | none =>
        rw [if_neg (fun h => by have := hg.1.1 h; rw [hq] at this; cases this)]
      | some k =>
        rw [if_pos (hg.1.2 (by rw [hq]; rfl)), hg.2 k hq]
    · rw [if_neg h0, fE_none]
      intro h
      obtain ⟨y, hy, rfl⟩ := List.mem_map.1 h
      exact h0 (ent_path ht hy).1
/-- sides, compared -/
theorem sd_beq (t u d e : Bool) (x y : List UInt8) : ((⟨t, d, x⟩ : Sd) == ⟨u, e, y⟩) = (t == u && (d == e && x == y)) := by
  rw [Bool.eq_iff_iff]
  simp [Sd.mk.injEq]
theorem eqSd (n : Nat) (a b : Sd) (w : World) : (Op.equalIn (n + 2) 25 (.agg (sdC a).toArray) (.agg (sdC b).toArray)).run Tryd.prog w = .ok (a == b) w := by
  obtain ⟨t, d, x⟩ := a
  obtain ⟨u, e, y⟩ := b
  have h := run_equalIn_agg (P := Tryd.prog) (w := w) (n + 1) 25 #[.bool t, .bool d, .string ⟨x.toArray⟩] #[.bool u, .bool e, .string ⟨y.toArray⟩] (by kernel_rfl) (by kernel_rfl)
  refine h.trans ?_
  rw [sd_beq]
  cases hxy : (x == y) <;> cases t <;> cases u <;> cases d <;> cases e <;> simp [go_sem, hxy]
theorem eqSr (n : Nat) (a b : Sd) (w : World) : (Op.equalIn (n + 2) 23 (.agg (sdC a).toArray) (.agg (sdC b).toArray)).run Tryd.prog w = .ok (a == b) w := by
  obtain ⟨t, d, x⟩ := a
  obtain ⟨u, e, y⟩ := b
  have h := run_equalIn_agg (P := Tryd.prog) (w := w) (n + 1) 23 #[.bool t, .bool d, .string ⟨x.toArray⟩] #[.bool u, .bool e, .string ⟨y.toArray⟩] (by kernel_rfl) (by kernel_rfl)
  refine h.trans ?_
  rw [sd_beq]
  cases hxy : (x == y) <;> cases t <;> cases u <;> cases d <;> cases e <;> simp [go_sem, hxy]
end Go.Proofs.YtjdignaddfhohaaDoor
namespace Go.Proofs.YtjdignaddfhohaaDoor
open Go.RowKit Go.SL

theorem choose_b3 (b o t : Sd) : chooseS b o t = if (o == t || t == b) = true then (o, true) else if (o == b) = true then (t, true) else (o, false) := by
  unfold chooseS
  simp only [Bool.or_eq_true, beq_iff_eq]
set_option maxRecDepth 100000 in
attribute [-go_sem] Go.run_equalIn_agg in
theorem Choose_any (b o t : Sd) {l : List HProp} {w : World} (hE : Ent l w) :
    Calls Tryd.prog 8 #[sdV b, sdV o, sdV t] w (Ret fun v w' => v = .tuple #[sdV (chooseS b o t).1, .bool (chooseS b o t).2] ∧ Ent l w') := by
  have e1 := fun w => eqSd 9998 o t w
  have e2 := fun w => eqSd 9998 t b w
  have e3 := fun w => eqSd 9998 o b w
  rw [choose_b3]
  cases h1 : (o == t) <;> cases h2 : (t == b) <;> cases h3 : (o == b) <;> rw [h1] at e1 <;> rw [h2] at e2 <;> rw [h3] at e3 <;> simp only [Bool.or_true, Bool.or_false, Bool.or_self, if_true, if_false, Bool.false_eq_true]
  all_goals
    clear h1 h2 h3
    unfold sdV
    simp only [sdC] at e1 e2 e3
    generalize o.there = ot at *
    generalize o.dir = od at *
    generalize o.data = ob at *
    generalize t.there = tt at *
    generalize t.dir = td at *
    generalize t.data = tb at *
    generalize b.there = bt at *
    generalize b.dir = bd at *
    generalize b.data = bb at *
    go_enter Tryd.func8, Tryd.ntmps8
    go_wp2_with (first
      | go_skip
      | (refine bxX hE ?_; clear hE; intro bx w hE)
      | (refine alX hE ?_; clear hE; intro bx w hE)
      | (refine lwX (t := 25) hE Tryd.isAgg25 Tryd.sizeOf25 ?_)
      | (refine swX (t := 25) hE [.bool ot, .bool od, .string ⟨ob.toArray⟩] Tryd.sizeOf25 ?_; clear hE; intro w hE)
      | (refine swX (t := 25) hE [.bool tt, .bool td, .string ⟨tb.toArray⟩] Tryd.sizeOf25 ?_; clear hE; intro w hE))
    refine bodyPost_ret (results_cell2 rfl hE 0 rfl rfl Tryd.isAgg25 Tryd.sizeOf25 rfl rfl) rfl ?_
    exact ⟨_, rfl, rfl, hE.tail.tail.tail.tail⟩
end Go.Proofs.YtjdignaddfhohaaDoor
namespace Go.SL
section
variable {P : Program} {ops : Array Oper} {rest : List Oper} {o : Oper} {a : Act} {Q : Exit → Act → World → Prop} {w : World} {l : List HProp}

/-- keys that the model compares at once -/
structure KeyK {κ : Type} [BEq κ] (kd : TypeDesc) (enc : κ → Value) : Prop where
  same : ∀ a b, Instr.sameNow kd (enc a) (enc b) = some (a == b)
  bits : ∀ a, Instr.sameBits 10000 (enc a) (enc a) = true
  check : ∀ {P : Program} {kt : TypeId}, P.underlying kt = some kd → ∀ e n k w, (Instr.checkKey e (n + 1) kt (enc k)).run P w = .ok () w
abbrev kS (s : List UInt8) : Value := .string ⟨s.toArray⟩
abbrev kI (ik : IntKind) (n : Int) : Value := .int ik n
theorem keyS : KeyK .string kS := by
  refine ⟨fun a b => ?_, fun a => ?_, fun {P kt} h e n k w => ?_⟩
  · simp only [Instr.sameNow]
    rw [beq_toListBytes, ByteArray.toList_eq, ByteArray.toList_eq]
  · simp only [Instr.sameBits]
    rw [beq_toListBytes, beq_self_eq_true]
  · unfold Instr.checkKey
    simp [run_underlying h]
theorem keyI (ik : IntKind) : KeyK (.int ik) (kI ik) := by
  refine ⟨fun a b => ?_, fun a => ?_, fun {P kt} h e n k w => ?_⟩
  · simp only [Instr.sameNow, if_true]
  · simp [Instr.sameBits]
  · unfold Instr.checkKey
    simp [run_underlying h]

variable {κ : Type} [BEq κ] [LawfulBEq κ] {enc : κ → Value}
/-- one entry put: over the old one of its key, or behind all -/
def setK (kvs : List (κ × Value)) (n : κ) (v : Value) : List (κ × Value) := match kvs with
  | [] => [(n, v)]
  | p :: t => if n == p.1 then (n, v) :: t else p :: setK t n v
def lookK (kvs : List (κ × Value)) (n : κ) : Option Value := (kvs.find? fun p => n == p.1).map Prod.snd
theorem look_set : ∀ {kvs : List (κ × Value)} {n m : κ} {v : Value}, lookK (setK kvs n v) m = if m == n then some v else lookK kvs m
  | [], n, m, v => by
    cases h : m == n <;> simp [lookK, setK, h]
  | p :: t, n, m, v => by
    unfold setK
    cases h : n == p.1 with
    | true =>
      have e : n = p.1 := eq_of_beq h
      subst e
      cases h2 : m == p.1 <;> simp [lookK, h2]
    | false =>
      have ih := look_set (kvs := t) (n := n) (m := m) (v := v)
      unfold lookK at ih ⊢
      simp only [Bool.false_eq_true, if_false, List.find?_cons]
      cases h2 : m == p.1 with
      | true =>
        have e : m = p.1 := eq_of_beq h2
        subst e
        have h3 : (p.1 == n) = false := by rw [Bool.eq_false_iff] at h ⊢; intro hh; exact h (by rw [eq_of_beq hh]; exact beq_self_eq_true _)
        simp [h3]
      | false => exact ih
theorem set_mem {kvs : List (κ × Value)} {n m : κ} {v : Value} : m ∈ (setK kvs n v).map Prod.fst ↔ m = n ∨ m ∈ kvs.map Prod.fst := by
  induction kvs with
  | nil => simp [setK]
  | cons p t ih =>
    unfold setK
    cases h : n == p.1 with
    | true =>
      have e : n = p.1 := eq_of_beq h
      subst e
      simp
    | false =>
      simp only [Bool.false_eq_true, if_false, List.map_cons, List.mem_cons, ih]
      constructor
      · rintro (h | h | h)
        · exact .inr (.inl h)
        · exact .inl h
        · exact .inr (.inr h)
      · rintro (h | h | h)
        · exact .inr (.inl h)
        · exact .inl h
        · exact .inr (.inr h)
theorem set_nodup : ∀ {kvs : List (κ × Value)} {n : κ} {v : Value}, (kvs.map Prod.fst).Nodup → ((setK kvs n v).map Prod.fst).Nodup
  | [], n, v, _ => by simp [setK]
  | p :: t, n, v, h => by
    rw [List.map_cons, List.nodup_cons] at h
    unfold setK
    cases hn : n == p.1 with
    | true =>
      have e : n = p.1 := eq_of_beq hn
      subst e
      simpa using h
    | false =>
      simp only [Bool.false_eq_true, if_false, List.map_cons, List.nodup_cons]
      refine ⟨fun hm => ?_, set_nodup h.2⟩
      rcases set_mem.1 hm with e | hm
      · rw [e] at hn; simp at hn
      · exact h.1 hm
theorem look_some {kvs : List (κ × Value)} {n : κ} {v : Value} (h : lookK kvs n = some v) : (n, v) ∈ kvs := by
  unfold lookK at h
  cases hf : kvs.find? (fun p => n == p.1) with
  | none => rw [hf] at h; cases h
  | some p =>
    rw [hf] at h
    cases h
    have h1 := List.find?_some hf
    have e : n = p.1 := eq_of_beq h1
    rw [e]
    exact List.mem_of_find?_eq_some hf
theorem look_none {kvs : List (κ × Value)} {n : κ} : lookK kvs n = none ↔ n ∉ kvs.map Prod.fst := by
  unfold lookK
  rw [Option.map_eq_none_iff, List.find?_eq_none]
  constructor
  · intro h hm
    obtain ⟨p, hp, rfl⟩ := List.mem_map.1 hm
    have := h p hp
    simp at this
  · intro h p hp hb
    have e : n = p.1 := eq_of_beq (by simpa using hb)
    exact h (e ▸ List.mem_map_of_mem hp)
theorem look_mem {kvs : List (κ × Value)} (hn : (kvs.map Prod.fst).Nodup) {p : κ × Value} (hp : p ∈ kvs) : lookK kvs p.1 = some p.2 := by
  induction kvs with
  | nil => cases hp
  | cons q t ih =>
    rw [List.map_cons, List.nodup_cons] at hn
    unfold lookK
    rw [List.find?_cons]
    rcases List.mem_cons.1 hp with rfl | hp
    · simp
    · have : (p.1 == q.1) = false := by
        rw [Bool.eq_false_iff]
        intro hb
        exact hn.1 (eq_of_beq hb ▸ List.mem_map_of_mem hp)
      rw [this]
      exact ih hn.2 hp

/-- entries with these keys and values -/
structure EntsK (enc : κ → Value) (kvs : List (κ × Value)) (es : List MapEntry) (clock : Nat) : Prop where
  eq : es.map (fun e => (e.key, e.val)) = kvs.map fun p => (enc p.1, p.2)
  old : ∀ e ∈ es, e.born < clock
  one : (es.map (·.born)).Nodup
def mapK (r : Nat) (enc : κ → Value) (kvs : List (κ × Value)) : HProp := ex fun x : { x : List MapEntry × Nat // EntsK enc kvs x.1 x.2 } => [pt r (.map x.1.1.toArray x.1.2)]

theorem findK {kd : TypeDesc} (hK : KeyK kd enc) (n : κ) : ∀ (kvs : List (κ × Value)) (es : List MapEntry) (i : Nat), es.map (fun e => (e.key, e.val)) = kvs.map (fun p => (enc p.1, p.2)) →
    (lookK kvs n = none ∧ Instr.findNow kd (enc n) es i = some none ∧ ∀ v, setK kvs n v = kvs ++ [(n, v)]) ∨
    (∃ j v, lookK kvs n = some v ∧ Instr.findNow kd (enc n) es i = some (some (i + j, v)) ∧ (es[j]?).map (·.key) = some (enc n) ∧ ∀ v', (es.modify j fun e => { e with key := enc n, val := v' }).map (fun e => (e.key, e.val)) = (setK kvs n v').map fun p => (enc p.1, p.2))
  | [], es, i, h => by
    have : es = [] := by simpa using h
    subst this
    exact .inl ⟨rfl, rfl, fun _ => rfl⟩
  | p :: t, [], i, h => by simp at h
  | p :: t, e :: es, i, h => by
    simp only [List.map_cons, List.cons.injEq, Prod.mk.injEq] at h
    have hs : Instr.sameNow kd (enc n) e.key = some (n == p.1) := by rw [h.1.1]; exact hK.same n p.1
    cases hn : n == p.1 with
    | true =>
      have e1 : n = p.1 := eq_of_beq hn
      refine .inr ⟨0, p.2, ?_, ?_, ?_, ?_⟩
      · simp [lookK, hn]
      · unfold Instr.findNow
        rw [hs, hn]
        simp [h.1.2]
      · simp [h.1.1, e1]
      · intro v'
        unfold setK
        rw [hn]
        simp [h.2]
    | false =>
      have ih := findK hK n t es (i + 1) h.2
      have hl : lookK (p :: t) n = lookK t n := by simp [lookK, hn]
      have hf : Instr.findNow kd (enc n) (e :: es) i = Instr.findNow kd (enc n) es (i + 1) := by
        conv => lhs; unfold Instr.findNow
        rw [hs, hn]
      have hset : ∀ v, setK (p :: t) n v = p :: setK t n v := fun v => by
        conv => lhs; unfold setK
        rw [hn]
        simp
      rcases ih with ⟨a1, a2, a3⟩ | ⟨j, v, a1, a2, a3, a4⟩
      · exact .inl ⟨hl.trans a1, hf.trans a2, fun v => by rw [hset, a3]; rfl⟩
      · refine .inr ⟨j + 1, v, hl.trans a1, ?_, by simpa using a3, fun v' => ?_⟩
        · rw [hf, a2]
          congr 3
          omega
        · rw [hset]
          simp only [List.modify_succ_cons, List.map_cons, a4 v', h.1]

omit [BEq κ] [LawfulBEq κ] in
/-- an empty map is made -/
theorem wpl_makeK (enc : κ → Value) (hE : Ent l w) {t : TypeId} (ho : o.op = .makeMap t none) (hw : Region.wanted o (yielded ops a.tmps) = true)
    (h : ∀ r w', Ent (mapK r enc [] :: l) w' → wpList P ops Q rest (a.put o.dst (.map (some r))) w') : wpList P ops Q (o :: rest) a w :=
  wpl_makeMap hE ho hw fun r w' hE' => h r w' (Ent.pack ⟨([], 0), rfl, fun _ h => by simp at h, by simp⟩ hE')

omit [BEq κ] [LawfulBEq κ] in
theorem put_new {kvs : List (κ × Value)} {es : List MapEntry} {c : Nat} {n : κ} {v : Value} (he : EntsK enc kvs es c) : EntsK enc (kvs ++ [(n, v)]) (es ++ [mEnt (enc n) v c]) (c + 1) := by
  refine ⟨by simp [he.eq], fun e hm => ?_, ?_⟩
  · rcases List.mem_append.1 hm with hm | hm
    · have := he.old e hm; omega
    · rw [List.mem_singleton.1 hm]; exact Nat.lt_succ_self c
  · rw [List.map_append, List.nodup_append]
    refine ⟨he.one, by simp, fun x hx y hy => ?_⟩
    obtain ⟨e, hm, rfl⟩ := List.mem_map.1 hx
    have := he.old e hm
    simp only [List.map_cons, List.map_nil, List.mem_singleton] at hy
    omega
theorem modify_born {es : List MapEntry} {j : Nat} {k v : Value} : (es.modify j fun e => { e with key := k, val := v }).map (·.born) = es.map (·.born) := by
  induction es generalizing j with
  | nil => simp
  | cons e es ih =>
    cases j with
    | zero => simp
    | succ j => simp [ih]
omit [BEq κ] [LawfulBEq κ] in
theorem put_old {kvs kvs' : List (κ × Value)} {es : List MapEntry} {c j : Nat} {n : κ} {v : Value} (he : EntsK enc kvs es c) (h : (es.modify j fun e => { e with key := enc n, val := v }).map (fun e => (e.key, e.val)) = kvs'.map fun p => (enc p.1, p.2)) :
    EntsK enc kvs' (es.modify j fun e => { e with key := enc n, val := v }) c := by
  refine ⟨h, fun e hm => ?_, by rw [modify_born]; exact he.one⟩
  have h1 : e.born ∈ (es.modify j fun e => { e with key := enc n, val := v }).map (·.born) := List.mem_map_of_mem hm
  rw [modify_born] at h1
  obtain ⟨e', hm', hb⟩ := List.mem_map.1 h1
  rw [← hb]
  exact he.old e' hm'

/-- what an assignment into a map does -/
theorem run_updK {kd : TypeDesc} (hK : KeyK kd enc) {kvs : List (κ × Value)} {r : Nat} {es : List MapEntry} {c : Nat} (he : EntsK enc kvs es c) (hb : w.heap[r]? = some (.map es.toArray c)) {t kt et : TypeId} (ht : P.underlying t = some (.map kt et)) (hk : P.underlying kt = some kd) (n : κ) (v : Value) :
    ∃ es' c', EntsK enc (setK kvs n v) es' c' ∧ (Instr.mapUpdate t (.map (some r)) (enc n) v).run P w = .ok () { w with heap := w.heap.setIfInBounds r (.map es'.toArray c') } := by
  have hg := MapKept.run_getObj_map (P := P) hb
  have hc := hK.check (P := P) hk false 9999 n w
  rcases findK hK n kvs es 0 he.eq with ⟨h1, h2, h3⟩ | ⟨j, v0, h1, h2, h3, h4⟩
  · have hf : (Instr.findKey kt (enc n) es).run P w = .ok none w := by
      unfold Instr.findKey
      simp [run_underlying hk, h2]
    refine ⟨es ++ [mEnt (enc n) v c], c + 1, by rw [h3]; exact put_new he, ?_⟩
    have hs := MapKept.run_setObj_map (P := P) (.map (es.toArray.push (mEnt (enc n) v c)) (c + 1)) hb
    have e : es.toArray.push (mEnt (enc n) v c) = (es ++ [mEnt (enc n) v c]).toArray := by simp
    rw [e] at hs
    simp [Instr.mapUpdate, run_underlying ht, hg, hc, hf, e, hs]
  · have hf : (Instr.findKey kt (enc n) es).run P w = .ok (some (j, v0)) w := by
      unfold Instr.findKey
      simp [run_underlying hk, h2]
    refine ⟨es.modify j fun e => { e with key := enc n, val := v }, c, put_old he (h4 v), ?_⟩
    have hs := MapKept.run_setObj_map (P := P) (.map ((es.modify j fun e => { e with key := enc n, val := v }).toArray) c) hb
    have hkey : ((es.toArray[j]?).map (·.key)).getD (enc n) = enc n := by
      rw [List.getElem?_toArray, h3]; rfl
    have hst : (Instr.keyThatStays (enc n) (enc n)).run P w = .ok (enc n) w := by
      unfold Instr.keyThatStays
      rw [if_pos (hK.bits n)]
      simp
    simp only [Instr.mapUpdate, Sem.run_bind, run_underlying ht, Result.andThen_ok, hg, hc, List.toList_toArray, hf, hkey, hst, List.modify_toArray]
    exact hs

/-- an entry is put, by an assignment -/
theorem wpl_updK {kd : TypeDesc} (hK : KeyK kd enc) (hE : Ent l w) (i : Nat) {r : Nat} {kvs : List (κ × Value)} (hi : l[i]? = some (mapK r enc kvs))
    {t kt et : TypeId} {x y z : Operand} (ho : o.op = .mapUpdate t x y z) (hw : Region.wanted o (yielded ops a.tmps) = true) (hx : a.eval x = .map (some r)) {n : κ} (hy : a.eval y = enc n) {v : Value} (hz : a.eval z = v)
    (ht : P.underlying t = some (.map kt et)) (hk : P.underlying kt = some kd)
    (h : ∀ w', Ent (l.set i (mapK r enc (setK kvs n v))) w' → wpList P ops Q rest (a.put o.dst undef) w') : wpList P ops Q (o :: rest) a w := by
  obtain ⟨⟨⟨es, c⟩, he⟩, hE1⟩ := Ent.unpack (hE.front i hi)
  obtain ⟨es', c', he', hr⟩ := run_updK (P := P) hK he (hE1.at 0 rfl) ht hk n v
  refine wpl_run_skip hw (w' := { w with heap := w.heap.setIfInBounds r (.map es'.toArray c') }) (by simp [execOp, ho, hx, hy, hz, hr]) (h _ ?_)
  refine Ent.put ?_ (List.getElem?_eq_some_iff.1 hi).1
  exact Ent.pack ⟨(es', c'), he'⟩ (hE1.setMap 0 rfl)

theorem run_lookK {kd : TypeDesc} (hK : KeyK kd enc) {kvs : List (κ × Value)} {r : Nat} {es : List MapEntry} {c : Nat} (he : EntsK enc kvs es c) (hb : w.heap[r]? = some (.map es.toArray c)) {t kt et : TypeId} (ht : P.underlying t = some (.map kt et)) (hk : P.underlying kt = some kd) (n : κ) {z : Value} (hz : ∀ w, (zeroValue et).run P w = .ok z w) (ok : Bool) :
    (Instr.lookup t (.map (some r)) (enc n) ok).run P w = .ok (if ok then .tuple #[(lookK kvs n).getD z, .bool (lookK kvs n).isSome] else (lookK kvs n).getD z) w := by
  have hg := MapKept.run_getObj_map (P := P) hb
  have hc : ∀ e, (Instr.checkKey e (9999 + 1) kt (enc n)).run P w = .ok () w := fun e => hK.check hk e 9999 n w
  rcases findK hK n kvs es 0 he.eq with ⟨h1, h2, h3⟩ | ⟨j, v0, h1, h2, h3, h4⟩
  · have hf : (Instr.findKey kt (enc n) es).run P w = .ok none w := by
      unfold Instr.findKey
      simp [run_underlying hk, h2]
    rw [h1]
    cases ok <;> simp [Instr.lookup, run_underlying ht, hg, hc, hf, hz]
  · have hf : (Instr.findKey kt (enc n) es).run P w = .ok (some (0 + j, v0)) w := by
      unfold Instr.findKey
      simp [run_underlying hk, h2]
    rw [h1]
    cases ok <;> simp [Instr.lookup, run_underlying ht, hg, hc, hf]

/-- a key is looked up -/
theorem wpl_lookK {kd : TypeDesc} (hK : KeyK kd enc) (hE : Ent l w) (i : Nat) {r : Nat} {kvs : List (κ × Value)} (hi : l[i]? = some (mapK r enc kvs))
    {t kt et : TypeId} {x y : Operand} (ho : o.op = .lookup t x y false) (hw : Region.wanted o (yielded ops a.tmps) = true) (hx : a.eval x = .map (some r)) {n : κ} (hy : a.eval y = enc n)
    (ht : P.underlying t = some (.map kt et)) (hk : P.underlying kt = some kd) {z : Value} (hz : ∀ w, (zeroValue et).run P w = .ok z w)
    (h : wpList P ops Q rest (a.put o.dst ((lookK kvs n).getD z)) w) : wpList P ops Q (o :: rest) a w := by
  obtain ⟨⟨⟨es, c⟩, he⟩, hE1⟩ := Ent.unpack (hE.front i hi)
  have hr := run_lookK (P := P) hK he (hE1.at 0 rfl) ht hk n hz false
  exact wpl_run hw (w' := w) (v := (lookK kvs n).getD z) (by simp [execOp, ho, hx, hy, hr]) h
/-- a key is looked up, and whether it is there -/
theorem wpl_lookK2 {kd : TypeDesc} (hK : KeyK kd enc) (hE : Ent l w) (i : Nat) {r : Nat} {kvs : List (κ × Value)} (hi : l[i]? = some (mapK r enc kvs))
    {t kt et : TypeId} {x y : Operand} (ho : o.op = .lookup t x y true) (hw : Region.wanted o (yielded ops a.tmps) = true) (hx : a.eval x = .map (some r)) {n : κ} (hy : a.eval y = enc n)
    (ht : P.underlying t = some (.map kt et)) (hk : P.underlying kt = some kd) {z : Value} (hz : ∀ w, (zeroValue et).run P w = .ok z w)
    (h : wpList P ops Q rest (a.put o.dst (.tuple #[(lookK kvs n).getD z, .bool (lookK kvs n).isSome])) w) : wpList P ops Q (o :: rest) a w := by
  obtain ⟨⟨⟨es, c⟩, he⟩, hE1⟩ := Ent.unpack (hE.front i hi)
  have hr := run_lookK (P := P) hK he (hE1.at 0 rfl) ht hk n hz true
  exact wpl_run hw (w' := w) (v := .tuple #[(lookK kvs n).getD z, .bool (lookK kvs n).isSome]) (by simp [execOp, ho, hx, hy, hr]) h
omit [BEq κ] [LawfulBEq κ] in
/-- how many entries -/
theorem wpl_lenK (hE : Ent l w) (i : Nat) {r : Nat} {kvs : List (κ × Value)} (hi : l[i]? = some (mapK r enc kvs))
    {t kt et : TypeId} {x : Operand} (ho : o.op = .call { callee := .builtin .len, args := #[x], argTypes := #[t] }) (hw : Region.wanted o (yielded ops a.tmps) = true) (hx : a.eval x = .map (some r))
    (ht : P.underlying t = some (.map kt et)) (h : wpList P ops Q rest (a.put o.dst (.int .i64 (kvs.length : Nat))) w) : wpList P ops Q (o :: rest) a w := by
  obtain ⟨⟨⟨es, c⟩, he⟩, hE1⟩ := Ent.unpack (hE.front i hi)
  have hg := MapKept.run_getObj_map (P := P) (hE1.at 0 rfl)
  have hl : es.length = kvs.length := by
    have := congrArg List.length he.eq
    simpa using this
  refine wpl_run hw (w' := w) (v := .int .i64 (kvs.length : Nat)) ?_ h
  simp [execOp, ho, resolve, invoke, builtin, Builtin.len_, hx, run_underlying ht, hg, hl, goInt]

/-- a map that is ranged over: what is still to come, and the entry that came last -/
structure ItOk (enc : κ → Value) (kvs left : List (κ × Value)) (cur : Option (κ × Value)) (es : List MapEntry) (clock since : Nat) (seen : Array Nat) (c0 : Nat) : Prop where
  ents : EntsK enc kvs es clock
  hold : ∀ e ∈ es, e.born < since
  sc : since ≤ c0
  sk : since ≤ clock
  left : (es.filter fun e => !seen.contains e.born).map (fun e => (e.key, e.val)) = left.map fun p => (enc p.1, p.2)
  now : ∀ p, cur = some p → c0 = clock ∧ ∃ e ∈ es, ∃ s : Array Nat, seen = s.push e.born ∧ e.key = enc p.1 ∧ e.val = p.2
def itK (r it : Nat) (enc : κ → Value) (kvs left : List (κ × Value)) (cur : Option (κ × Value)) : HProp :=
  ex fun x : { x : List MapEntry × Nat × Nat × Array Nat × Nat // ItOk enc kvs left cur x.1 x.2.1 x.2.2.1 x.2.2.2.1 x.2.2.2.2 } => [pt r (.map x.1.1.toArray x.1.2.1), pt it (.mapIter (some r) x.1.2.2.1 x.1.2.2.2.1 x.1.2.2.2.2)]

omit [BEq κ] [LawfulBEq κ] in
/-- a range over a map begins -/
theorem wpl_rangeK (hE : Ent l w) (i : Nat) {r : Nat} {kvs : List (κ × Value)} (hi : l[i]? = some (mapK r enc kvs))
    {t kt et : TypeId} {x : Operand} (ho : o.op = .range t x) (hw : Region.wanted o (yielded ops a.tmps) = true) (hx : a.eval x = .map (some r)) (ht : P.underlying t = some (.map kt et))
    (h : ∀ it w', Ent (l.set i (itK r it enc kvs kvs none)) w' → wpList P ops Q rest (a.put o.dst (.pointer (some ⟨it, 0, none⟩))) w') : wpList P ops Q (o :: rest) a w := by
  obtain ⟨⟨⟨es, c⟩, he⟩, hE1⟩ := Ent.unpack (hE.front i hi)
  have hg := MapKept.run_getObj_map (P := P) (hE1.at 0 rfl)
  refine wpl_run hw (w' := w.alloc (.mapIter (some r) c #[] c)) (v := .pointer (some ⟨w.heap.size, 0, none⟩)) ?_ (h w.heap.size _ ?_)
  · simp [execOp, ho, hx, Instr.range, run_underlying ht, hg, newObj, Sem.run]
  · refine Ent.put ?_ (List.getElem?_eq_some_iff.1 hi).1
    have hA := hE1.alloc (.mapIter (some r) c #[] c)
    have hA2 := hA.perm (List.Perm.swap _ _ _)
    exact Ent.pack (f := fun x : { x : List MapEntry × Nat × Nat × Array Nat × Nat // ItOk enc kvs kvs none x.1 x.2.1 x.2.2.1 x.2.2.2.1 x.2.2.2.2 } => [pt r (.map x.1.1.toArray x.1.2.1), pt w.heap.size (.mapIter (some r) x.1.2.2.1 x.1.2.2.2.1 x.1.2.2.2.2)]) ⟨(es, c, c, #[], c), he, he.old, Nat.le_refl _, Nat.le_refl _, by rw [List.filter_eq_self.2 (fun x _ => by simp)]; exact he.eq, fun p hp => by cases hp⟩ hA2
omit [BEq κ] [LawfulBEq κ] in
/-- the range is over (or left) -/
theorem Ent.ranged {r it : Nat} {kvs left : List (κ × Value)} {cur : Option (κ × Value)} (hE : Ent l w) (i : Nat) (hi : l[i]? = some (itK r it enc kvs left cur)) : Ent (l.set i (mapK r enc kvs)) w := by
  obtain ⟨⟨⟨es, c, s, seen, c0⟩, he⟩, hE1⟩ := Ent.unpack (hE.front i hi)
  refine Ent.put ?_ (List.getElem?_eq_some_iff.1 hi).1
  have h2 := hE1.perm (List.Perm.swap _ _ _)
  exact Ent.pack ⟨(es, c), he.ents⟩ h2.tail
theorem filter_push {es : List MapEntry} (h1 : (es.map (·.born)).Nodup) {seen : Array Nat} {A B : List MapEntry} {e : MapEntry} (h : (es.filter fun e => !seen.contains e.born) = A ++ e :: B) : (es.filter fun x => !(seen.push e.born).contains x.born) = A ++ B := by
  have h2 : (es.filter fun x => !(seen.push e.born).contains x.born) = (es.filter fun e => !seen.contains e.born).filter fun x => !(x.born == e.born) := by
    rw [List.filter_filter]
    apply List.filter_congr
    intro x _
    have e1 : (seen.push e.born).contains x.born = (seen.contains x.born || x.born == e.born) := by
      rw [Bool.eq_iff_iff, Bool.or_eq_true, Array.contains_iff_mem, Array.contains_iff_mem, Array.mem_push, beq_iff_eq]
    rw [e1, Bool.not_or, Bool.and_comm]
  have hn : ((A ++ e :: B).map (·.born)).Nodup := by
    rw [← h]
    exact List.Nodup.sublist (List.Sublist.map _ List.filter_sublist) h1
  rw [h2, h, List.filter_append, List.filter_cons]
  rw [List.map_append, List.map_cons, List.nodup_append, List.nodup_cons] at hn
  have hA : A.filter (fun x => !(x.born == e.born)) = A := List.filter_eq_self.2 fun x hx => by
    have := hn.2.2 x.born (List.mem_map_of_mem hx) e.born (List.mem_cons_self ..)
    simpa using this
  have hB : B.filter (fun x => !(x.born == e.born)) = B := List.filter_eq_self.2 fun x hx => by
    have : x.born ≠ e.born := fun hh => hn.2.1.1 (hh ▸ List.mem_map_of_mem hx)
    simpa using this
  rw [hA, hB]
  simp
omit [BEq κ] [LawfulBEq κ] in
/-- the next entry, whichever it is, or none -/
theorem wpl_nextK (hE : Ent l w) (i : Nat) {r it : Nat} {kvs left : List (κ × Value)} {cur : Option (κ × Value)} (hi : l[i]? = some (itK r it enc kvs left cur))
    {x : Operand} (ho : o.op = .next x false) (hw : Region.wanted o (yielded ops a.tmps) = true) (hx : a.eval x = .pointer (some ⟨it, 0, none⟩))
    (hDone : left = [] → wpList P ops Q rest (a.put o.dst (.tuple #[.bool false])) w)
    (hMore : ∀ A p B w', left = A ++ p :: B → Ent (l.set i (itK r it enc kvs (A ++ B) (some p))) w' → wpList P ops Q rest (a.put o.dst (.tuple #[.bool true, enc p.1, p.2])) w') : wpList P ops Q (o :: rest) a w := by
  obtain ⟨⟨⟨es, c, s, seen, c0⟩, he⟩, hE1⟩ := Ent.unpack (hE.front i hi)
  simp only [List.cons_append, List.nil_append] at hE1
  have hb := hE1.at 0 rfl
  have hr := hE1.at 1 rfl
  have hlf : (leftOf es.toArray seen).toList = es.filter fun e => !seen.contains e.born := by simp [leftOf]
  rcases run_next_at (P := P) w o.type it r s c0 seen es.toArray c hr hb (by simpa using he.hold) he.sc with ⟨h0, hrun⟩ | ⟨e, hm, w1, hw1, hrun⟩
  · refine wpl_run hw (w' := w) (v := .tuple #[.bool false]) (by simp [execOp, ho, hx, hrun]) (hDone ?_)
    have h1 := he.left
    have h2 : es.filter (fun e => !seen.contains e.born) = [] := by rw [← hlf]; exact List.eq_nil_of_length_eq_zero (by simpa using h0)
    dsimp only at h1
    rw [h2] at h1
    simpa using h1.symm
  · rw [hlf] at hm
    obtain ⟨A, B, hAB⟩ := List.append_of_mem hm
    have h1 := he.left
    rw [hAB, List.map_append, List.map_cons] at h1
    obtain ⟨A', B', hl, hA', hB'⟩ := List.append_eq_map_iff.1 h1
    cases B' with
    | nil => simp at hB'
    | cons p B' =>
      simp only [List.map_cons, List.cons.injEq, Prod.mk.injEq] at hB'
      have hme : e ∈ es := (List.mem_filter.1 hm).1
      refine wpl_run hw (w' := ChangeMaps.setBlock w1 it (.mapIter (some r) s (seen.push e.born) c)) (v := .tuple #[.bool true, enc p.1, p.2]) (by simp [execOp, ho, hx, hrun, hB'.1.1, hB'.1.2]) (hMore A' p B' _ hl ?_)
      refine Ent.put ?_ (List.getElem?_eq_some_iff.1 hi).1
      have hE2 : Ent (pt r (.map es.toArray c) :: pt it (.mapIter (some r) s seen c0) :: l.eraseIdx i) w1 := by
        rcases hw1 with rfl | rfl
        · exact hE1
        · exact hE1.drew
      have hE3 := hE2.setMap 1 (r := it) (ob' := .mapIter (some r) s (seen.push e.born) c) rfl
      refine Ent.pack (f := fun x : { x : List MapEntry × Nat × Nat × Array Nat × Nat // ItOk enc kvs (A' ++ B') (some p) x.1 x.2.1 x.2.2.1 x.2.2.2.1 x.2.2.2.2 } => [pt r (.map x.1.1.toArray x.1.2.1), pt it (.mapIter (some r) x.1.2.2.1 x.1.2.2.2.1 x.1.2.2.2.2)]) ⟨(es, c, s, seen.push e.born, c), he.ents, he.hold, he.sk, he.sk, ?_, ?_⟩ hE3
      · rw [filter_push he.ents.one hAB, List.map_append, List.map_append, hA', hB'.2]
      · rintro q hq
        cases hq
        exact ⟨rfl, e, hme, seen, rfl, hB'.1.1.symm, hB'.1.2.symm⟩
omit [BEq κ] [LawfulBEq κ] in
/-- the entry that came, read in the round -/
theorem run_entryK (hE : Ent l w) (i : Nat) {r it : Nat} {kvs left : List (κ × Value)} {p : κ × Value} (hi : l[i]? = some (itK r it enc kvs left (some p))) : (Instr.entry (.pointer (some ⟨it, 0, none⟩))).run P w = .ok (.tuple #[enc p.1, p.2]) w := by
  obtain ⟨⟨⟨es, c, s, seen, c0⟩, he⟩, hE1⟩ := Ent.unpack (hE.front i hi)
  simp only [List.cons_append, List.nil_append] at hE1
  dsimp only at he
  obtain ⟨rfl, e, hme, s', rfl, hk, hv⟩ := he.now p rfl
  have h := run_entry_at (P := P) w it r s s' es.toArray c0 e (hE1.at 1 rfl) (hE1.at 0 rfl) (by simpa using hme) (by simpa using he.ents.one)
  rw [hk, hv] at h
  exact h
/-- how many are still to come -/
def leftN (r it : Nat) (w : World) : Nat := match w.heap[r]?, w.heap[it]? with
  | some (.map es _), some (.mapIter _ _ seen _) => (es.toList.filter fun e => !seen.contains e.born).length
  | _, _ => 0
omit [BEq κ] [LawfulBEq κ] in
theorem leftN_eq {r it : Nat} {kvs left : List (κ × Value)} {cur : Option (κ × Value)} (hE : Ent l w) (i : Nat) (hi : l[i]? = some (itK r it enc kvs left cur)) : leftN r it w = left.length := by
  obtain ⟨⟨⟨es, c, s, seen, c0⟩, he⟩, hE1⟩ := Ent.unpack (hE.front i hi)
  simp only [List.cons_append, List.nil_append] at hE1
  have h := congrArg List.length he.left
  rw [List.length_map, List.length_map] at h
  unfold leftN
  rw [hE1.at 0 rfl, hE1.at 1 rfl]
  exact h
/-- an entry is put, in a short form: the map's place in the list is found by the lemma's own tactic -/
theorem upX {kd : TypeDesc} (hK : KeyK kd enc) (hE : Ent l w) {r : Nat} {kvs : List (κ × Value)} {t kt et : TypeId} {x y z : Operand} {n : κ} {v : Value} {l' : List HProp}
    (ht : P.underlying t = some (.map kt et)) (hk : P.underlying kt = some kd)
    (h : ∀ w', Ent l' w' → wpList P ops Q rest (a.put o.dst undef) w')
    (ho : o.op = .mapUpdate t x y z := by with_reducible rfl) (hw : Region.wanted o (yielded ops a.tmps) = true := by rfl)
    (hx : a.eval x = .map (some r) := by rfl) (hy : a.eval y = enc n := by rfl) (hz : a.eval z = v := by rfl)
    (hu : Upd (mapK r enc kvs) (mapK r enc (setK kvs n v)) l l' := by ((repeat (first | with_reducible exact Upd.z | apply Upd.s)); first | done | fail)) : wpList P ops Q (o :: rest) a w := by
  obtain ⟨i, hi, rfl⟩ := hu.at
  exact wpl_updK hK hE i hi ho hw hx hy hz ht hk h
/-- a key is looked up -/
theorem lkX {kd : TypeDesc} (hK : KeyK kd enc) (hE : Ent l w) {r : Nat} {kvs : List (κ × Value)} {t kt et : TypeId} {x y : Operand} {n : κ} {z v : Value}
    (ht : P.underlying t = some (.map kt et)) (hk : P.underlying kt = some kd) (hz : ∀ w, (zeroValue et).run P w = .ok z w)
    (hv : (lookK kvs n).getD z = v)
    (h : wpList P ops Q rest (a.put o.dst v) w)
    (ho : o.op = .lookup t x y false := by with_reducible rfl) (hw : Region.wanted o (yielded ops a.tmps) = true := by rfl)
    (hx : a.eval x = .map (some r) := by rfl) (hy : a.eval y = enc n := by rfl)
    (hm : List.Mem (mapK r enc kvs) l := by ((repeat (first | with_reducible exact List.Mem.head _ | refine List.Mem.tail _ ?_)); first | done | fail)) : wpList P ops Q (o :: rest) a w := by
  obtain ⟨i, hi⟩ := List.getElem?_of_mem hm
  subst hv
  exact wpl_lookK hK hE i hi ho hw hx hy ht hk hz h
/-- an entry put, as one step of a region that draws -/
theorem step_updK {K : Act → World → Prop} {E : Prop} {kd : TypeDesc} (hK : KeyK kd enc) (hE : Ent l w) {r : Nat} {kvs : List (κ × Value)} {t kt et : TypeId} {x y z : Operand} {n : κ} {v : Value} {l' : List HProp}
    (ht : P.underlying t = some (.map kt et)) (hk : P.underlying kt = some kd)
    (h : ∀ w', Ent l' w' → K (a.put o.dst undef) w')
    (ho : o.op = .mapUpdate t x y z := by with_reducible rfl) (hw : Region.wanted o (yielded ops a.tmps) = true := by rfl)
    (hx : a.eval x = .map (some r) := by rfl) (hy : a.eval y = enc n := by rfl) (hz : a.eval z = v := by rfl)
    (hu : Upd (mapK r enc kvs) (mapK r enc (setK kvs n v)) l l' := by ((repeat (first | with_reducible exact Upd.z | apply Upd.s)); first | done | fail)) : if Region.wanted o (yielded ops a.tmps) = true then Oper.wp P o a w K Q else E := by
  rw [if_pos hw]
  obtain ⟨i, hi, rfl⟩ := hu.at
  obtain ⟨⟨⟨es, c⟩, he⟩, hE1⟩ := Ent.unpack (hE.front i hi)
  obtain ⟨es', c', he', hr⟩ := run_updK (P := P) hK he (hE1.at 0 rfl) ht hk n v
  have hr2 : (execOp a.eval o).run P w = .ok .skip { w with heap := w.heap.setIfInBounds r (.map es'.toArray c') } := by simp [execOp, ho, hx, hy, hz, hr]
  simp only [Oper.wp, hr2, Oper.upon]
  refine h _ (Ent.put ?_ (List.getElem?_eq_some_iff.1 hi).1)
  exact Ent.pack ⟨(es', c'), he'⟩ (hE1.setMap 0 rfl)
end
attribute [irreducible] mapK itK
end Go.SL
namespace Go.Proofs.YtjdignaddfhohaaDoor
open Go.RowKit Go.SL

theorem eqEn (x : En) (w : World) : (Op.equalIn 10000 51 (.agg #[.string ⟨x.path.toArray⟩, .bool x.dir, .string ⟨x.data.toArray⟩]) (.agg #[.string ⟨x.path.toArray⟩, .bool x.dir, .string ⟨x.data.toArray⟩])).run Tryd.prog w = .ok true w := by
  have h := run_equalIn_agg (P := Tryd.prog) (w := w) 9999 51 #[.string ⟨x.path.toArray⟩, .bool x.dir, .string ⟨x.data.toArray⟩] #[.string ⟨x.path.toArray⟩, .bool x.dir, .string ⟨x.data.toArray⟩] (by kernel_rfl) (by kernel_rfl)
  refine h.trans ?_
  simp [go_sem]
/-- an entry of a row, read whole and in part -/
theorem load_en {b off c : Nat} {xs : List En} {w : World} (hr : reads (.slice (some ⟨b, off, none⟩) xs.length c) xs.length (xs.flatMap enC) w) {k : Nat} (hk : k < xs.length) :
    (Instr.loadAt 51 (.pointer (some ⟨b, off + k * 3, none⟩))).run Tryd.prog w = .ok (.agg #[.string ⟨xs[k].path.toArray⟩, .bool xs[k].dir, .string ⟨xs[k].data.toArray⟩]) w ∧
    (Instr.loadAt 9 (.pointer (some ⟨b, off + k * 3, none⟩))).run Tryd.prog w = .ok (.string ⟨xs[k].path.toArray⟩) w ∧
    (Instr.loadAt 4 (.pointer (some ⟨b, off + k * 3 + 1, none⟩))).run Tryd.prog w = .ok (.bool xs[k].dir) w ∧
    (Instr.loadAt 9 (.pointer (some ⟨b, off + k * 3 + 2, none⟩))).run Tryd.prog w = .ok (.string ⟨xs[k].data.toArray⟩) w := by
  obtain ⟨b', off', e, h⟩ := en_at hr hk
  cases e
  exact ⟨atCells Tryd.isAgg51 Tryd.sizeOf51 (enC xs[k]) rfl (fun j v hv => by rw [Addr.add_lit]; exact h j v hv), atCell (h 0 _ rfl) (by simp [go_sem]), atCell (h 1 _ rfl) (by simp [go_sem]), atCell (h 2 _ rfl) (by simp [go_sem])⟩
def GrRel (es : List En) (l : List HProp) (i : Value) (wr : World) : Prop :=
  ∃ k : Nat, k ≤ es.length ∧ i = .int .i64 k ∧ (∀ x ∈ es.take k, x.path.length ≤ 200 ∧ x.data.length ≤ 9000) ∧ Ent l wr
/-- is a row of entries too great for the law? -/
def great (es : List En) : Bool := decide (100 < es.length) || es.any fun x => decide (200 < x.path.length) || decide (9000 < x.data.length)
theorem great_not {es : List En} : great es = false ↔ es.length ≤ 100 ∧ ∀ x ∈ es, x.path.length ≤ 200 ∧ x.data.length ≤ 9000 := by
  simp only [great, Bool.or_eq_false_iff, decide_eq_false_iff_not, List.any_eq_false, Nat.not_lt, Bool.not_eq_true]
def GrPost (es : List En) (l : List HProp) (v : Value) (w' : World) : Prop := v = .bool (great es) ∧ Ent l w'
theorem GrPost.mk {es : List En} {l : List HProp} {w' : World} (b : Bool) (h : Ent l w') (h2 : great es = b) : GrPost es l (.bool b) w' := ⟨by rw [h2], h⟩
set_option maxRecDepth 100000 in
set_option maxHeartbeats 2000000 in
attribute [-go_sem] Instr.loadAt in
theorem Great_any {es : List En} {ao : Option Addr} {c : Nat} {l : List HProp} {w : World} (hk : Knows l (reads (.slice ao es.length c) es.length (es.flatMap enC))) (hE : Ent l w) :
    Calls Tryd.prog 18 #[.slice ao es.length c] w (Ret (GrPost es l)) := by
  cases h100 : decide ((100 : Int) < (es.length : Int)) with
  | true =>
    go_enter Tryd.func18, Tryd.ntmps18
    go_wp2
    refine bodyPost_ret (results_tmp rfl _ _ _) rfl ?_
    exact ⟨_, rfl, .mk true hE (by have := of_decide_eq_true h100; rw [great, decide_eq_true (by omega)]; rfl)⟩
  | false =>
    have hle : es.length ≤ 100 := by have := of_decide_eq_false h100; omega
    have Hle := SL.hid hle
    go_enter Tryd.func18, Tryd.ntmps18
    go_wp2
    clear h100
    go_loopw [3] (fun i wr => GrRel es l i wr) (fun i _ => es.length - (intOf i).toNat)
    case atStart => exact ⟨0, Nat.zero_le _, rfl, by simp, hE⟩
    case round =>
      clear hE
      obtain ⟨k, hkn, rfl, hin, hE⟩ := hrel
      have Hin := SL.hid hin
      clear hin
      by_cases hlt : k < es.length
      · obtain ⟨b, off, rfl, hz⟩ := en_at (hk _ hE) hlt
        clear hz
        have htk := SL.hid (List.take_succ_eq_append_getElem hlt)
        obtain ⟨hl0, hl1, hl2, hl3⟩ := load_en (hk _ hE) hlt
        clear hl0 hl2
        have Hmem := SL.hid (List.getElem_mem hlt)
        generalize es[k] = x at *
        obtain ⟨xp, xd, xb⟩ := x
        cases hp : decide ((200 : Int) < (xp.length : Int)) with
        | true =>
          go_wp2
          refine bodyPost_ret (results_tmp rfl _ _ _) rfl ?_
          exact ⟨_, rfl, .mk true hE (eq_true_of_ne_false fun h => by have := (great_not.1 h).2 _ Hmem.out; have := of_decide_eq_true hp; simp only at *; omega)⟩
        | false =>
          cases hd : decide ((9000 : Int) < (xb.length : Int)) with
          | true =>
            go_wp2
            refine bodyPost_ret (results_tmp rfl _ _ _) rfl ?_
            exact ⟨_, rfl, .mk true hE (eq_true_of_ne_false fun h => by have := (great_not.1 h).2 _ Hmem.out; have := of_decide_eq_true hd; simp only at *; omega)⟩
          | false =>
            go_wp2
            go_roundw
            case rel =>
              refine ⟨k + 1, hlt, by simp, ?_, hE⟩
              rw [htk.out]
              intro y hy
              rcases List.mem_append.1 hy with h | h
              · exact Hin.out y h
              · rw [List.mem_singleton.1 h]
                have := of_decide_eq_false hp
                have := of_decide_eq_false hd
                exact ⟨by simp only; omega, by simp only; omega⟩
            case measure => simp [intOf]; omega
      · obtain rfl : k = es.length := by omega
        go_wp2
        refine bodyPost_ret (results_tmp rfl _ _ _) rfl ?_
        exact ⟨_, rfl, .mk false hE (great_not.2 ⟨Hle.out, by have := Hin.out; rwa [List.take_length] at this⟩)⟩
set_option maxRecDepth 100000 in
set_option maxHeartbeats 2000000 in
attribute [-go_sem] Instr.loadAt Go.run_equalIn_agg in
theorem Row_same {es : List En} (hn : es.length ≤ 1000000) {ao bo : Option Addr} {c d : Nat} {l : List HProp} {w : World} (hk : Knows l (reads (.slice ao es.length c) es.length (es.flatMap enC))) (hk2 : Knows l (reads (.slice bo es.length d) es.length (es.flatMap enC))) (hE : Ent l w) :
    Calls Tryd.prog 24 #[.slice ao es.length c, .slice bo es.length d] w (Ret fun v w' => v = .bool true ∧ Ent l w') := by
  go_enter Tryd.func24, Tryd.ntmps24
  go_wp2
  go_loopw [5] (fun i wr => CntRel es.length l i wr) (fun i _ => es.length - (intOf i).toNat)
  case atStart => exact ⟨0, Nat.zero_le _, rfl, hE⟩
  case round =>
    clear hE
    obtain ⟨k, hkl, rfl, hE⟩ := hrel
    by_cases hlt : k < es.length
    · obtain ⟨b1, o1, rfl, hz⟩ := en_at (hk _ hE) hlt
      obtain ⟨b2, o2, rfl, hz2⟩ := en_at (hk2 _ hE) hlt
      clear hz hz2
      have f1 := SL.hid (show ∀ w, Ent l w → _ from fun w h => (load_en (hk w h) hlt).1)
      have f2 := SL.hid (show ∀ w, Ent l w → _ from fun w h => (load_en (hk2 w h) hlt).1)
      have hcm := fun w => eqEn es[k] w
      generalize es[k] = x at f1 f2 hcm
      obtain ⟨x1, x2, x3⟩ := x
      go_wp2
      refine wp_region_held_drew (S := (fun w' => ((Instr.loadAt 51 (.pointer (some ⟨b1, o1 + k * 3, none⟩))).run Tryd.prog w' = .ok (.agg #[.string ⟨x1.toArray⟩, .bool x2, .string ⟨x3.toArray⟩]) w') ∧ ((Instr.loadAt 51 (.pointer (some ⟨b2, o2 + k * 3, none⟩))).run Tryd.prog w' = .ok (.agg #[.string ⟨x1.toArray⟩, .bool x2, .string ⟨x3.toArray⟩]) w'))) (by kernel_rfl) ⟨(f1.out _ hE.drew), (f2.out _ hE.drew)⟩ (fun hS => ?_)
      refine tV 0 hS ?_; refine tV 1 hS ?_; refine tV 2 hS ?_; refine tL 3 hS ?_; refine tV 4 hS ?_; refine tV 5 hS ?_; refine tV 6 hS ?_; refine tL 7 hS ?_; refine tV 8 hS ?_
      refine wpAnyH_done (by kernel_rfl) ?_ _
      go_wp2
      go_roundw
      case rel => exact ⟨k + 1, hlt, by first | rfl | simp, hE.drew⟩
      case measure => simp [intOf] <;> omega
    · obtain rfl : k = es.length := by omega
      go_wp2
      go_ret
      exact ⟨_, rfl, rfl, hE⟩
end Go.Proofs.YtjdignaddfhohaaDoor
namespace Go.Proofs.YtjdignaddfhohaaDoor
open Go.RowKit Go.SL

def sidesK (es : List En) : List (List UInt8 × Value) := es.map fun x => (x.path, sdV ⟨true, x.dir, x.data⟩)
theorem set_new {κ : Type} [BEq κ] [LawfulBEq κ] : ∀ {kvs : List (κ × Value)} {n : κ} {v : Value}, n ∉ kvs.map Prod.fst → setK kvs n v = kvs ++ [(n, v)]
  | [], _, _, _ => rfl
  | p :: t, n, v, h => by
    rw [List.map_cons, List.mem_cons, not_or] at h
    unfold setK
    rw [if_neg (by simpa using h.1), set_new h.2]
    rfl
theorem sides_keys (es : List En) : (sidesK es).map Prod.fst = es.map En.path := by simp [sidesK]
theorem look_sides (es : List En) (k : List UInt8) : (lookK (sidesK es) k).getD (sdV .no) = sdV (fE es k) := by
  unfold lookK sidesK fE
  induction es with
  | nil => rfl
  | cons x es ih =>
    rw [List.map_cons, List.find?_cons, List.find?_cons]
    have e : (k == x.path) = (x.path == k) := by rw [Bool.eq_iff_iff, beq_iff_eq, beq_iff_eq, eq_comm]
    simp only [e]
    cases h : x.path == k with
    | true => rfl
    | false => exact ih
theorem sides_step {es : List En} (hn : (es.map En.path).Nodup) {k : Nat} (hk : k < es.length) : setK (sidesK (es.take k)) es[k].path (sdV ⟨true, es[k].dir, es[k].data⟩) = sidesK (es.take (k + 1)) := by
  rw [set_new, List.take_succ_eq_append_getElem hk]
  · simp only [sidesK, List.map_append, List.map_cons, List.map_nil]
  · rw [sides_keys]
    intro hm
    rw [← List.take_append_drop k es, List.map_append, List.nodup_append] at hn
    have h2 : es[k].path ∈ (es.drop k).map En.path := by rw [List.drop_eq_getElem_cons hk, List.map_cons]; exact List.mem_cons_self ..
    exact hn.2.2 _ hm _ h2 rfl
def OfmRel (es : List En) (r : Nat) (L : List HProp) (i : Value) (wr : World) : Prop := ∃ k : Nat, k ≤ es.length ∧ i = .int .i64 k ∧ Ent (mapK r kS (sidesK (es.take k)) :: L) wr
set_option maxRecDepth 100000 in
set_option maxHeartbeats 4000000 in
attribute [-go_sem] Instr.loadAt in
theorem of_any {t : Tr} (hw : Tr.Wf 6 t) (hb : (entT 6 [] t).length ≤ 1000000) {kv : Value} {l : List HProp} (hkv : KidsAt l kv t.kids) {w : World} (hE : Ent l w) :
    Calls Tryd.prog 19 #[nodeV t kv] w (Ret fun v w' => ∃ r m, v = .map (some r) ∧ Ent (mapK r kS (sidesK (entT 6 [] t)) :: (m ++ l)) w') := by
  have HEn := SL.hid (fun (L : List HProp) (w : World) (hs : l <:+ L) (hE : Ent L w) => Entries_any hw (by decide) (hkv.suf hs) hb hE)
  have Hnd := SL.hid (all_nodup hw)
  unfold nodeV at *
  generalize entT 6 [] t = es at *
  generalize t.dir = td at *
  generalize t.data = tb at *
  have Hb := SL.hid hb
  clear hkv hw hb
  go_enter Tryd.func19, Tryd.ntmps19
  go_wp2_with (first
    | go_skip
    | (refine bxX hE ?_; clear hE; intro b1 w hE)
    | ((with_reducible (show Go.wpList _ _ _ (Go.Oper.mk _ (.makeMap _ _) _ _ _ _ :: _) _ _)); refine wpl_makeK kS hE rfl rfl ?_; clear hE; intro r w1 hE)
    | (refine lwX (t := 35) hE Tryd.isAgg35 Tryd.sizeOf35 ?_)
    | (go_at_call 16; refine (HEn.out _ _ sfx hE).mono ?_; clear hE; rintro e w2 ⟨v, rfl, a, c, m, rfl, hE⟩))
  have hE2 := Ent.swap (a := rowEn a c es :: m) (b := [mapK r kS []]) hE
  have Hk := SL.hid (show ∀ W kvs, Ent (mapK r kS kvs :: (rowEn a c es :: m ++ (pt b1 (.cells #[.bool td, .string ⟨tb.toArray⟩, kv] 35) :: l))) W → reads (.slice a es.length c) es.length (es.flatMap enC) W from fun W kvs h => reads_row h.tail 0 rfl)
  have Hfin := SL.hid (show ∀ W kvs, Ent (mapK r kS kvs :: (rowEn a c es :: m ++ (pt b1 (.cells #[.bool td, .string ⟨tb.toArray⟩, kv] 35) :: l))) W → ∃ m2, Ent (mapK r kS kvs :: (m2 ++ l)) W from fun W kvs h => ⟨(rowEn a c es :: m) ++ [pt b1 (.cells #[.bool td, .string ⟨tb.toArray⟩, kv] 35)], by simpa using h⟩)
  generalize rowEn a c es :: m ++ (pt b1 (.cells #[.bool td, .string ⟨tb.toArray⟩, kv] 35) :: l) = L0 at *
  clear hE HEn
  go_loopw [10] (fun i wr => OfmRel es r L0 i wr) (fun i _ => es.length - (intOf i).toNat)
  case atStart => exact ⟨0, Nat.zero_le _, rfl, hE2⟩
  case round =>
    clear hE2
    obtain ⟨k, hkn, rfl, hE⟩ := hrel
    have hn := Hb.out
    by_cases hlt : k < es.length
    · have hr := Hk.out _ _ hE
      obtain ⟨b, off, rfl, hz⟩ := en_at hr hlt
      clear hz
      obtain ⟨hl0, hl1, hl2, hl3⟩ := load_en hr hlt
      clear hl1 hl2 hl3 hr
      have Hst := SL.hid (sides_step Hnd.out hlt)
      generalize es[k] = x at *
      obtain ⟨xp, xd, xb⟩ := x
      simp only at hl0 Hst
      go_wp2_with (first
        | go_skip
        | (refine alX hE ?_; clear hE; intro b5 w hE)
        | (refine swX (t := 51) hE [.string ⟨xp.toArray⟩, .bool xd, .string ⟨xb.toArray⟩] Tryd.sizeOf51 ?_; clear hE; intro w hE)
        | (refine upX (n := xp) (v := sdV ⟨true, xd, xb⟩) keyS hE Tryd.underlying58 Tryd.underlying9 ?_; clear hE; intro w5 hE; rw [Hst.out] at hE)
        | (refine ldX hE ?_))
      go_roundw
      case rel => exact ⟨k + 1, hlt, by first | rfl | simp, hE.tail⟩
      case measure => simp [intOf] <;> omega
    · obtain rfl : k = es.length := by omega
      rw [List.take_length] at hE
      go_wp2
      refine bodyPost_ret (results_tmp rfl _ _ _) rfl ?_
      obtain ⟨m2, h⟩ := Hfin.out _ _ hE
      exact ⟨_, rfl, r, m2, rfl, h⟩
end Go.Proofs.YtjdignaddfhohaaDoor
namespace Go.Proofs.YtjdignaddfhohaaDoor
open Go.RowKit Go.SL

def lastS (s : List UInt8) : Int := Lib.lastIndexByte ⟨s.toArray⟩ 47
theorem last_spec (s : List UInt8) : (lastS s = -1 ∧ ∀ c ∈ s, c ≠ 47) ∨ ∃ i : Nat, i < s.length ∧ lastS s = i ∧ s[i]? = some 47 ∧ ∀ c ∈ s.drop (i + 1), c ≠ 47 := by
  have key : ∀ j (h : j < s.length), (((⟨s.toArray⟩ : ByteArray).data[j]!).toNat : Int) = ((s[j].toNat : Nat) : Int) := fun j h => by simp [h]
  have k2 : ∀ c : UInt8, ((c.toNat : Nat) : Int) = 47 ↔ c = 47 := fun c => by
    constructor
    · intro h
      exact UInt8.toNat_inj.1 (by have : c.toNat = 47 := by omega
                                  rw [this]; rfl)
    · rintro rfl; rfl
  rcases Lib.lastIndexByte_spec ⟨s.toArray⟩ 47 with ⟨h1, h2⟩ | ⟨i, hi, h1, h2, h3⟩
  · refine .inl ⟨h1, fun c hc => ?_⟩
    obtain ⟨j, hj, rfl⟩ := List.getElem_of_mem hc
    have := h2 j (show j < s.toArray.size by simpa using hj)
    rw [key j hj] at this
    exact fun e => this ((k2 _).2 e)
  · have hi' : i < s.length := by have : i < s.toArray.size := hi; simpa using this
    refine .inr ⟨i, hi', h1, ?_, fun c hc => ?_⟩
    · rw [key i hi'] at h2
      rw [List.getElem?_eq_getElem hi', (k2 _).1 h2]
    · obtain ⟨j, hj, rfl⟩ := List.getElem_of_mem hc
      rw [List.length_drop] at hj
      rw [List.getElem_drop]
      have := h3 (i + 1 + j) (by omega) (show _ < s.toArray.size by rw [List.size_toArray]; omega)
      rw [key _ (by omega)] at this
      exact fun e => this ((k2 _).2 e)
def abovG : Nat → List UInt8 → List (List UInt8)
  | 0, _ => []
  | n + 1, p => if 0 < lastS p then p.take (lastS p).toNat :: abovG n (p.take (lastS p).toNat) else []
def abovL (p : List UInt8) : List (List UInt8) := abovG p.length p
theorem abov_mem : ∀ (n : Nat) (p q : List UInt8), p.length ≤ n → (q ∈ abovG n p ↔ q ≠ [] ∧ belowP p q = true)
  | 0, p, q, h => by
    have : p = [] := List.eq_nil_of_length_eq_zero (by omega)
    subst this
    simp [abovG, belowP]
  | n + 1, p, q, h => by
    unfold abovG
    rcases last_spec p with ⟨h1, h2⟩ | ⟨i, hi, h1, h2, h3⟩
    · rw [if_neg (by omega)]
      refine ⟨fun h => (by cases h), fun ⟨_, hb⟩ => ?_⟩
      obtain ⟨r, rfl⟩ := below_iff.1 hb
      exact absurd rfl (h2 47 (by simp))
    · have hg : p[i] = 47 := by rw [List.getElem?_eq_getElem hi] at h2; exact Option.some.inj h2
      have hp : p = p.take i ++ 47 :: p.drop (i + 1) := by
        conv => lhs; rw [← List.take_append_drop i p, List.drop_eq_getElem_cons hi, hg]
      have hb0 : belowP p (p.take i) = true := below_iff.2 ⟨_, hp⟩
      have hcase : belowP p q = true ↔ q = p.take i ∨ belowP (p.take i) q = true := by
        constructor
        · intro hb
          obtain ⟨r, hr⟩ := below_iff.1 hb
          have hql : q.length < p.length := by rw [hr]; simp
          by_cases he : q.length = i
          · left
            rw [hr, ← he]
            simp
          · right
            have hlt : q.length < i := by
              apply Classical.byContradiction
              intro hn
              have hgt : i < q.length := by omega
              have hx : (47 : UInt8) ∈ p.drop (i + 1) := by
                rw [hr, List.drop_append_of_le_length (by omega)]
                simp
              exact h3 47 hx rfl
            refine below_iff.2 ⟨r.take (i - q.length - 1), ?_⟩
            conv => lhs; rw [hr]
            rw [List.take_append, List.take_of_length_le (by omega)]
            have : i - q.length = (i - q.length - 1) + 1 := by omega
            rw [this, List.take_succ_cons]
            rfl
        · rintro (rfl | hb)
          · exact hb0
          · exact below_trans hb0 hb
      by_cases h0 : 0 < i
      · rw [if_pos (by omega), h1]
        have ht : (p.take i).length ≤ n := by rw [List.length_take]; omega
        have hne : p.take i ≠ [] := fun e => by have h5 := congrArg List.length e; rw [List.length_take, List.length_nil] at h5; omega
        rw [Int.toNat_natCast, List.mem_cons, abov_mem n _ q ht, hcase]
        constructor
        · rintro (rfl | h)
          · exact ⟨hne, .inl rfl⟩
          · exact ⟨h.1, .inr h.2⟩
        · rintro ⟨hq, rfl | h⟩
          · exact .inl rfl
          · exact .inr ⟨hq, h⟩
      · rw [if_neg (by omega)]
        refine ⟨fun h => (by cases h), fun ⟨hq, hb⟩ => ?_⟩
        have hi0 : i = 0 := by omega
        subst hi0
        rcases hcase.1 hb with h | h
        · exact absurd (by simpa using h) hq
        · simp [belowP] at h
theorem above_mem {p q : List UInt8} : q ∈ abovL p ↔ q ≠ [] ∧ belowP p q = true := abov_mem _ p q (Nat.le_refl _)
theorem abov_more : ∀ (n : Nat) (p : List UInt8), p.length ≤ n → abovG (n + 1) p = abovG n p
  | 0, p, h => by
    have : p = [] := List.eq_nil_of_length_eq_zero (by omega)
    subst this
    rfl
  | n + 1, p, h => by
    unfold abovG
    split
    · next h0 =>
      have hl : (p.take (lastS p).toNat).length ≤ n := by
        rcases last_spec p with ⟨h1, _⟩ | ⟨i, hi, h1, _, _⟩
        · omega
        · have h4 : (lastS p).toNat = i := by rw [h1, Int.toNat_natCast]
          rw [h4, List.length_take]; omega
      rw [abov_more n _ hl]
    · rfl
theorem abov_any : ∀ {n m : Nat} {p : List UInt8}, p.length ≤ n → n ≤ m → abovG m p = abovG n p
  | n, m, p, h, hm => by
    obtain ⟨d, rfl⟩ : ∃ d, m = n + d := ⟨m - n, by omega⟩
    induction d with
    | zero => rfl
    | succ d ih => rw [show n + (d + 1) = (n + d) + 1 from rfl, abov_more _ _ (by omega), ih (by omega)]
theorem above_step {p : List UInt8} : abovL p = if 0 < lastS p then p.take (lastS p).toNat :: abovL (p.take (lastS p).toNat) else [] := by
  unfold abovL
  rw [← abov_more p.length p (Nat.le_refl _)]
  conv => lhs; unfold abovG
  split
  · rw [abov_any (Nat.le_refl _) (by rw [List.length_take]; omega)]
  · rfl
end Go.Proofs.YtjdignaddfhohaaDoor
