/-
  A directory cut, as the document says it. Printed by gen_cv3.py.
-/
import Derived.Test.YtehfbokkcamliaaDoorCutCF7
import Derived.Lib.LaidTab
import Derived.Lib.SmallJoins
namespace Go.Proofs.YtehfbokkcamliaaDoor
open Go.RowKit Go.SL

theorem built_top0 : Tryd.prog.built 80 [] = some (topC kid0 (.slice none 0 0)).toArray := by kernel_rfl
theorem run_built_top0 (w : World) : (Instr.build 80 #[]).run Tryd.prog w = .ok (.agg (topC kid0 (.slice none 0 0)).toArray) w := run_build w 80 _ _ built_top0
theorem kid0_good : kid0.good := ⟨rfl, by decide⟩
theorem rbuilt_kid5 {hs : List UInt8} (h32 : hs.length = 32) (n : ByteArray) (d : Bool) (g s : Int) : Tryd.prog.built 78 [(0, .string n), (1, .bool d), (2, .agg (bvals hs).toArray), (3, .int .u8 g), (4, .int .u32 s)] = some (.string n :: .bool d :: (bvals hs ++ [.int .u8 g, .int .u32 s])).toArray := by
  obtain ⟨x0, x1, x2, x3, x4, x5, x6, x7, x8, x9, x10, x11, x12, x13, x14, x15, x16, x17, x18, x19, x20, x21, x22, x23, x24, x25, x26, x27, x28, x29, x30, x31, rfl⟩ := list32 h32
  kernel_rfl
theorem run_rbuilt_kid5 {n : List UInt8} {t : Tr} {k : Kid} (h : k.good) (w : World) : (Instr.build 78 #[(0, .string ⟨n.toArray⟩), (1, .bool t.dir), (2, .agg (bvals k.hash).toArray), (3, .int .u8 k.height.toNat), (4, .int .u32 (t.data.length : Nat))]).run Tryd.prog w = .ok (.agg (kcells (dirKid n t k)).toArray) w :=
  run_build w 78 _ _ (rbuilt_kid5 h.1 _ _ _ _)
theorem mem_cells {b : Nat} {xs : List Value} {T : TypeId} {fz : Nat × Nat} {l : List HProp} {w : World} (hE : Ent l w) (hm : pt b (.cells xs.toArray T fz) ∈ l) : ∀ (j : Nat) (u : Value), xs[j]? = some u → w.cell? ⟨b, j, none⟩ = some u := by
  obtain ⟨i, hi, h⟩ := List.getElem_of_mem hm
  intro j u hu
  have := hE.cell i (by rw [List.getElem?_eq_getElem hi, h]) j
  rw [this, List.getElem?_toArray]
  exact hu
theorem top_hash {b : Nat} {k : Kid} {v : Value} {w : World} (hg : k.good) (hc : ∀ (j : Nat) (u : Value), (topC k v)[j]? = some u → w.cell? ⟨b, j, none⟩ = some u) : (Instr.loadAt 46 (.pointer (some ⟨b, 2, none⟩))).run Tryd.prog w = .ok (.agg (bvals k.hash).toArray) w := by
  have h1 : (bvals k.hash).length = 32 := by rw [bvals_length]; exact hg.1
  refine atCells Tryd.isAgg46 Tryd.sizeOf46 (bvals k.hash) h1 (fun j u hu => ?_)
  rw [Addr.add_lit]
  refine hc _ _ ?_
  have hj := (List.getElem?_eq_some_iff.1 hu).1
  rw [topC, List.getElem?_append_left (by rw [kcells_len hg]; omega), kcells, Nat.add_comm, List.getElem?_cons_succ, List.getElem?_cons_succ, List.getElem?_append_left hj]
  exact hu
theorem top_height {b : Nat} {k : Kid} {v : Value} {w : World} (hg : k.good) (hc : ∀ (j : Nat) (u : Value), (topC k v)[j]? = some u → w.cell? ⟨b, j, none⟩ = some u) : w.cell? ⟨b, 34, none⟩ = some (.int .u8 k.height.toNat) := by
  have h1 : (bvals k.hash).length = 32 := by rw [bvals_length]; exact hg.1
  refine hc 34 _ ?_
  rw [topC, List.getElem?_append_left (by rw [kcells_len hg]; omega), kcells, List.getElem?_cons_succ, List.getElem?_cons_succ, List.getElem?_append_right (by omega), h1]
  rfl
theorem top_slice {b : Nat} {k : Kid} {v : Value} {w : World} (hg : k.good) (hc : ∀ (j : Nat) (u : Value), (topC k v)[j]? = some u → w.cell? ⟨b, j, none⟩ = some u) : w.cell? ⟨b, 36, none⟩ = some v := by
  refine hc 36 _ ?_
  rw [topC, List.getElem?_append_right (by rw [kcells_len hg]; omega), kcells_len hg]
  rfl
theorem top_kidOf {b : Nat} {k : Kid} {v : Value} {w : World} (hg : k.good) (hc : ∀ (j : Nat) (u : Value), (topC k v)[j]? = some u → w.cell? ⟨b, j, none⟩ = some u) : (Instr.loadAt 78 (.pointer (some ⟨b, 0, none⟩))).run Tryd.prog w = .ok (.agg (kcells k).toArray) w := by
  refine atCells Tryd.isAgg78 Tryd.sizeOf78 (kcells k) (kcells_len hg) (fun j u hu => ?_)
  rw [Addr.add_lit, Nat.zero_add]
  refine hc _ _ ?_
  rw [topC, List.getElem?_append_left (List.getElem?_eq_some_iff.1 hu).1]
  exact hu
/-- where a name begins in a path -/
def fromP (q : List UInt8) : Nat := if q = [] then 0 else q.length + 1
theorem joinP_nil {q : List (List UInt8)} (h : q.all isName = true) : joinP q = [] ↔ q = [] := by
  constructor
  · intro e
    cases q with
    | nil => rfl
    | cons a t =>
      simp only [List.all_cons, Bool.and_eq_true] at h
      have ha : a ≠ [] := by
        have := (isName_len h.1).2
        rintro rfl
        simp at this
      cases t with
      | nil => rw [joinP_one] at e; exact absurd e ha
      | cons b t => rw [joinP_cons a (by simp)] at e; simp at e
  · rintro rfl; rfl
theorem joinP_le : ∀ {q : List (List UInt8)}, q.all isName = true → (joinP q).length ≤ 17 * q.length
  | [], _ => Nat.le_refl _
  | [a], h => by
    simp only [List.all_cons, Bool.and_eq_true] at h
    have := (isName_len h.1).1
    rw [joinP_one, List.length_singleton]; omega
  | a :: b :: t, h => by
    have h2 : (b :: t).all isName = true := by simp only [List.all_cons, Bool.and_eq_true] at h ⊢; exact h.2
    simp only [List.all_cons, Bool.and_eq_true] at h
    have h1 := (isName_len h.1).1
    have ih := joinP_le h2
    rw [joinP_cons a (by simp), List.length_append, List.length_cons, List.length_cons]
    omega
theorem from_name {q : List (List UInt8)} {n : List UInt8} (h : q.all isName = true) : fromP (joinP q) ≤ (joinP (q ++ [n])).length ∧ (joinP (q ++ [n])).drop (fromP (joinP q)) = n := by
  unfold fromP
  split
  · next e =>
    obtain rfl := (joinP_nil h).1 e
    rw [List.nil_append, joinP_one]
    exact ⟨Nat.zero_le _, rfl⟩
  · next e =>
    have hq : q ≠ [] := fun h' => e (by rw [h']; rfl)
    rw [joinP_end hq]
    refine ⟨by simp, ?_⟩
    rw [← List.drop_drop, List.drop_left]
    rfl

theorem rbuilt_chunk3 (w : World) : (Instr.build 120 #[(0, .int .u8 3)]).run Tryd.prog w = .ok (.agg #[.int .u8 3, .string ⟨#[]⟩, .slice none 0 0]) w := by simp [go_sem]
abbrev rowRK (ao : Option Addr) (c : Nat) (ks : List Kid) : HProp := row 78 36 (.slice ao ks.length c) ks.length (kidCells ks)
/-- what is shown of the document's directory -/
def RDi (t : Tr) (L : List En) (ao : Option Addr) (c : Nat) (tl : List Value) (l : List HProp) (d : Nat) : Prop := ∀ (q : List (List UInt8)) (u : Tr), Tr.Wf d u → u.dir = true → Tr.get? q t = some u → ∀ (L' : List HProp) (w : World), l <:+ L' → Ent L' w →
  Calls Tryd.prog 27 #[.agg tl.toArray, .agg #[.slice ao L.length c], .string ⟨(joinP q).toArray⟩] w
    (Ret fun v w' => ∃ (a : Option Addr) (c' : Nat) (m : List HProp), v = .agg (topC (nodeC d u).2 (.slice a (nodeC d u).1.length c')).toArray ∧ Ent (row 9 1 (.slice a (nodeC d u).1.length c') (nodeC d u).1.length ((nodeC d u).1.map txB) :: (m ++ L')) w')
def RdRel (g : Tr → List Chunk × Kid) (u : Tr) (b8 : Nat) (S : List En) (aS : Option Addr) (cS : Nat) (R : List HProp) (o i : Value) (wr : World) : Prop :=
  ∃ (k : Nat) (a : Option Addr) (ca : Nat) (ac : Option Addr) (cc : Nat) (m : List HProp), k ≤ S.length ∧ i = .int .i64 k ∧ o = .slice a (cdN g u k).length ca ∧
    Ent (row 9 1 (.slice a (cdN g u k).length ca) (cdN g u k).length ((cdN g u k).map txB) :: pt b8 (.cells #[.int .u8 3, .string ⟨#[]⟩, .slice ac (kdN g u k).length cc] 120) :: rowRK ac cc (kdN g u k) :: rowEn aS cS S :: (m ++ R)) wr
theorem txs_one (cs : List Chunk) : ∀ y ∈ cs.map txB, y.oneCell' = true := by
  intro y hy
  obtain ⟨c, _, rfl⟩ := List.mem_map.1 hy
  rfl
set_option maxRecDepth 100000 in
set_option maxHeartbeats 16000000 in
attribute [-go_sem] Instr.loadAt Instr.build in
theorem rDi_step {t : Tr} {L : List En} (hG : Good t L) (hL : L.length ≤ 1000) (hb : ∀ x ∈ L, x.path.length ≤ 1000000) {ao : Option Addr} {c : Nat} {l : List HProp} (hk : Knows l (reads (.slice ao L.length c) L.length (L.flatMap enC))) {tl : List Value} (htl : tl = (tabH hFirst).map u32v) {d : Nat} (hd6 : d ≤ 6)
    (IH : ∀ e, d = e + 1 → RDi t L ao c tl l e) : RDi t L ao c tl l d := by
  intro q u hw hdir hg L' w hs hE
  obtain ⟨hqa, hq6⟩ := get_names hG.2.1 hg
  have HSo := SL.hid (fun (L2 : List HProp) (w : World) (hs : l <:+ L2) (h : Ent L2 w) => Sorted_any hL hb (joinP q) (sortT_perm hG.1 hG.2.1 hqa hq6 hg) (sortT_rising (q := q) (p := u) (Tr.wf_rising hw)) (hk.suf hs) h)
  have HSo2 := SL.hid (show ∀ (L2 : List HProp) (w : World), l <:+ L2 → Ent L2 w → Calls Tryd.prog 55 #[.agg #[.slice ao L.length c], .string ⟨(joinP q).toArray⟩] w (Ret (SoPost (u.kids.map (entOf q)) L2)) from HSo.out)
  obtain ⟨e, he, he6, heT, hok⟩ : ∃ e, (u.kids ≠ [] → d = e + 1) ∧ e ≤ 6 ∧ nodeC d u = dirC (nodeC e) u ∧ DirOk (nodeC e) u := by
    cases d with
    | zero => exact ⟨0, fun h => absurd hw.1 h, by omega, nodeC_dir0 hdir hw.1 _, dir_ok0 hw.1 _⟩
    | succ e => exact ⟨e, fun _ => rfl, by omega, nodeC_dir hdir, dir_ok (by omega) hw⟩
  have hkw : ∀ (k : Nat) (h : k < u.kids.length), Tr.Wf e u.kids[k].2 := fun k h => by
    have hd := he (List.ne_nil_of_length_pos (by omega))
    subst hd
    exact (hw.2.2.2.2.2 _ (List.getElem_mem h)).2
  have HKD := SL.hid (show ∀ (k : Nat) (h : k < u.kids.length), u.kids[k].2.dir = true → ∀ (L2 : List HProp) (w : World), l <:+ L2 → Ent L2 w → Calls Tryd.prog 27 #[.agg tl.toArray, .agg #[.slice ao L.length c], .string ⟨(joinP (q ++ [u.kids[k].1])).toArray⟩] w
    (Ret fun v w' => ∃ (a : Option Addr) (c' : Nat) (m : List HProp), v = .agg (topC (nodeC e u.kids[k].2).2 (.slice a (nodeC e u.kids[k].2).1.length c')).toArray ∧ Ent (row 9 1 (.slice a (nodeC e u.kids[k].2).1.length c') (nodeC e u.kids[k].2).1.length ((nodeC e u.kids[k].2).1.map txB) :: (m ++ L2)) w') from fun k h hkd L2 w hs hE => by
    have hd := he (List.ne_nil_of_length_pos (by omega))
    subst hd
    refine IH e rfl (q ++ [u.kids[k].1]) u.kids[k].2 (hkw k h) hkd ?_ L2 w hs hE
    rw [get_snoc hg, Tr.kid_iff (Tr.wf_rising hw)]
    exact List.getElem_mem h)
  have HKF := SL.hid (show ∀ (k : Nat) (h : k < u.kids.length), u.kids[k].2.dir = false → ∀ (L2 : List HProp) (w : World), l <:+ L2 → Ent L2 w → Calls Tryd.prog 56 #[.agg tl.toArray, .string ⟨u.kids[k].2.data.toArray⟩] w
    (Ret fun v w' => ∃ (a : Option Addr) (c' : Nat) (m : List HProp), v = .agg (topC (nodeC e u.kids[k].2).2 (.slice a (nodeC e u.kids[k].2).1.length c')).toArray ∧ Ent (row 9 1 (.slice a (nodeC e u.kids[k].2).1.length c') (nodeC e u.kids[k].2).1.length ((nodeC e u.kids[k].2).1.map txB) :: (m ++ L2)) w') from fun k h hkd L2 w hs hE => by
    have hdl := hok.data _ (List.getElem_mem h)
    rw [htl, nodeC_file hkd]
    refine (File_any (data := u.kids[k].2.data) (by omega) hE).mono ?_
    rintro en w' ⟨v, rfl, a, c', rfl, hE'⟩
    have e1 : ((fileC u.kids[k].2.data).1.map putC).map (fun s => Value.string ⟨s.toArray⟩) = (fileC u.kids[k].2.data).1.map txB := by rw [List.map_map]; rfl
    simp only [rowT, List.length_map, e1] at hE' ⊢
    exact ⟨_, rfl, a, c', [], rfl, hE'⟩)
  have HOne := SL.hid (show ∀ (ac : Option Addr) (cc : Nat) (LL : List HProp) (w : World), Knows LL (reads (.slice ac (kdN (nodeC e) u u.kids.length).length cc) (kdN (nodeC e) u u.kids.length).length (kidCells (kdN (nodeC e) u u.kids.length))) → Ent LL w →
    Calls Tryd.prog 57 #[.agg tl.toArray, .agg #[.int .u8 3, .string ⟨#[]⟩, .slice ac (kdN (nodeC e) u u.kids.length).length cc]] w
      (Ret fun v w' => ∃ b, v = .agg (topC (kidOf ⟨3, [], kdN (nodeC e) u u.kids.length⟩) (.slice (some ⟨b, 0, none⟩) 1 1)).toArray ∧ Ent (pt b (.cells #[txB ⟨3, [], kdN (nodeC e) u u.kids.length⟩] 9) :: LL) w') from fun ac cc LL w hk hE => by
    have hend : kdN (nodeC e) u u.kids.length = u.kids.map fun k => dirKid k.1 k.2 (nodeC e k.2).2 := by rw [kdN, List.take_length]
    obtain ⟨hm, hgd⟩ := hok.may
    rw [← hend] at hm hgd
    rw [htl]
    exact one_any (u := 3) (data := []) hgd hm (by simp [csize]) hE hk)
  have Htl := SL.hid (show tl.length = 72 by rw [htl]; rfl)
  have Hcnt := SL.hid (show ∀ k, (h : k < u.kids.length) → (cdN (nodeC e) u k).length + (nodeC e u.kids[k].2).1.length ≤ 800000000000 from fun k h => by
    have h1 := cdN_len (g := nodeC e) h
    have h2 := (node_fit d u hd6 hw).2.2
    rw [heT, dirC, List.length_append, List.length_singleton] at h2
    have h3 : 7 ^ d ≤ 7 ^ 6 := Nat.pow_le_pow_right (by omega) hd6
    omega)
  have Hcnt2 := SL.hid (show (cdN (nodeC e) u u.kids.length).length ≤ 800000000000 by
    have h2 := (node_fit d u hd6 hw).2.2
    rw [heT, dirC, List.length_append, List.length_singleton] at h2
    have h3 : 7 ^ d ≤ 7 ^ 6 := Nat.pow_le_pow_right (by omega) hd6
    rw [cdN, List.take_length]
    omega)
  have Hnm := SL.hid (show ∀ k, (h : k < u.kids.length) → fromP (joinP q) ≤ (joinP (q ++ [u.kids[k].1])).length ∧ (joinP (q ++ [u.kids[k].1])).drop (fromP (joinP q)) = u.kids[k].1 from fun k h => from_name hqa)
  have HV := SL.hid (show nodeC d u = (cdN (nodeC e) u u.kids.length ++ [⟨3, [], kdN (nodeC e) u u.kids.length⟩], kidOf ⟨3, [], kdN (nodeC e) u u.kids.length⟩) by
    rw [heT, dirC, cdN, kdN, List.take_length])
  have hjl : (joinP q).length ≤ 1000 := by have := joinP_le hqa; omega
  have Hs := SL.hid hs
  have Hok := SL.hid hok
  have hk6 := hok.six
  clear HSo IH hw hg heT he hqa hq6 hs hk hkw hok hd6 he6 hdir htl
  obtain ⟨S, hS⟩ : ∃ S, S = u.kids.map (entOf q) := ⟨_, rfl⟩
  rw [← hS] at HSo2
  have HS := SL.hid hS
  have hsl : S.length = u.kids.length := by rw [hS, List.length_map]
  have HSl := SL.hid hsl
  have hS6 : S.length ≤ 6 := by omega
  clear hS hsl
  generalize hj : joinP q = jq at *
  clear hj
  have hbc := rbuilt_chunk3
  have hb0 := run_built_top0
  have Hz37 := SL.hid (topC_len kid0_good (.slice none 0 0))
  have Hz1 := SL.hid (topC_one kid0 (v := .slice none 0 0) rfl)
  generalize topC kid0 (.slice none 0 0) = tz at *
  go_enter Tryd.func27, Tryd.ntmps27
  go_wp2_with (first
    | go_skip
    | ((with_reducible (show Go.wpList _ _ _ (Go.Oper.mk _ (.box 85 _) _ _ _ _ :: _) _ _)); refine wpl_box hE rfl rfl (v := .agg tl.toArray) rfl ?_; clear hE; intro b3 w hE; simp only [Value.cells] at hE)
    | ((with_reducible (show Go.wpList _ _ _ (Go.Oper.mk _ (.box 37 _) _ _ _ _ :: _) _ _)); refine wpl_box hE rfl rfl rfl ?_; clear hE; intro b4 w hE; simp only [Act.eval, Act.put, List.setIfInBounds_toArray, List.set_cons_zero, List.set_cons_succ, getD_lit, List.getD_cons_succ, List.getD_cons_zero, Value.cells] at hE)
    | ((with_reducible (show Go.wpList _ _ _ (Go.Oper.mk _ (.alloc 80) _ _ _ _ :: _) _ _)); refine wpl_allocN hE rfl rfl (n := 37) (by kernel_rfl) ?_; clear hE; intro b6 cs w1 hq hE)
    | (refine lwX (t := 37) hE Tryd.isAgg37 Tryd.sizeOf37 ?_)
    | (go_at_call 55; refine (HSo2.out _ _ (Hs.out.trans ((List.suffix_cons _ _).trans ((List.suffix_cons _ _).trans (List.suffix_cons _ _)))) hE).mono ?_; clear hE; rintro en w3 ⟨v, rfl, aS, cS, mS, rfl, hE⟩)
    | ((with_reducible (show Go.wpList _ _ _ (Go.Oper.mk _ (.alloc 120) _ _ _ _ :: _) _ _)); refine wpl_alloc hE rfl rfl (by simp [go_sem]; rfl) ?_; clear hE; intro b8 w hE; simp only [Act.eval, Act.put, List.setIfInBounds_toArray, List.set_cons_zero, List.set_cons_succ, getD_lit, List.getD_cons_succ, List.getD_cons_zero, Value.cells] at hE)
    | (refine swX (t := 120) hE [.int .u8 3, .string ⟨#[]⟩, .slice none 0 0] Tryd.sizeOf120 ?_; clear hE; intro w hE))
  have Hq := SL.hid (show cs.toArray.size = 37 by simpa using hq)
  clear hq
  obtain ⟨R, hR⟩ : ∃ R, R = pt b6 (.cells cs.toArray 80 (0, 0)) :: pt b4 (.cells #[.slice ao L.length c] 37) :: pt b3 (.cells tl.toArray 85 (0, 0)) :: L' := ⟨_, rfl⟩
  have hlR : l <:+ R := by rw [hR]; exact Hs.out.trans ((List.suffix_cons _ _).trans ((List.suffix_cons _ _).trans (List.suffix_cons _ _)))
  haveI : Nonempty (l <:+ R) := ⟨hlR⟩
  have HTb := SL.hid (show ∀ (LL : List HProp) (w : World), R <:+ LL → Ent LL w → (Instr.loadAt 85 (.pointer (some ⟨b3, 0, none⟩))).run Tryd.prog w = .ok (.agg tl.toArray) w from by
    intro LL w h hL
    obtain ⟨m, rfl⟩ := h
    rw [hR] at hL
    exact atWm hL (List.mem_append_right _ (List.Mem.tail _ (List.Mem.tail _ (List.Mem.head _)))) Tryd.isAgg85 Tryd.sizeOf85 Htl.out)
  have HTr := SL.hid (show ∀ (LL : List HProp) (w : World), R <:+ LL → Ent LL w → (Instr.loadAt 37 (.pointer (some ⟨b4, 0, none⟩))).run Tryd.prog w = .ok (.agg #[.slice ao L.length c]) w from by
    intro LL w h hL
    obtain ⟨m, rfl⟩ := h
    rw [hR] at hL
    exact atWm (vs := [.slice ao L.length c]) hL (List.mem_append_right _ (List.Mem.tail _ (List.Mem.head _))) Tryd.isAgg37 Tryd.sizeOf37 rfl)
  have HR := SL.hid hR
  rw [← hR] at hE
  clear hR hlR
  go_loopw [9, 10] (fun o i wr => RdRel (nodeC e) u b8 S aS cS R o i wr) (fun _ i _ => S.length - (intOf i).toNat)
  case atStart =>
    refine ⟨0, none, 0, none, 0, mS, Nat.zero_le _, rfl, rfl, ?_⟩
    have h := ((hE.nil 78 36).nil 9 1)
    exact (h.front 2 rfl).front 1 rfl
  case round =>
    clear hE
    obtain ⟨k, a, ca, ac, cc, mm, hkn, rfl, rfl, hE⟩ := hrel
    by_cases hlt : k < S.length
    · have hlk : k < u.kids.length := by rw [← HSl.out]; exact hlt
      obtain ⟨gS, rfl, _, _⟩ := hE.rowIs 3 rfl (by omega)
      have f1 : (Instr.loadAt 69 (.pointer (some ⟨gS, k * 3, none⟩))).run Tryd.prog wr = .ok (.agg #[.string ⟨S[k].path.toArray⟩, .bool S[k].dir, .string ⟨S[k].data.toArray⟩]) wr := by
        have := (load_en (reads_row hE 3 rfl) hlt).1
        rwa [Nat.zero_add] at this
      have hSk : S[k] = entOf q u.kids[k] := (List.getElem_of_eq HS.out hlt).trans (List.getElem_map ..)
      simp only [hSk, entOf] at f1
      obtain ⟨hgk, _⟩ := Hok.out.kid _ (List.getElem_mem hlk)
      have hdl := Hok.out.data _ (List.getElem_mem hlk)
      have hcnt := Hcnt.out k hlk
      obtain ⟨hn1, hn2⟩ := Hnm.out k hlk
      have Hkd := SL.hid (kdN_step (g := nodeC e) hlk)
      have Hcd := SL.hid (cdN_step (g := nodeC e) hlk)
      have HD := SL.hid (HKD.out k hlk)
      have HF := SL.hid (HKF.out k hlk)
      have hkdl : (kdN (nodeC e) u k).length ≤ 6 := by rw [kdN, List.length_map, List.length_take]; omega
      clear hSk
      generalize u.kids[k] = x at *
      obtain ⟨nm, t'⟩ := x
      simp only at f1 hgk hdl hcnt hn1 hn2 Hkd Hcd HD HF
      generalize joinP (q ++ [nm]) = xp at *
      have Hb5 := SL.hid (run_rbuilt_kid5 (n := nm) (t := t') hgk)
      have hgd := dirKid_good (n := nm) (t := t') hgk hdl
      have Hld := SL.hid (kcells_len hgd)
      have Hod := SL.hid (kcells_one (dirKid nm t' (nodeC e t').2))
      have Hkc := SL.hid (show kidCells (kdN (nodeC e) u k ++ [dirKid nm t' (nodeC e t').2]) = kidCells (kdN (nodeC e) u k) ++ kcells (dirKid nm t' (nodeC e t').2) by simp [kidCells])
      have Hct := SL.hid (show ((cdN (nodeC e) u k) ++ (nodeC e t').1).map txB = (cdN (nodeC e) u k).map txB ++ (nodeC e t').1.map txB by simp)
      have z1 : IntKind.u32.wrap (t'.data.length : Int) = (t'.data.length : Int) := by rw [IntKind.wrap_u32]; omega
      have z2 : (t'.data.length : Int) % 4294967296 = (t'.data.length : Int) := by omega
      have hsl : ∀ w, (Instr.sliceAt 9 (.string ⟨xp.toArray⟩) (some (.int .i64 ((fromP jq : Nat) : Int))) none none).run Tryd.prog w = .ok (.string ⟨nm.toArray⟩) w := fun w => by
        have h := run_slice_sLo (P := Tryd.prog) Tryd.underlying9 (bs := xp) (k := fromP jq) hn1 w
        rw [hn2] at h
        exact h
      have Hsl := SL.hid hsl
      have Hl37 := SL.hid (show ∀ a n c', (topC (nodeC e t').2 (.slice a n c')).length = 37 from fun a n c' => topC_len hgk _)
      have H1 := SL.hid (show ∀ (a : Option Addr) (n c' : Nat), ∀ y ∈ topC (nodeC e t').2 (.slice a n c'), y.oneCell' = true from fun a n c' => topC_one _ rfl)
      have Hgk := SL.hid hgk
      have Hones := SL.hid (txs_one (nodeC e t').1)
      have Hln := SL.hid (show ((nodeC e t').1.map txB).length = (nodeC e t').1.length from List.length_map ..)
      clear hdl hn1 hn2 hgd hsl hgk
      generalize hkk : (nodeC e t').2 = kk at *
      generalize hcs : (nodeC e t').1 = sc at *
      clear hkk hcs
      generalize hdx : kcells (dirKid nm t' kk) = dx at *
      clear hdx
      generalize t'.data = xb at *
      generalize hsub : sc.map txB = sub at *
      generalize hsn : sc.length = sn at *
      have Hsn := SL.hid hsn
      clear hsub hsn
      cases hxd : t'.dir with
      | true =>
        have HX := SL.hid (HD.out hxd)
        rw [hxd] at f1 Hb5
        have hb5 := Hb5.out
        clear HD HF
        by_cases hjq : jq = []
        · have hne : ((⟨jq.toArray⟩ : ByteArray) != ⟨#[]⟩) = false := by rw [bne, beq_toListBytes, ByteArray.toList_eq, ByteArray.toList_eq, hjq]; rfl
          have hne1 : ((⟨jq.toArray⟩ : ByteArray) == ⟨#[]⟩) = true := by rw [beq_toListBytes, ByteArray.toList_eq, ByteArray.toList_eq, hjq]; rfl
          have hne2 : (jq == []) = true := by rw [hjq]; rfl
          have hs0 : ∀ w, (Instr.sliceAt 9 (.string ⟨xp.toArray⟩) (some (.int .i64 0)) none none).run Tryd.prog w = .ok (.string ⟨nm.toArray⟩) w := fun w => by
            have h := Hsl.out w
            rw [show fromP jq = 0 from if_pos hjq] at h
            exact h
          clear hjq
          go_wp2_with (first
            | go_skip
            | ((with_reducible (show Go.wpList _ _ _ (Go.Oper.mk _ (.build 80 _) _ _ _ _ :: _) _ _)); refine wpl_built (ps := #[]) rfl rfl rfl hb0 ?_)
            | ((with_reducible (show Go.wpList _ _ _ (Go.Oper.mk _ (.alloc 69) _ _ _ _ :: _) _ _)); refine wpl_allocN hE rfl rfl (n := 3) (by kernel_rfl) ?_; clear hE; intro b11 c11 w1 hq11 hE)
            | ((with_reducible (show Go.wpList _ _ _ (Go.Oper.mk _ (.store 69 _ _) _ _ _ _ :: _) _ _)); refine wpl_storeN hE 0 rfl rfl rfl rfl (xs := [.string ⟨xp.toArray⟩, .bool true, .string ⟨xb.toArray⟩]) rfl Tryd.sizeOf69 rfl (by simp [Value.oneCell']) hq11 ?_; clear hE hq11; intro w2 hE; simp only [List.set_cons_zero] at hE)
            | ((with_reducible (show Go.wpList _ _ _ (Go.Oper.mk _ (.alloc 80) _ _ _ _ :: _) _ _)); refine wpl_allocN hE rfl rfl (n := 37) (by kernel_rfl) ?_; clear hE; intro b12 c12 w1 hq12 hE)
            | ((with_reducible (show Go.wpList _ _ _ (Go.Oper.mk _ (.store 80 _ _) _ _ _ _ :: _) _ _)); refine wpl_storeN hE 0 rfl rfl rfl rfl (xs := tz) rfl Tryd.sizeOf80 Hz37.out Hz1.out hq12 ?_; clear hE hq12; intro w2 hE; simp only [List.set_cons_zero] at hE)
            | ((with_reducible (show Go.wpList _ _ _ (Go.Oper.mk _ (.load 4 _) _ _ _ _ :: _) _ _)); refine wpl_load1 hE 1 rfl rfl rfl rfl (by simp [go_sem]) rfl ?_)
            | ((with_reducible (show Go.wpList _ _ _ (Go.Oper.mk _ (.load 85 _) _ _ _ _ :: _) _ _)); refine wpl_ldF rfl rfl rfl (HTb.out _ _ sfx hE) ?_)
            | ((with_reducible (show Go.wpList _ _ _ (Go.Oper.mk _ (.load 37 _) _ _ _ _ :: _) _ _)); refine wpl_ldF rfl rfl rfl (HTr.out _ _ sfx hE) ?_)
            | ((with_reducible (show Go.wpList _ _ _ (Go.Oper.mk _ (.load 9 _) _ _ _ _ :: _) _ _)); refine wpl_load1 hE 1 rfl rfl rfl rfl (by simp [go_sem]) rfl ?_)
            | (go_at_call 27; refine (HX.out _ _ sfx hE).mono ?_; clear hE; rintro en w5 ⟨v, rfl, a5, c5, m5, rfl, hE0⟩; have hE := Ent.swap (a := row 9 1 (.slice a5 sn c5) sn sub :: m5) (b := [_, _, _, _, _, _]) hE0; clear hE0; simp only [List.cons_append, List.nil_append] at hE)
            | ((with_reducible (show Go.wpList _ _ _ (Go.Oper.mk _ (.store 80 _ _) _ _ _ _ :: _) _ _)); refine wpl_storeW hE 0 rfl rfl rfl (xs := topC kk (.slice a5 sn c5)) rfl rfl Tryd.sizeOf80 (Hl37.out _ _ _) (H1.out _ _ _) (by simpa using Hz37.out) ?_; clear hE; intro w9 hE; simp only [List.set_cons_zero] at hE)
            | ((with_reducible (show Go.wpList _ _ _ (Go.Oper.mk _ (.load 22 _) _ _ _ _ :: _) _ _)); refine wpl_ldF rfl rfl rfl (atCell (P := Tryd.prog) (t := 22) (top_slice Hgk.out (mem_cells hE (List.Mem.head _))) (by simp [go_sem])) ?_)
            | ((with_reducible (show Go.wpList _ _ _ (Go.Oper.mk _ (.call { callee := .builtin .append, args := _, argTypes := _ }) _ _ _ _ :: _) _ _)); refine wpl_appendG hE 2 rfl rfl rfl rfl rfl Tryd.underlying22 info_text (by decide) (m := sn) (news := sub) (reads_row hE 6 rfl) (by rw [Hln.out, Nat.mul_one]) Hones.out (by omega) (by omega) ?_; clear hE; intro a' ca' w6 hE; simp only [List.set_cons_zero, List.set_cons_succ] at hE))
          have hO := hE.drew
          refine wp_region_held_drew (S := (fun w' => ((Instr.loadAt 9 (.pointer (some ⟨b11, 0, none⟩))).run Tryd.prog w' = .ok (.string ⟨xp.toArray⟩) w') ∧ ((Instr.loadAt 4 (.pointer (some ⟨b11, 1, none⟩))).run Tryd.prog w' = .ok (.bool true) w') ∧ ((Instr.loadAt 9 (.pointer (some ⟨b11, 2, none⟩))).run Tryd.prog w' = .ok (.string ⟨xb.toArray⟩) w') ∧ ((Instr.loadAt 46 (.pointer (some ⟨b12, 2, none⟩))).run Tryd.prog w' = .ok (.agg (bvals kk.hash).toArray) w') ∧ ((Instr.loadAt 5 (.pointer (some ⟨b12, 34, none⟩))).run Tryd.prog w' = .ok (.int .u8 kk.height.toNat) w'))) (by kernel_rfl) ⟨(atVq hO), (atVq hO), (atVq hO), (top_hash (v := .slice a5 sn c5) Hgk.out (mem_cells hO (by repeat (first | exact List.Mem.head _ | refine List.Mem.tail _ ?_)))), (atCell (top_height (v := .slice a5 sn c5) Hgk.out (mem_cells hO (by repeat (first | exact List.Mem.head _ | refine List.Mem.tail _ ?_)))) (by simp [go_sem]))⟩ (fun hS => ?_)
          refine tV 0 hS ?_; refine tV 2 hS ?_; refine tL 3 hS ?_; refine tV 4 hS ?_; refine tV 5 hS ?_; refine tV 6 hS ?_; refine tL 7 hS ?_; refine tV 8 hS ?_; refine tV 9 hS ?_; refine tL 10 hS ?_; refine tV 11 hS ?_; refine tV 12 hS ?_; refine tL 13 hS ?_; refine tV 14 hS ?_; refine tL 15 hS ?_; refine tV 16 hS ?_; refine tV 17 hS ?_; refine tV 18 hS ?_
          refine wpAnyH_ready (rs := [1, 19]) (by kernel_rfl) (by simp) ?_
          refine (AllReadyH.cons (o := ⟨some 51, .load 118 (.tmp 50), _, _, _, none⟩) rfl (fun K hK => ?_) (AllReadyH.cons (o := ⟨some 69, .buildSlice 118 1 #[(0, .tmp 68)], _, _, _, none⟩) rfl (fun K hK => ?_) AllReadyH.nil))
          focus
            (first | refine step_load1 hO 3 rfl rfl (by rfl) (by rfl) (by simp [go_sem]) rfl ?_ | refine step_load1 hO 4 rfl rfl (by rfl) (by rfl) (by simp [go_sem]) rfl ?_)
            refine tK hK ⟨(atVq hO), (atVq hO), (atVq hO), (top_hash (v := .slice a5 sn c5) Hgk.out (mem_cells hO (by repeat (first | exact List.Mem.head _ | refine List.Mem.tail _ ?_)))), (atCell (top_height (v := .slice a5 sn c5) Hgk.out (mem_cells hO (by repeat (first | exact List.Mem.head _ | refine List.Mem.tail _ ?_)))) (by simp [go_sem]))⟩ (fun hS => ?_); clear hK K
            refine tO 19 (fun K hK => ?_)
            (refine stp_build1 hO rfl (by rfl) (xs := dx) (by rfl) Tryd.underlying118 zs_rkid Tryd.sizeOf78 (by decide) (by decide) Hld.out ?_; clear hO; intro b19 w7 hO)
            refine tK hK ⟨(atVq hO), (atVq hO), (atVq hO), (top_hash (v := .slice a5 sn c5) Hgk.out (mem_cells hO (by repeat (first | exact List.Mem.head _ | refine List.Mem.tail _ ?_)))), (atCell (top_height (v := .slice a5 sn c5) Hgk.out (mem_cells hO (by repeat (first | exact List.Mem.head _ | refine List.Mem.tail _ ?_)))) (by simp [go_sem]))⟩ (fun hS => ?_); clear hK K
            refine tO 20 (fun K hK => ?_)
            (refine step_appendG hO 5 rfl rfl (by rfl) (by rfl) (by rfl) Tryd.underlying118 info_rkid (by decide) (m := 1) (news := dx) (reads_pt hO 0 rfl (off := 0) (fun j u hu => by rw [Nat.zero_add, List.getElem?_toArray]; exact hu)) (by rw [Hld.out]) Hod.out (by omega) (by omega) ?_; clear hO; intro ac' cc' w8 hO; simp only [List.set_cons_zero, List.set_cons_succ] at hO)
            refine tK hK ⟨(atVq hO), (atVq hO), (atVq hO), (top_hash (v := .slice a5 sn c5) Hgk.out (mem_cells hO (by repeat (first | exact List.Mem.head _ | refine List.Mem.tail _ ?_)))), (atCell (top_height (v := .slice a5 sn c5) Hgk.out (mem_cells hO (by repeat (first | exact List.Mem.head _ | refine List.Mem.tail _ ?_)))) (by simp [go_sem]))⟩ (fun hS => ?_); clear hK K
            refine tV 21 hS ?_
            refine tO 22 (fun K hK => ?_)
            (refine stp_setC hO 4 rfl rfl (by rfl) (by rfl) (by rfl) Tryd.sizeOf118 rfl rfl (by simp) ?_; clear hO; intro w9 hO; simp only [List.set_cons_zero, List.set_cons_succ] at hO)
            refine tK hK ⟨(atVq hO), (atVq hO), (atVq hO), (top_hash (v := .slice a5 sn c5) Hgk.out (mem_cells hO (by repeat (first | exact List.Mem.head _ | refine List.Mem.tail _ ?_)))), (atCell (top_height (v := .slice a5 sn c5) Hgk.out (mem_cells hO (by repeat (first | exact List.Mem.head _ | refine List.Mem.tail _ ?_)))) (by simp [go_sem]))⟩ (fun hS => ?_); clear hK K
            refine wpAnyH_done (by kernel_rfl) ?_ _
          rotate_right
          focus
            (refine stp_build1 hO rfl (by rfl) (xs := dx) (by rfl) Tryd.underlying118 zs_rkid Tryd.sizeOf78 (by decide) (by decide) Hld.out ?_; clear hO; intro b19 w7 hO)
            refine tK hK ⟨(atVq hO), (atVq hO), (atVq hO), (top_hash (v := .slice a5 sn c5) Hgk.out (mem_cells hO (by repeat (first | exact List.Mem.head _ | refine List.Mem.tail _ ?_)))), (atCell (top_height (v := .slice a5 sn c5) Hgk.out (mem_cells hO (by repeat (first | exact List.Mem.head _ | refine List.Mem.tail _ ?_)))) (by simp [go_sem]))⟩ (fun hS => ?_); clear hK K
            refine tO 1 (fun K hK => ?_)
            (first | refine step_load1 hO 3 rfl rfl (by rfl) (by rfl) (by simp [go_sem]) rfl ?_ | refine step_load1 hO 4 rfl rfl (by rfl) (by rfl) (by simp [go_sem]) rfl ?_)
            refine tK hK ⟨(atVq hO), (atVq hO), (atVq hO), (top_hash (v := .slice a5 sn c5) Hgk.out (mem_cells hO (by repeat (first | exact List.Mem.head _ | refine List.Mem.tail _ ?_)))), (atCell (top_height (v := .slice a5 sn c5) Hgk.out (mem_cells hO (by repeat (first | exact List.Mem.head _ | refine List.Mem.tail _ ?_)))) (by simp [go_sem]))⟩ (fun hS => ?_); clear hK K
            refine tO 20 (fun K hK => ?_)
            (refine step_appendG hO 5 rfl rfl (by rfl) (by rfl) (by rfl) Tryd.underlying118 info_rkid (by decide) (m := 1) (news := dx) (reads_pt hO 0 rfl (off := 0) (fun j u hu => by rw [Nat.zero_add, List.getElem?_toArray]; exact hu)) (by rw [Hld.out]) Hod.out (by omega) (by omega) ?_; clear hO; intro ac' cc' w8 hO; simp only [List.set_cons_zero, List.set_cons_succ] at hO)
            refine tK hK ⟨(atVq hO), (atVq hO), (atVq hO), (top_hash (v := .slice a5 sn c5) Hgk.out (mem_cells hO (by repeat (first | exact List.Mem.head _ | refine List.Mem.tail _ ?_)))), (atCell (top_height (v := .slice a5 sn c5) Hgk.out (mem_cells hO (by repeat (first | exact List.Mem.head _ | refine List.Mem.tail _ ?_)))) (by simp [go_sem]))⟩ (fun hS => ?_); clear hK K
            refine tV 21 hS ?_
            refine tO 22 (fun K hK => ?_)
            (refine stp_setC hO 4 rfl rfl (by rfl) (by rfl) (by rfl) Tryd.sizeOf118 rfl rfl (by simp) ?_; clear hO; intro w9 hO; simp only [List.set_cons_zero, List.set_cons_succ] at hO)
            refine tK hK ⟨(atVq hO), (atVq hO), (atVq hO), (top_hash (v := .slice a5 sn c5) Hgk.out (mem_cells hO (by repeat (first | exact List.Mem.head _ | refine List.Mem.tail _ ?_)))), (atCell (top_height (v := .slice a5 sn c5) Hgk.out (mem_cells hO (by repeat (first | exact List.Mem.head _ | refine List.Mem.tail _ ?_)))) (by simp [go_sem]))⟩ (fun hS => ?_); clear hK K
            refine wpAnyH_done (by kernel_rfl) ?_ _
          all_goals
            clear hS hE
            have hE := hO.tail.tail.tail
            clear hO
            go_wp2
            go_roundw
            case rel =>
              refine ⟨k + 1, a', ca', ac', cc', row 9 1 (.slice a5 sn c5) sn sub :: (m5 ++ mm), hlt, by first | rfl | simp, by rw [Hcd.out, List.length_append, Hsn.out], ?_⟩
              have q1 : ((cdN (nodeC e) u k) ++ sc).length = (cdN (nodeC e) u k).length + sn := by rw [List.length_append, Hsn.out]
              have q2 : (kdN (nodeC e) u k ++ [dirKid nm t' kk]).length = (kdN (nodeC e) u k).length + 1 := by simp
              rw [Hcd.out, Hkd.out]
              simp only [rowRK, q1, q2, Hct.out, Hkc.out, List.cons_append, List.append_assoc]
              exact hE
            case measure => simp [intOf] <;> omega
        · have hne : ((⟨jq.toArray⟩ : ByteArray) != ⟨#[]⟩) = true := by
            rw [bne, beq_toListBytes, ByteArray.toList_eq, ByteArray.toList_eq]
            simpa using hjq
          have hne2 : (jq == []) = false := by simpa using hjq
          have hne1 : ((⟨jq.toArray⟩ : ByteArray) == ⟨#[]⟩) = false := by rw [beq_toListBytes, ByteArray.toList_eq, ByteArray.toList_eq]; exact hne2
          have Hs0 := SL.hid (show ∀ w, (Instr.sliceAt 9 (.string ⟨xp.toArray⟩) (some (.int .i64 ((jq.length : Int) + 1))) none none).run Tryd.prog w = .ok (.string ⟨nm.toArray⟩) w from fun w => by
            have h := Hsl.out w
            rw [show fromP jq = jq.length + 1 from if_neg hjq] at h
            exact h)
          clear hjq
          go_wp2_with (first
            | go_skip
            | ((with_reducible (show Go.wpList _ _ _ (Go.Oper.mk _ (.build 80 _) _ _ _ _ :: _) _ _)); refine wpl_built (ps := #[]) rfl rfl rfl hb0 ?_)
            | ((with_reducible (show Go.wpList _ _ _ (Go.Oper.mk _ (.alloc 69) _ _ _ _ :: _) _ _)); refine wpl_allocN hE rfl rfl (n := 3) (by kernel_rfl) ?_; clear hE; intro b11 c11 w1 hq11 hE)
            | ((with_reducible (show Go.wpList _ _ _ (Go.Oper.mk _ (.store 69 _ _) _ _ _ _ :: _) _ _)); refine wpl_storeN hE 0 rfl rfl rfl rfl (xs := [.string ⟨xp.toArray⟩, .bool true, .string ⟨xb.toArray⟩]) rfl Tryd.sizeOf69 rfl (by simp [Value.oneCell']) hq11 ?_; clear hE hq11; intro w2 hE; simp only [List.set_cons_zero] at hE)
            | ((with_reducible (show Go.wpList _ _ _ (Go.Oper.mk _ (.alloc 80) _ _ _ _ :: _) _ _)); refine wpl_allocN hE rfl rfl (n := 37) (by kernel_rfl) ?_; clear hE; intro b12 c12 w1 hq12 hE)
            | ((with_reducible (show Go.wpList _ _ _ (Go.Oper.mk _ (.store 80 _ _) _ _ _ _ :: _) _ _)); refine wpl_storeN hE 0 rfl rfl rfl rfl (xs := tz) rfl Tryd.sizeOf80 Hz37.out Hz1.out hq12 ?_; clear hE hq12; intro w2 hE; simp only [List.set_cons_zero] at hE)
            | ((with_reducible (show Go.wpList _ _ _ (Go.Oper.mk _ (.load 4 _) _ _ _ _ :: _) _ _)); refine wpl_load1 hE 1 rfl rfl rfl rfl (by simp [go_sem]) rfl ?_)
            | ((with_reducible (show Go.wpList _ _ _ (Go.Oper.mk _ (.load 85 _) _ _ _ _ :: _) _ _)); refine wpl_ldF rfl rfl rfl (HTb.out _ _ sfx hE) ?_)
            | ((with_reducible (show Go.wpList _ _ _ (Go.Oper.mk _ (.load 37 _) _ _ _ _ :: _) _ _)); refine wpl_ldF rfl rfl rfl (HTr.out _ _ sfx hE) ?_)
            | ((with_reducible (show Go.wpList _ _ _ (Go.Oper.mk _ (.load 9 _) _ _ _ _ :: _) _ _)); refine wpl_load1 hE 1 rfl rfl rfl rfl (by simp [go_sem]) rfl ?_)
            | (go_at_call 27; refine (HX.out _ _ sfx hE).mono ?_; clear hE; rintro en w5 ⟨v, rfl, a5, c5, m5, rfl, hE0⟩; have hE := Ent.swap (a := row 9 1 (.slice a5 sn c5) sn sub :: m5) (b := [_, _, _, _, _, _]) hE0; clear hE0; simp only [List.cons_append, List.nil_append] at hE)
            | ((with_reducible (show Go.wpList _ _ _ (Go.Oper.mk _ (.store 80 _ _) _ _ _ _ :: _) _ _)); refine wpl_storeW hE 0 rfl rfl rfl (xs := topC kk (.slice a5 sn c5)) rfl rfl Tryd.sizeOf80 (Hl37.out _ _ _) (H1.out _ _ _) (by simpa using Hz37.out) ?_; clear hE; intro w9 hE; simp only [List.set_cons_zero] at hE)
            | ((with_reducible (show Go.wpList _ _ _ (Go.Oper.mk _ (.load 22 _) _ _ _ _ :: _) _ _)); refine wpl_run rfl (w' := w9) (v := .slice a5 sn c5) (by simp only [execOp, Act.eval]; simp [atCell (P := Tryd.prog) (t := 22) (top_slice Hgk.out (mem_cells hE (List.Mem.head _))) (by simp [go_sem])]) ?_)
            | ((with_reducible (show Go.wpList _ _ _ (Go.Oper.mk _ (.call { callee := .builtin .append, args := _, argTypes := _ }) _ _ _ _ :: _) _ _)); refine wpl_appendG hE 2 rfl rfl rfl rfl rfl Tryd.underlying22 info_text (by decide) (m := sn) (news := sub) (reads_row hE 6 rfl) (by rw [Hln.out, Nat.mul_one]) Hones.out (by omega) (by omega) ?_; clear hE; intro a' ca' w6 hE; simp only [List.set_cons_zero, List.set_cons_succ] at hE))
          have hO := hE.drew
          have hs0 := Hs0.out
          refine wp_region_held_drew (S := (fun w' => ((Instr.loadAt 9 (.pointer (some ⟨b11, 0, none⟩))).run Tryd.prog w' = .ok (.string ⟨xp.toArray⟩) w') ∧ ((Instr.loadAt 4 (.pointer (some ⟨b11, 1, none⟩))).run Tryd.prog w' = .ok (.bool true) w') ∧ ((Instr.loadAt 9 (.pointer (some ⟨b11, 2, none⟩))).run Tryd.prog w' = .ok (.string ⟨xb.toArray⟩) w') ∧ ((Instr.loadAt 46 (.pointer (some ⟨b12, 2, none⟩))).run Tryd.prog w' = .ok (.agg (bvals kk.hash).toArray) w') ∧ ((Instr.loadAt 5 (.pointer (some ⟨b12, 34, none⟩))).run Tryd.prog w' = .ok (.int .u8 kk.height.toNat) w'))) (by kernel_rfl) ⟨(atVq hO), (atVq hO), (atVq hO), (top_hash (v := .slice a5 sn c5) Hgk.out (mem_cells hO (by repeat (first | exact List.Mem.head _ | refine List.Mem.tail _ ?_)))), (atCell (top_height (v := .slice a5 sn c5) Hgk.out (mem_cells hO (by repeat (first | exact List.Mem.head _ | refine List.Mem.tail _ ?_)))) (by simp [go_sem]))⟩ (fun hS => ?_)
          refine tV 0 hS ?_; refine tV 2 hS ?_; refine tL 3 hS ?_; refine tV 4 hS ?_; refine tV 5 hS ?_; refine tV 6 hS ?_; refine tL 7 hS ?_; refine tV 8 hS ?_; refine tV 9 hS ?_; refine tL 10 hS ?_; refine tV 11 hS ?_; refine tV 12 hS ?_; refine tL 13 hS ?_; refine tV 14 hS ?_; refine tL 15 hS ?_; refine tV 16 hS ?_; refine tV 17 hS ?_; refine tV 18 hS ?_
          refine wpAnyH_ready (rs := [1, 19]) (by kernel_rfl) (by simp) ?_
          refine (AllReadyH.cons (o := ⟨some 51, .load 118 (.tmp 50), _, _, _, none⟩) rfl (fun K hK => ?_) (AllReadyH.cons (o := ⟨some 69, .buildSlice 118 1 #[(0, .tmp 68)], _, _, _, none⟩) rfl (fun K hK => ?_) AllReadyH.nil))
          focus
            (first | refine step_load1 hO 3 rfl rfl (by rfl) (by rfl) (by simp [go_sem]) rfl ?_ | refine step_load1 hO 4 rfl rfl (by rfl) (by rfl) (by simp [go_sem]) rfl ?_)
            refine tK hK ⟨(atVq hO), (atVq hO), (atVq hO), (top_hash (v := .slice a5 sn c5) Hgk.out (mem_cells hO (by repeat (first | exact List.Mem.head _ | refine List.Mem.tail _ ?_)))), (atCell (top_height (v := .slice a5 sn c5) Hgk.out (mem_cells hO (by repeat (first | exact List.Mem.head _ | refine List.Mem.tail _ ?_)))) (by simp [go_sem]))⟩ (fun hS => ?_); clear hK K
            refine tO 19 (fun K hK => ?_)
            (refine stp_build1 hO rfl (by rfl) (xs := dx) (by rfl) Tryd.underlying118 zs_rkid Tryd.sizeOf78 (by decide) (by decide) Hld.out ?_; clear hO; intro b19 w7 hO)
            refine tK hK ⟨(atVq hO), (atVq hO), (atVq hO), (top_hash (v := .slice a5 sn c5) Hgk.out (mem_cells hO (by repeat (first | exact List.Mem.head _ | refine List.Mem.tail _ ?_)))), (atCell (top_height (v := .slice a5 sn c5) Hgk.out (mem_cells hO (by repeat (first | exact List.Mem.head _ | refine List.Mem.tail _ ?_)))) (by simp [go_sem]))⟩ (fun hS => ?_); clear hK K
            refine tO 20 (fun K hK => ?_)
            (refine step_appendG hO 5 rfl rfl (by rfl) (by rfl) (by rfl) Tryd.underlying118 info_rkid (by decide) (m := 1) (news := dx) (reads_pt hO 0 rfl (off := 0) (fun j u hu => by rw [Nat.zero_add, List.getElem?_toArray]; exact hu)) (by rw [Hld.out]) Hod.out (by omega) (by omega) ?_; clear hO; intro ac' cc' w8 hO; simp only [List.set_cons_zero, List.set_cons_succ] at hO)
            refine tK hK ⟨(atVq hO), (atVq hO), (atVq hO), (top_hash (v := .slice a5 sn c5) Hgk.out (mem_cells hO (by repeat (first | exact List.Mem.head _ | refine List.Mem.tail _ ?_)))), (atCell (top_height (v := .slice a5 sn c5) Hgk.out (mem_cells hO (by repeat (first | exact List.Mem.head _ | refine List.Mem.tail _ ?_)))) (by simp [go_sem]))⟩ (fun hS => ?_); clear hK K
            refine tV 21 hS ?_
            refine tO 22 (fun K hK => ?_)
            (refine stp_setC hO 4 rfl rfl (by rfl) (by rfl) (by rfl) Tryd.sizeOf118 rfl rfl (by simp) ?_; clear hO; intro w9 hO; simp only [List.set_cons_zero, List.set_cons_succ] at hO)
            refine tK hK ⟨(atVq hO), (atVq hO), (atVq hO), (top_hash (v := .slice a5 sn c5) Hgk.out (mem_cells hO (by repeat (first | exact List.Mem.head _ | refine List.Mem.tail _ ?_)))), (atCell (top_height (v := .slice a5 sn c5) Hgk.out (mem_cells hO (by repeat (first | exact List.Mem.head _ | refine List.Mem.tail _ ?_)))) (by simp [go_sem]))⟩ (fun hS => ?_); clear hK K
            refine wpAnyH_done (by kernel_rfl) ?_ _
          rotate_right
          focus
            (refine stp_build1 hO rfl (by rfl) (xs := dx) (by rfl) Tryd.underlying118 zs_rkid Tryd.sizeOf78 (by decide) (by decide) Hld.out ?_; clear hO; intro b19 w7 hO)
            refine tK hK ⟨(atVq hO), (atVq hO), (atVq hO), (top_hash (v := .slice a5 sn c5) Hgk.out (mem_cells hO (by repeat (first | exact List.Mem.head _ | refine List.Mem.tail _ ?_)))), (atCell (top_height (v := .slice a5 sn c5) Hgk.out (mem_cells hO (by repeat (first | exact List.Mem.head _ | refine List.Mem.tail _ ?_)))) (by simp [go_sem]))⟩ (fun hS => ?_); clear hK K
            refine tO 1 (fun K hK => ?_)
            (first | refine step_load1 hO 3 rfl rfl (by rfl) (by rfl) (by simp [go_sem]) rfl ?_ | refine step_load1 hO 4 rfl rfl (by rfl) (by rfl) (by simp [go_sem]) rfl ?_)
            refine tK hK ⟨(atVq hO), (atVq hO), (atVq hO), (top_hash (v := .slice a5 sn c5) Hgk.out (mem_cells hO (by repeat (first | exact List.Mem.head _ | refine List.Mem.tail _ ?_)))), (atCell (top_height (v := .slice a5 sn c5) Hgk.out (mem_cells hO (by repeat (first | exact List.Mem.head _ | refine List.Mem.tail _ ?_)))) (by simp [go_sem]))⟩ (fun hS => ?_); clear hK K
            refine tO 20 (fun K hK => ?_)
            (refine step_appendG hO 5 rfl rfl (by rfl) (by rfl) (by rfl) Tryd.underlying118 info_rkid (by decide) (m := 1) (news := dx) (reads_pt hO 0 rfl (off := 0) (fun j u hu => by rw [Nat.zero_add, List.getElem?_toArray]; exact hu)) (by rw [Hld.out]) Hod.out (by omega) (by omega) ?_; clear hO; intro ac' cc' w8 hO; simp only [List.set_cons_zero, List.set_cons_succ] at hO)
            refine tK hK ⟨(atVq hO), (atVq hO), (atVq hO), (top_hash (v := .slice a5 sn c5) Hgk.out (mem_cells hO (by repeat (first | exact List.Mem.head _ | refine List.Mem.tail _ ?_)))), (atCell (top_height (v := .slice a5 sn c5) Hgk.out (mem_cells hO (by repeat (first | exact List.Mem.head _ | refine List.Mem.tail _ ?_)))) (by simp [go_sem]))⟩ (fun hS => ?_); clear hK K
            refine tV 21 hS ?_
            refine tO 22 (fun K hK => ?_)
            (refine stp_setC hO 4 rfl rfl (by rfl) (by rfl) (by rfl) Tryd.sizeOf118 rfl rfl (by simp) ?_; clear hO; intro w9 hO; simp only [List.set_cons_zero, List.set_cons_succ] at hO)
            refine tK hK ⟨(atVq hO), (atVq hO), (atVq hO), (top_hash (v := .slice a5 sn c5) Hgk.out (mem_cells hO (by repeat (first | exact List.Mem.head _ | refine List.Mem.tail _ ?_)))), (atCell (top_height (v := .slice a5 sn c5) Hgk.out (mem_cells hO (by repeat (first | exact List.Mem.head _ | refine List.Mem.tail _ ?_)))) (by simp [go_sem]))⟩ (fun hS => ?_); clear hK K
            refine wpAnyH_done (by kernel_rfl) ?_ _
          all_goals
            clear hS hE
            have hE := hO.tail.tail.tail
            clear hO
            go_wp2
            go_roundw
            case rel =>
              refine ⟨k + 1, a', ca', ac', cc', row 9 1 (.slice a5 sn c5) sn sub :: (m5 ++ mm), hlt, by first | rfl | simp, by rw [Hcd.out, List.length_append, Hsn.out], ?_⟩
              have q1 : ((cdN (nodeC e) u k) ++ sc).length = (cdN (nodeC e) u k).length + sn := by rw [List.length_append, Hsn.out]
              have q2 : (kdN (nodeC e) u k ++ [dirKid nm t' kk]).length = (kdN (nodeC e) u k).length + 1 := by simp
              rw [Hcd.out, Hkd.out]
              simp only [rowRK, q1, q2, Hct.out, Hkc.out, List.cons_append, List.append_assoc]
              exact hE
            case measure => simp [intOf] <;> omega
      | false =>
        have HX := SL.hid (HF.out hxd)
        rw [hxd] at f1 Hb5
        have hb5 := Hb5.out
        clear HD HF
        by_cases hjq : jq = []
        · have hne : ((⟨jq.toArray⟩ : ByteArray) != ⟨#[]⟩) = false := by rw [bne, beq_toListBytes, ByteArray.toList_eq, ByteArray.toList_eq, hjq]; rfl
          have hne1 : ((⟨jq.toArray⟩ : ByteArray) == ⟨#[]⟩) = true := by rw [beq_toListBytes, ByteArray.toList_eq, ByteArray.toList_eq, hjq]; rfl
          have hne2 : (jq == []) = true := by rw [hjq]; rfl
          have hs0 : ∀ w, (Instr.sliceAt 9 (.string ⟨xp.toArray⟩) (some (.int .i64 0)) none none).run Tryd.prog w = .ok (.string ⟨nm.toArray⟩) w := fun w => by
            have h := Hsl.out w
            rw [show fromP jq = 0 from if_pos hjq] at h
            exact h
          clear hjq
          go_wp2_with (first
            | go_skip
            | ((with_reducible (show Go.wpList _ _ _ (Go.Oper.mk _ (.build 80 _) _ _ _ _ :: _) _ _)); refine wpl_built (ps := #[]) rfl rfl rfl hb0 ?_)
            | ((with_reducible (show Go.wpList _ _ _ (Go.Oper.mk _ (.alloc 69) _ _ _ _ :: _) _ _)); refine wpl_allocN hE rfl rfl (n := 3) (by kernel_rfl) ?_; clear hE; intro b11 c11 w1 hq11 hE)
            | ((with_reducible (show Go.wpList _ _ _ (Go.Oper.mk _ (.store 69 _ _) _ _ _ _ :: _) _ _)); refine wpl_storeN hE 0 rfl rfl rfl rfl (xs := [.string ⟨xp.toArray⟩, .bool false, .string ⟨xb.toArray⟩]) rfl Tryd.sizeOf69 rfl (by simp [Value.oneCell']) hq11 ?_; clear hE hq11; intro w2 hE; simp only [List.set_cons_zero] at hE)
            | ((with_reducible (show Go.wpList _ _ _ (Go.Oper.mk _ (.alloc 80) _ _ _ _ :: _) _ _)); refine wpl_allocN hE rfl rfl (n := 37) (by kernel_rfl) ?_; clear hE; intro b12 c12 w1 hq12 hE)
            | ((with_reducible (show Go.wpList _ _ _ (Go.Oper.mk _ (.store 80 _ _) _ _ _ _ :: _) _ _)); refine wpl_storeN hE 0 rfl rfl rfl rfl (xs := tz) rfl Tryd.sizeOf80 Hz37.out Hz1.out hq12 ?_; clear hE hq12; intro w2 hE; simp only [List.set_cons_zero] at hE)
            | ((with_reducible (show Go.wpList _ _ _ (Go.Oper.mk _ (.load 4 _) _ _ _ _ :: _) _ _)); refine wpl_load1 hE 1 rfl rfl rfl rfl (by simp [go_sem]) rfl ?_)
            | ((with_reducible (show Go.wpList _ _ _ (Go.Oper.mk _ (.load 85 _) _ _ _ _ :: _) _ _)); refine wpl_ldF rfl rfl rfl (HTb.out _ _ sfx hE) ?_)
            | ((with_reducible (show Go.wpList _ _ _ (Go.Oper.mk _ (.load 37 _) _ _ _ _ :: _) _ _)); refine wpl_ldF rfl rfl rfl (HTr.out _ _ sfx hE) ?_)
            | ((with_reducible (show Go.wpList _ _ _ (Go.Oper.mk _ (.load 9 _) _ _ _ _ :: _) _ _)); refine wpl_load1 hE 1 rfl rfl rfl rfl (by simp [go_sem]) rfl ?_)
            | (go_at_call 56; refine (HX.out _ _ sfx hE).mono ?_; clear hE; rintro en w5 ⟨v, rfl, a5, c5, m5, rfl, hE0⟩; have hE := Ent.swap (a := row 9 1 (.slice a5 sn c5) sn sub :: m5) (b := [_, _, _, _, _, _]) hE0; clear hE0; simp only [List.cons_append, List.nil_append] at hE)
            | ((with_reducible (show Go.wpList _ _ _ (Go.Oper.mk _ (.store 80 _ _) _ _ _ _ :: _) _ _)); refine wpl_storeW hE 0 rfl rfl rfl (xs := topC kk (.slice a5 sn c5)) rfl rfl Tryd.sizeOf80 (Hl37.out _ _ _) (H1.out _ _ _) (by simpa using Hz37.out) ?_; clear hE; intro w9 hE; simp only [List.set_cons_zero] at hE)
            | ((with_reducible (show Go.wpList _ _ _ (Go.Oper.mk _ (.load 22 _) _ _ _ _ :: _) _ _)); refine wpl_run rfl (w' := w9) (v := .slice a5 sn c5) (by simp only [execOp, Act.eval]; simp [atCell (P := Tryd.prog) (t := 22) (top_slice Hgk.out (mem_cells hE (List.Mem.head _))) (by simp [go_sem])]) ?_)
            | ((with_reducible (show Go.wpList _ _ _ (Go.Oper.mk _ (.call { callee := .builtin .append, args := _, argTypes := _ }) _ _ _ _ :: _) _ _)); refine wpl_appendG hE 2 rfl rfl rfl rfl rfl Tryd.underlying22 info_text (by decide) (m := sn) (news := sub) (reads_row hE 6 rfl) (by rw [Hln.out, Nat.mul_one]) Hones.out (by omega) (by omega) ?_; clear hE; intro a' ca' w6 hE; simp only [List.set_cons_zero, List.set_cons_succ] at hE))
          have hO := hE.drew
          refine wp_region_held_drew (S := (fun w' => ((Instr.loadAt 9 (.pointer (some ⟨b11, 0, none⟩))).run Tryd.prog w' = .ok (.string ⟨xp.toArray⟩) w') ∧ ((Instr.loadAt 4 (.pointer (some ⟨b11, 1, none⟩))).run Tryd.prog w' = .ok (.bool false) w') ∧ ((Instr.loadAt 9 (.pointer (some ⟨b11, 2, none⟩))).run Tryd.prog w' = .ok (.string ⟨xb.toArray⟩) w') ∧ ((Instr.loadAt 46 (.pointer (some ⟨b12, 2, none⟩))).run Tryd.prog w' = .ok (.agg (bvals kk.hash).toArray) w') ∧ ((Instr.loadAt 5 (.pointer (some ⟨b12, 34, none⟩))).run Tryd.prog w' = .ok (.int .u8 kk.height.toNat) w'))) (by kernel_rfl) ⟨(atVq hO), (atVq hO), (atVq hO), (top_hash (v := .slice a5 sn c5) Hgk.out (mem_cells hO (by repeat (first | exact List.Mem.head _ | refine List.Mem.tail _ ?_)))), (atCell (top_height (v := .slice a5 sn c5) Hgk.out (mem_cells hO (by repeat (first | exact List.Mem.head _ | refine List.Mem.tail _ ?_)))) (by simp [go_sem]))⟩ (fun hS => ?_)
          refine tV 0 hS ?_; refine tV 2 hS ?_; refine tL 3 hS ?_; refine tV 4 hS ?_; refine tV 5 hS ?_; refine tV 6 hS ?_; refine tL 7 hS ?_; refine tV 8 hS ?_; refine tV 9 hS ?_; refine tL 10 hS ?_; refine tV 11 hS ?_; refine tV 12 hS ?_; refine tL 13 hS ?_; refine tV 14 hS ?_; refine tL 15 hS ?_; refine tV 16 hS ?_; refine tV 17 hS ?_; refine tV 18 hS ?_
          refine wpAnyH_ready (rs := [1, 19]) (by kernel_rfl) (by simp) ?_
          refine (AllReadyH.cons (o := ⟨some 51, .load 118 (.tmp 50), _, _, _, none⟩) rfl (fun K hK => ?_) (AllReadyH.cons (o := ⟨some 69, .buildSlice 118 1 #[(0, .tmp 68)], _, _, _, none⟩) rfl (fun K hK => ?_) AllReadyH.nil))
          focus
            (first | refine step_load1 hO 3 rfl rfl (by rfl) (by rfl) (by simp [go_sem]) rfl ?_ | refine step_load1 hO 4 rfl rfl (by rfl) (by rfl) (by simp [go_sem]) rfl ?_)
            refine tK hK ⟨(atVq hO), (atVq hO), (atVq hO), (top_hash (v := .slice a5 sn c5) Hgk.out (mem_cells hO (by repeat (first | exact List.Mem.head _ | refine List.Mem.tail _ ?_)))), (atCell (top_height (v := .slice a5 sn c5) Hgk.out (mem_cells hO (by repeat (first | exact List.Mem.head _ | refine List.Mem.tail _ ?_)))) (by simp [go_sem]))⟩ (fun hS => ?_); clear hK K
            refine tO 19 (fun K hK => ?_)
            (refine stp_build1 hO rfl (by rfl) (xs := dx) (by rfl) Tryd.underlying118 zs_rkid Tryd.sizeOf78 (by decide) (by decide) Hld.out ?_; clear hO; intro b19 w7 hO)
            refine tK hK ⟨(atVq hO), (atVq hO), (atVq hO), (top_hash (v := .slice a5 sn c5) Hgk.out (mem_cells hO (by repeat (first | exact List.Mem.head _ | refine List.Mem.tail _ ?_)))), (atCell (top_height (v := .slice a5 sn c5) Hgk.out (mem_cells hO (by repeat (first | exact List.Mem.head _ | refine List.Mem.tail _ ?_)))) (by simp [go_sem]))⟩ (fun hS => ?_); clear hK K
            refine tO 20 (fun K hK => ?_)
            (refine step_appendG hO 5 rfl rfl (by rfl) (by rfl) (by rfl) Tryd.underlying118 info_rkid (by decide) (m := 1) (news := dx) (reads_pt hO 0 rfl (off := 0) (fun j u hu => by rw [Nat.zero_add, List.getElem?_toArray]; exact hu)) (by rw [Hld.out]) Hod.out (by omega) (by omega) ?_; clear hO; intro ac' cc' w8 hO; simp only [List.set_cons_zero, List.set_cons_succ] at hO)
            refine tK hK ⟨(atVq hO), (atVq hO), (atVq hO), (top_hash (v := .slice a5 sn c5) Hgk.out (mem_cells hO (by repeat (first | exact List.Mem.head _ | refine List.Mem.tail _ ?_)))), (atCell (top_height (v := .slice a5 sn c5) Hgk.out (mem_cells hO (by repeat (first | exact List.Mem.head _ | refine List.Mem.tail _ ?_)))) (by simp [go_sem]))⟩ (fun hS => ?_); clear hK K
            refine tV 21 hS ?_
            refine tO 22 (fun K hK => ?_)
            (refine stp_setC hO 4 rfl rfl (by rfl) (by rfl) (by rfl) Tryd.sizeOf118 rfl rfl (by simp) ?_; clear hO; intro w9 hO; simp only [List.set_cons_zero, List.set_cons_succ] at hO)
            refine tK hK ⟨(atVq hO), (atVq hO), (atVq hO), (top_hash (v := .slice a5 sn c5) Hgk.out (mem_cells hO (by repeat (first | exact List.Mem.head _ | refine List.Mem.tail _ ?_)))), (atCell (top_height (v := .slice a5 sn c5) Hgk.out (mem_cells hO (by repeat (first | exact List.Mem.head _ | refine List.Mem.tail _ ?_)))) (by simp [go_sem]))⟩ (fun hS => ?_); clear hK K
            refine wpAnyH_done (by kernel_rfl) ?_ _
          rotate_right
          focus
            (refine stp_build1 hO rfl (by rfl) (xs := dx) (by rfl) Tryd.underlying118 zs_rkid Tryd.sizeOf78 (by decide) (by decide) Hld.out ?_; clear hO; intro b19 w7 hO)
            refine tK hK ⟨(atVq hO), (atVq hO), (atVq hO), (top_hash (v := .slice a5 sn c5) Hgk.out (mem_cells hO (by repeat (first | exact List.Mem.head _ | refine List.Mem.tail _ ?_)))), (atCell (top_height (v := .slice a5 sn c5) Hgk.out (mem_cells hO (by repeat (first | exact List.Mem.head _ | refine List.Mem.tail _ ?_)))) (by simp [go_sem]))⟩ (fun hS => ?_); clear hK K
            refine tO 1 (fun K hK => ?_)
            (first | refine step_load1 hO 3 rfl rfl (by rfl) (by rfl) (by simp [go_sem]) rfl ?_ | refine step_load1 hO 4 rfl rfl (by rfl) (by rfl) (by simp [go_sem]) rfl ?_)
            refine tK hK ⟨(atVq hO), (atVq hO), (atVq hO), (top_hash (v := .slice a5 sn c5) Hgk.out (mem_cells hO (by repeat (first | exact List.Mem.head _ | refine List.Mem.tail _ ?_)))), (atCell (top_height (v := .slice a5 sn c5) Hgk.out (mem_cells hO (by repeat (first | exact List.Mem.head _ | refine List.Mem.tail _ ?_)))) (by simp [go_sem]))⟩ (fun hS => ?_); clear hK K
            refine tO 20 (fun K hK => ?_)
            (refine step_appendG hO 5 rfl rfl (by rfl) (by rfl) (by rfl) Tryd.underlying118 info_rkid (by decide) (m := 1) (news := dx) (reads_pt hO 0 rfl (off := 0) (fun j u hu => by rw [Nat.zero_add, List.getElem?_toArray]; exact hu)) (by rw [Hld.out]) Hod.out (by omega) (by omega) ?_; clear hO; intro ac' cc' w8 hO; simp only [List.set_cons_zero, List.set_cons_succ] at hO)
            refine tK hK ⟨(atVq hO), (atVq hO), (atVq hO), (top_hash (v := .slice a5 sn c5) Hgk.out (mem_cells hO (by repeat (first | exact List.Mem.head _ | refine List.Mem.tail _ ?_)))), (atCell (top_height (v := .slice a5 sn c5) Hgk.out (mem_cells hO (by repeat (first | exact List.Mem.head _ | refine List.Mem.tail _ ?_)))) (by simp [go_sem]))⟩ (fun hS => ?_); clear hK K
            refine tV 21 hS ?_
            refine tO 22 (fun K hK => ?_)
            (refine stp_setC hO 4 rfl rfl (by rfl) (by rfl) (by rfl) Tryd.sizeOf118 rfl rfl (by simp) ?_; clear hO; intro w9 hO; simp only [List.set_cons_zero, List.set_cons_succ] at hO)
            refine tK hK ⟨(atVq hO), (atVq hO), (atVq hO), (top_hash (v := .slice a5 sn c5) Hgk.out (mem_cells hO (by repeat (first | exact List.Mem.head _ | refine List.Mem.tail _ ?_)))), (atCell (top_height (v := .slice a5 sn c5) Hgk.out (mem_cells hO (by repeat (first | exact List.Mem.head _ | refine List.Mem.tail _ ?_)))) (by simp [go_sem]))⟩ (fun hS => ?_); clear hK K
            refine wpAnyH_done (by kernel_rfl) ?_ _
          all_goals
            clear hS hE
            have hE := hO.tail.tail.tail
            clear hO
            go_wp2
            go_roundw
            case rel =>
              refine ⟨k + 1, a', ca', ac', cc', row 9 1 (.slice a5 sn c5) sn sub :: (m5 ++ mm), hlt, by first | rfl | simp, by rw [Hcd.out, List.length_append, Hsn.out], ?_⟩
              have q1 : ((cdN (nodeC e) u k) ++ sc).length = (cdN (nodeC e) u k).length + sn := by rw [List.length_append, Hsn.out]
              have q2 : (kdN (nodeC e) u k ++ [dirKid nm t' kk]).length = (kdN (nodeC e) u k).length + 1 := by simp
              rw [Hcd.out, Hkd.out]
              simp only [rowRK, q1, q2, Hct.out, Hkc.out, List.cons_append, List.append_assoc]
              exact hE
            case measure => simp [intOf] <;> omega
        · have hne : ((⟨jq.toArray⟩ : ByteArray) != ⟨#[]⟩) = true := by
            rw [bne, beq_toListBytes, ByteArray.toList_eq, ByteArray.toList_eq]
            simpa using hjq
          have hne2 : (jq == []) = false := by simpa using hjq
          have hne1 : ((⟨jq.toArray⟩ : ByteArray) == ⟨#[]⟩) = false := by rw [beq_toListBytes, ByteArray.toList_eq, ByteArray.toList_eq]; exact hne2
          have Hs0 := SL.hid (show ∀ w, (Instr.sliceAt 9 (.string ⟨xp.toArray⟩) (some (.int .i64 ((jq.length : Int) + 1))) none none).run Tryd.prog w = .ok (.string ⟨nm.toArray⟩) w from fun w => by
            have h := Hsl.out w
            rw [show fromP jq = jq.length + 1 from if_neg hjq] at h
            exact h)
          clear hjq
          go_wp2_with (first
            | go_skip
            | ((with_reducible (show Go.wpList _ _ _ (Go.Oper.mk _ (.build 80 _) _ _ _ _ :: _) _ _)); refine wpl_built (ps := #[]) rfl rfl rfl hb0 ?_)
            | ((with_reducible (show Go.wpList _ _ _ (Go.Oper.mk _ (.alloc 69) _ _ _ _ :: _) _ _)); refine wpl_allocN hE rfl rfl (n := 3) (by kernel_rfl) ?_; clear hE; intro b11 c11 w1 hq11 hE)
            | ((with_reducible (show Go.wpList _ _ _ (Go.Oper.mk _ (.store 69 _ _) _ _ _ _ :: _) _ _)); refine wpl_storeN hE 0 rfl rfl rfl rfl (xs := [.string ⟨xp.toArray⟩, .bool false, .string ⟨xb.toArray⟩]) rfl Tryd.sizeOf69 rfl (by simp [Value.oneCell']) hq11 ?_; clear hE hq11; intro w2 hE; simp only [List.set_cons_zero] at hE)
            | ((with_reducible (show Go.wpList _ _ _ (Go.Oper.mk _ (.alloc 80) _ _ _ _ :: _) _ _)); refine wpl_allocN hE rfl rfl (n := 37) (by kernel_rfl) ?_; clear hE; intro b12 c12 w1 hq12 hE)
            | ((with_reducible (show Go.wpList _ _ _ (Go.Oper.mk _ (.store 80 _ _) _ _ _ _ :: _) _ _)); refine wpl_storeN hE 0 rfl rfl rfl rfl (xs := tz) rfl Tryd.sizeOf80 Hz37.out Hz1.out hq12 ?_; clear hE hq12; intro w2 hE; simp only [List.set_cons_zero] at hE)
            | ((with_reducible (show Go.wpList _ _ _ (Go.Oper.mk _ (.load 4 _) _ _ _ _ :: _) _ _)); refine wpl_load1 hE 1 rfl rfl rfl rfl (by simp [go_sem]) rfl ?_)
            | ((with_reducible (show Go.wpList _ _ _ (Go.Oper.mk _ (.load 85 _) _ _ _ _ :: _) _ _)); refine wpl_ldF rfl rfl rfl (HTb.out _ _ sfx hE) ?_)
            | ((with_reducible (show Go.wpList _ _ _ (Go.Oper.mk _ (.load 37 _) _ _ _ _ :: _) _ _)); refine wpl_ldF rfl rfl rfl (HTr.out _ _ sfx hE) ?_)
            | ((with_reducible (show Go.wpList _ _ _ (Go.Oper.mk _ (.load 9 _) _ _ _ _ :: _) _ _)); refine wpl_load1 hE 1 rfl rfl rfl rfl (by simp [go_sem]) rfl ?_)
            | (go_at_call 56; refine (HX.out _ _ sfx hE).mono ?_; clear hE; rintro en w5 ⟨v, rfl, a5, c5, m5, rfl, hE0⟩; have hE := Ent.swap (a := row 9 1 (.slice a5 sn c5) sn sub :: m5) (b := [_, _, _, _, _, _]) hE0; clear hE0; simp only [List.cons_append, List.nil_append] at hE)
            | ((with_reducible (show Go.wpList _ _ _ (Go.Oper.mk _ (.store 80 _ _) _ _ _ _ :: _) _ _)); refine wpl_storeW hE 0 rfl rfl rfl (xs := topC kk (.slice a5 sn c5)) rfl rfl Tryd.sizeOf80 (Hl37.out _ _ _) (H1.out _ _ _) (by simpa using Hz37.out) ?_; clear hE; intro w9 hE; simp only [List.set_cons_zero] at hE)
            | ((with_reducible (show Go.wpList _ _ _ (Go.Oper.mk _ (.load 22 _) _ _ _ _ :: _) _ _)); refine wpl_run rfl (w' := w9) (v := .slice a5 sn c5) (by simp only [execOp, Act.eval]; simp [atCell (P := Tryd.prog) (t := 22) (top_slice Hgk.out (mem_cells hE (List.Mem.head _))) (by simp [go_sem])]) ?_)
            | ((with_reducible (show Go.wpList _ _ _ (Go.Oper.mk _ (.call { callee := .builtin .append, args := _, argTypes := _ }) _ _ _ _ :: _) _ _)); refine wpl_appendG hE 2 rfl rfl rfl rfl rfl Tryd.underlying22 info_text (by decide) (m := sn) (news := sub) (reads_row hE 6 rfl) (by rw [Hln.out, Nat.mul_one]) Hones.out (by omega) (by omega) ?_; clear hE; intro a' ca' w6 hE; simp only [List.set_cons_zero, List.set_cons_succ] at hE))
          have hO := hE.drew
          have hs0 := Hs0.out
          refine wp_region_held_drew (S := (fun w' => ((Instr.loadAt 9 (.pointer (some ⟨b11, 0, none⟩))).run Tryd.prog w' = .ok (.string ⟨xp.toArray⟩) w') ∧ ((Instr.loadAt 4 (.pointer (some ⟨b11, 1, none⟩))).run Tryd.prog w' = .ok (.bool false) w') ∧ ((Instr.loadAt 9 (.pointer (some ⟨b11, 2, none⟩))).run Tryd.prog w' = .ok (.string ⟨xb.toArray⟩) w') ∧ ((Instr.loadAt 46 (.pointer (some ⟨b12, 2, none⟩))).run Tryd.prog w' = .ok (.agg (bvals kk.hash).toArray) w') ∧ ((Instr.loadAt 5 (.pointer (some ⟨b12, 34, none⟩))).run Tryd.prog w' = .ok (.int .u8 kk.height.toNat) w'))) (by kernel_rfl) ⟨(atVq hO), (atVq hO), (atVq hO), (top_hash (v := .slice a5 sn c5) Hgk.out (mem_cells hO (by repeat (first | exact List.Mem.head _ | refine List.Mem.tail _ ?_)))), (atCell (top_height (v := .slice a5 sn c5) Hgk.out (mem_cells hO (by repeat (first | exact List.Mem.head _ | refine List.Mem.tail _ ?_)))) (by simp [go_sem]))⟩ (fun hS => ?_)
          refine tV 0 hS ?_; refine tV 2 hS ?_; refine tL 3 hS ?_; refine tV 4 hS ?_; refine tV 5 hS ?_; refine tV 6 hS ?_; refine tL 7 hS ?_; refine tV 8 hS ?_; refine tV 9 hS ?_; refine tL 10 hS ?_; refine tV 11 hS ?_; refine tV 12 hS ?_; refine tL 13 hS ?_; refine tV 14 hS ?_; refine tL 15 hS ?_; refine tV 16 hS ?_; refine tV 17 hS ?_; refine tV 18 hS ?_
          refine wpAnyH_ready (rs := [1, 19]) (by kernel_rfl) (by simp) ?_
          refine (AllReadyH.cons (o := ⟨some 51, .load 118 (.tmp 50), _, _, _, none⟩) rfl (fun K hK => ?_) (AllReadyH.cons (o := ⟨some 69, .buildSlice 118 1 #[(0, .tmp 68)], _, _, _, none⟩) rfl (fun K hK => ?_) AllReadyH.nil))
          focus
            (first | refine step_load1 hO 3 rfl rfl (by rfl) (by rfl) (by simp [go_sem]) rfl ?_ | refine step_load1 hO 4 rfl rfl (by rfl) (by rfl) (by simp [go_sem]) rfl ?_)
            refine tK hK ⟨(atVq hO), (atVq hO), (atVq hO), (top_hash (v := .slice a5 sn c5) Hgk.out (mem_cells hO (by repeat (first | exact List.Mem.head _ | refine List.Mem.tail _ ?_)))), (atCell (top_height (v := .slice a5 sn c5) Hgk.out (mem_cells hO (by repeat (first | exact List.Mem.head _ | refine List.Mem.tail _ ?_)))) (by simp [go_sem]))⟩ (fun hS => ?_); clear hK K
            refine tO 19 (fun K hK => ?_)
            (refine stp_build1 hO rfl (by rfl) (xs := dx) (by rfl) Tryd.underlying118 zs_rkid Tryd.sizeOf78 (by decide) (by decide) Hld.out ?_; clear hO; intro b19 w7 hO)
            refine tK hK ⟨(atVq hO), (atVq hO), (atVq hO), (top_hash (v := .slice a5 sn c5) Hgk.out (mem_cells hO (by repeat (first | exact List.Mem.head _ | refine List.Mem.tail _ ?_)))), (atCell (top_height (v := .slice a5 sn c5) Hgk.out (mem_cells hO (by repeat (first | exact List.Mem.head _ | refine List.Mem.tail _ ?_)))) (by simp [go_sem]))⟩ (fun hS => ?_); clear hK K
            refine tO 20 (fun K hK => ?_)
            (refine step_appendG hO 5 rfl rfl (by rfl) (by rfl) (by rfl) Tryd.underlying118 info_rkid (by decide) (m := 1) (news := dx) (reads_pt hO 0 rfl (off := 0) (fun j u hu => by rw [Nat.zero_add, List.getElem?_toArray]; exact hu)) (by rw [Hld.out]) Hod.out (by omega) (by omega) ?_; clear hO; intro ac' cc' w8 hO; simp only [List.set_cons_zero, List.set_cons_succ] at hO)
            refine tK hK ⟨(atVq hO), (atVq hO), (atVq hO), (top_hash (v := .slice a5 sn c5) Hgk.out (mem_cells hO (by repeat (first | exact List.Mem.head _ | refine List.Mem.tail _ ?_)))), (atCell (top_height (v := .slice a5 sn c5) Hgk.out (mem_cells hO (by repeat (first | exact List.Mem.head _ | refine List.Mem.tail _ ?_)))) (by simp [go_sem]))⟩ (fun hS => ?_); clear hK K
            refine tV 21 hS ?_
            refine tO 22 (fun K hK => ?_)
            (refine stp_setC hO 4 rfl rfl (by rfl) (by rfl) (by rfl) Tryd.sizeOf118 rfl rfl (by simp) ?_; clear hO; intro w9 hO; simp only [List.set_cons_zero, List.set_cons_succ] at hO)
            refine tK hK ⟨(atVq hO), (atVq hO), (atVq hO), (top_hash (v := .slice a5 sn c5) Hgk.out (mem_cells hO (by repeat (first | exact List.Mem.head _ | refine List.Mem.tail _ ?_)))), (atCell (top_height (v := .slice a5 sn c5) Hgk.out (mem_cells hO (by repeat (first | exact List.Mem.head _ | refine List.Mem.tail _ ?_)))) (by simp [go_sem]))⟩ (fun hS => ?_); clear hK K
            refine wpAnyH_done (by kernel_rfl) ?_ _
          rotate_right
          focus
            (refine stp_build1 hO rfl (by rfl) (xs := dx) (by rfl) Tryd.underlying118 zs_rkid Tryd.sizeOf78 (by decide) (by decide) Hld.out ?_; clear hO; intro b19 w7 hO)
            refine tK hK ⟨(atVq hO), (atVq hO), (atVq hO), (top_hash (v := .slice a5 sn c5) Hgk.out (mem_cells hO (by repeat (first | exact List.Mem.head _ | refine List.Mem.tail _ ?_)))), (atCell (top_height (v := .slice a5 sn c5) Hgk.out (mem_cells hO (by repeat (first | exact List.Mem.head _ | refine List.Mem.tail _ ?_)))) (by simp [go_sem]))⟩ (fun hS => ?_); clear hK K
            refine tO 1 (fun K hK => ?_)
            (first | refine step_load1 hO 3 rfl rfl (by rfl) (by rfl) (by simp [go_sem]) rfl ?_ | refine step_load1 hO 4 rfl rfl (by rfl) (by rfl) (by simp [go_sem]) rfl ?_)
            refine tK hK ⟨(atVq hO), (atVq hO), (atVq hO), (top_hash (v := .slice a5 sn c5) Hgk.out (mem_cells hO (by repeat (first | exact List.Mem.head _ | refine List.Mem.tail _ ?_)))), (atCell (top_height (v := .slice a5 sn c5) Hgk.out (mem_cells hO (by repeat (first | exact List.Mem.head _ | refine List.Mem.tail _ ?_)))) (by simp [go_sem]))⟩ (fun hS => ?_); clear hK K
            refine tO 20 (fun K hK => ?_)
            (refine step_appendG hO 5 rfl rfl (by rfl) (by rfl) (by rfl) Tryd.underlying118 info_rkid (by decide) (m := 1) (news := dx) (reads_pt hO 0 rfl (off := 0) (fun j u hu => by rw [Nat.zero_add, List.getElem?_toArray]; exact hu)) (by rw [Hld.out]) Hod.out (by omega) (by omega) ?_; clear hO; intro ac' cc' w8 hO; simp only [List.set_cons_zero, List.set_cons_succ] at hO)
            refine tK hK ⟨(atVq hO), (atVq hO), (atVq hO), (top_hash (v := .slice a5 sn c5) Hgk.out (mem_cells hO (by repeat (first | exact List.Mem.head _ | refine List.Mem.tail _ ?_)))), (atCell (top_height (v := .slice a5 sn c5) Hgk.out (mem_cells hO (by repeat (first | exact List.Mem.head _ | refine List.Mem.tail _ ?_)))) (by simp [go_sem]))⟩ (fun hS => ?_); clear hK K
            refine tV 21 hS ?_
            refine tO 22 (fun K hK => ?_)
            (refine stp_setC hO 4 rfl rfl (by rfl) (by rfl) (by rfl) Tryd.sizeOf118 rfl rfl (by simp) ?_; clear hO; intro w9 hO; simp only [List.set_cons_zero, List.set_cons_succ] at hO)
            refine tK hK ⟨(atVq hO), (atVq hO), (atVq hO), (top_hash (v := .slice a5 sn c5) Hgk.out (mem_cells hO (by repeat (first | exact List.Mem.head _ | refine List.Mem.tail _ ?_)))), (atCell (top_height (v := .slice a5 sn c5) Hgk.out (mem_cells hO (by repeat (first | exact List.Mem.head _ | refine List.Mem.tail _ ?_)))) (by simp [go_sem]))⟩ (fun hS => ?_); clear hK K
            refine wpAnyH_done (by kernel_rfl) ?_ _
          all_goals
            clear hS hE
            have hE := hO.tail.tail.tail
            clear hO
            go_wp2
            go_roundw
            case rel =>
              refine ⟨k + 1, a', ca', ac', cc', row 9 1 (.slice a5 sn c5) sn sub :: (m5 ++ mm), hlt, by first | rfl | simp, by rw [Hcd.out, List.length_append, Hsn.out], ?_⟩
              have q1 : ((cdN (nodeC e) u k) ++ sc).length = (cdN (nodeC e) u k).length + sn := by rw [List.length_append, Hsn.out]
              have q2 : (kdN (nodeC e) u k ++ [dirKid nm t' kk]).length = (kdN (nodeC e) u k).length + 1 := by simp
              rw [Hcd.out, Hkd.out]
              simp only [rowRK, q1, q2, Hct.out, Hkc.out, List.cons_append, List.append_assoc]
              exact hE
            case measure => simp [intOf] <;> omega
    · obtain rfl : k = S.length := by omega
      have hE1 : Ent ([row 9 1 (.slice a (cdN (nodeC e) u u.kids.length).length ca) (cdN (nodeC e) u u.kids.length).length ((cdN (nodeC e) u u.kids.length).map txB), pt b8 (.cells #[.int .u8 3, .string ⟨#[]⟩, .slice ac (kdN (nodeC e) u u.kids.length).length cc] 120), rowRK ac cc (kdN (nodeC e) u u.kids.length), rowEn aS cS S] ++ (mm ++ R)) wr := by
        rw [← HSl.out]; exact hE
      rw [HR.out] at hE1
      have hE1b := Ent.swap hE1
      have hE2 := Ent.swap (a := mm) (b := [row 9 1 (.slice a (cdN (nodeC e) u u.kids.length).length ca) (cdN (nodeC e) u u.kids.length).length ((cdN (nodeC e) u u.kids.length).map txB), pt b8 (.cells #[.int .u8 3, .string ⟨#[]⟩, .slice ac (kdN (nodeC e) u u.kids.length).length cc] 120), rowRK ac cc (kdN (nodeC e) u u.kids.length), rowEn aS cS S, pt b6 (.cells cs.toArray 80 (0, 0)), pt b4 (.cells #[.slice ao L.length c] 37), pt b3 (.cells tl.toArray 85 (0, 0))]) (c := L') hE1b
      replace hE : Ent (row 9 1 (.slice a (cdN (nodeC e) u u.kids.length).length ca) (cdN (nodeC e) u u.kids.length).length ((cdN (nodeC e) u u.kids.length).map txB) :: pt b8 (.cells #[.int .u8 3, .string ⟨#[]⟩, .slice ac (kdN (nodeC e) u u.kids.length).length cc] 120) :: rowRK ac cc (kdN (nodeC e) u u.kids.length) :: rowEn aS cS S :: pt b6 (.cells cs.toArray 80 (0, 0)) :: pt b4 (.cells #[.slice ao L.length c] 37) :: pt b3 (.cells tl.toArray 85 (0, 0)) :: (mm ++ L')) wr := hE2
      have hol : (Value.slice a (cdN (nodeC e) u S.length).length ca) = .slice a (cdN (nodeC e) u u.kids.length).length ca := by rw [HSl.out]
      rw [hol]
      clear hE1 hE1b hE2 hol hlt HKD HKF Hcnt Hnm Hok
      have hgk := kidOf_good (c := ⟨3, [], kdN (nodeC e) u u.kids.length⟩) (by simp [csize])
      have Hgk := SL.hid hgk
      have hbt := run_built_top hgk
      have Hl37 := SL.hid (show ∀ v, (topC (kidOf ⟨3, [], kdN (nodeC e) u u.kids.length⟩) v).length = 37 from fun v => topC_len hgk v)
      have H1 := SL.hid (show ∀ (a : Option Addr) (n c' : Nat), ∀ y ∈ topC (kidOf ⟨3, [], kdN (nodeC e) u u.kids.length⟩) (.slice a n c'), y.oneCell' = true from fun a n c' => topC_one _ rfl)
      have htb := SL.hid (show ∀ y ∈ [txB ⟨3, [], kdN (nodeC e) u u.kids.length⟩], y.oneCell' = true by simp [txB, Value.oneCell'])
      have hcl := Hcnt2.out
      clear hgk
      generalize kidOf ⟨3, [], kdN (nodeC e) u u.kids.length⟩ = kk at *
      generalize htbv : txB ⟨3, [], kdN (nodeC e) u u.kids.length⟩ = tb at *
      have Htbv := SL.hid htbv
      clear htbv
      generalize cdN (nodeC e) u u.kids.length = cd at *
      generalize hkd : kdN (nodeC e) u u.kids.length = kd at *
      clear hkd
      go_wp2_with (first
        | go_skip
        | ((with_reducible (show Go.wpList _ _ _ (Go.Oper.mk _ (.load 85 _) _ _ _ _ :: _) _ _)); refine wpl_loadW (xs := tl) hE 6 rfl rfl rfl rfl Tryd.isAgg85 Tryd.sizeOf85 Htl.out ?_)
        | ((with_reducible (show Go.wpList _ _ _ (Go.Oper.mk _ (.load 120 _) _ _ _ _ :: _) _ _)); refine wpl_loadW hE 1 rfl rfl rfl rfl Tryd.isAgg120 Tryd.sizeOf120 rfl ?_)
        | (go_at_call 57; refine (HOne.out ac cc _ _ (fun w h => reads_row h 2 rfl) hE).mono ?_; clear hE; rintro en w5 ⟨v, rfl, b, rfl, hE⟩)
        | ((with_reducible (show Go.wpList _ _ _ (Go.Oper.mk _ (.alloc 80) _ _ _ _ :: _) _ _)); refine wpl_allocN hE rfl rfl (n := 37) (by kernel_rfl) ?_; clear hE; intro b14 c14 w1 hq14 hE)
        | ((with_reducible (show Go.wpList _ _ _ (Go.Oper.mk _ (.store 80 _ _) _ _ _ _ :: _) _ _)); refine wpl_storeN hE 0 rfl rfl rfl rfl (xs := topC kk (.slice (some ⟨b, 0, none⟩) 1 1)) rfl Tryd.sizeOf80 (Hl37.out _) (H1.out _ _ _) hq14 ?_; clear hE hq14; intro w2 hE; simp only [List.set_cons_zero] at hE))
      have hO := hE.drew
      refine wp_region_held_drew (S := (fun w' => ((Instr.loadAt 78 (.pointer (some ⟨b14, 0, none⟩))).run Tryd.prog w' = .ok (.agg (kcells kk).toArray) w') ∧ ((Instr.loadAt 22 (.pointer (some ⟨b14, 36, none⟩))).run Tryd.prog w' = .ok (.slice (some ⟨b, 0, none⟩) 1 1) w'))) (by kernel_rfl) ⟨(top_kidOf (v := .slice (some ⟨b, 0, none⟩) 1 1) Hgk.out (mem_cells hO (by repeat (first | exact List.Mem.head _ | refine List.Mem.tail _ ?_)))), (atCell (top_slice (v := .slice (some ⟨b, 0, none⟩) 1 1) Hgk.out (mem_cells hO (by repeat (first | exact List.Mem.head _ | refine List.Mem.tail _ ?_)))) (by simp [go_sem]))⟩ (fun hS => ?_)
      refine tV 0 hS ?_; refine tL 1 hS ?_; refine tV 2 hS ?_; refine tV 3 hS ?_; refine tL 4 hS ?_
      refine tO 5 (fun K hK => ?_)
      (refine step_appendG hO 2 rfl rfl (by rfl) (by rfl) (by rfl) Tryd.underlying22 info_text (by decide) (m := 1) (news := [tb]) (reads_pt hO 1 rfl (off := 0) (fun j u hu => by rw [Nat.zero_add, List.getElem?_toArray]; exact hu)) rfl htb.out (by omega) (by omega) ?_; clear hO; intro a' ca' w8 hO; simp only [List.set_cons_zero, List.set_cons_succ] at hO)
      refine tK hK ⟨(top_kidOf (v := .slice (some ⟨b, 0, none⟩) 1 1) Hgk.out (mem_cells hO (by repeat (first | exact List.Mem.head _ | refine List.Mem.tail _ ?_)))), (atCell (top_slice (v := .slice (some ⟨b, 0, none⟩) 1 1) Hgk.out (mem_cells hO (by repeat (first | exact List.Mem.head _ | refine List.Mem.tail _ ?_)))) (by simp [go_sem]))⟩ (fun hS => ?_); clear hK K
      refine tV 6 hS ?_
      refine tO 7 (fun K hK => ?_)
      (refine step_storeW hO 6 rfl rfl (by rfl) (by rfl) (xs := topC kk (.slice a' (cd.length + 1) ca')) (by rfl) Tryd.sizeOf80 (Hl37.out _) (H1.out _ _ _) Hq.out ?_; clear hO; intro w9 hO; simp only [List.set_cons_zero, List.set_cons_succ] at hO)
      refine tK hK ⟨(top_kidOf (v := .slice (some ⟨b, 0, none⟩) 1 1) Hgk.out (mem_cells hO (by repeat (first | exact List.Mem.head _ | refine List.Mem.tail _ ?_)))), (atCell (top_slice (v := .slice (some ⟨b, 0, none⟩) 1 1) Hgk.out (mem_cells hO (by repeat (first | exact List.Mem.head _ | refine List.Mem.tail _ ?_)))) (by simp [go_sem]))⟩ (fun hS => ?_); clear hK K
      refine wpAnyH_done (by kernel_rfl) ?_ _
      all_goals
        clear hS hE
        have hE := hO
        clear hO
        go_wp2
        refine bodyPost_ret (results_cellA rfl hE 6 rfl rfl Tryd.isAgg80 Tryd.sizeOf80 (Hl37.out _)) rfl ?_
        rw [HV.out]
        refine ⟨_, rfl, a', ca', pt b14 (.cells (topC kk (.slice (some ⟨b, 0, none⟩) 1 1)).toArray 80 (0, 0)) :: pt b (.cells #[tb] 9) :: pt b8 (.cells #[.int .u8 3, .string ⟨#[]⟩, .slice ac kd.length cc] 120) :: rowRK ac cc kd :: rowEn aS cS S :: pt b6 (.cells (topC kk (.slice a' (cd.length + 1) ca')).toArray 80 (0, 0)) :: pt b4 (.cells #[.slice ao L.length c] 37) :: pt b3 (.cells tl.toArray 85 (0, 0)) :: mm, ?_, ?_⟩
        · simp only [List.length_append, List.length_singleton]
        · simp only [List.length_append, List.length_singleton, List.map_append, List.map_cons, List.map_nil, Htbv.out]
          exact hE.front 2 rfl

end Go.Proofs.YtehfbokkcamliaaDoor
namespace Go.Proofs.YtehfbokkcamliaaDoor
open Go.RowKit Go.SL

theorem rDi_all {t : Tr} {L : List En} (hG : Good t L) (hL : L.length ≤ 1000) (hb : ∀ x ∈ L, x.path.length ≤ 1000000) {ao : Option Addr} {c : Nat} {l : List HProp} (hk : Knows l (reads (.slice ao L.length c) L.length (L.flatMap enC))) {tl : List Value} (htl : tl = (tabH hFirst).map u32v) : ∀ d, d ≤ 6 → RDi t L ao c tl l d
  | 0, h => rDi_step hG hL hb hk htl h (fun e he => absurd he (by omega))
  | d + 1, h => rDi_step hG hL hb hk htl h (fun e he => by cases he; exact rDi_all hG hL hb hk htl d (by omega))
/-- the whole tree's directory -/
theorem rDir_any {t : Tr} {L : List En} (hG : Good t L) (hL : L.length ≤ 1000) (hb : ∀ x ∈ L, x.path.length ≤ 1000000) {ao : Option Addr} {c : Nat} {l : List HProp} (hk : Knows l (reads (.slice ao L.length c) L.length (L.flatMap enC))) {L' : List HProp} {w : World} (hs : l <:+ L') (hE : Ent L' w) :
    Calls Tryd.prog 27 #[tabV (tabH hFirst), .agg #[.slice ao L.length c], .string ⟨#[]⟩] w
      (Ret fun v w' => ∃ (a : Option Addr) (c' : Nat) (m : List HProp), v = .agg (topC (nodeC 6 t).2 (.slice a (nodeC 6 t).1.length c')).toArray ∧ Ent (row 9 1 (.slice a (nodeC 6 t).1.length c') (nodeC 6 t).1.length ((nodeC 6 t).1.map txB) :: (m ++ L')) w') :=
  rDi_all hG hL hb hk rfl 6 (Nat.le_refl _) [] t hG.2.1 hG.2.2.1 rfl L' w hs hE
end Go.Proofs.YtehfbokkcamliaaDoor
namespace Go.Proofs.YtehfbokkcamliaaDoor
open Go.RowKit Go.SL

theorem field_top {k : Kid} (h : k.good) (ao : Option Addr) (n c : Nat) (w : World) : (Instr.field 80 (.agg (topC k (.slice ao n c)).toArray) 1).run Tryd.prog w = .ok (.slice ao n c) w := by
  obtain ⟨nm, d, hs, g, z⟩ := k
  obtain ⟨x0, x1, x2, x3, x4, x5, x6, x7, x8, x9, x10, x11, x12, x13, x14, x15, x16, x17, x18, x19, x20, x21, x22, x23, x24, x25, x26, x27, x28, x29, x30, x31, e⟩ := list32 h.1
  simp only at e
  subst e
  kernel_rfl

set_option maxRecDepth 100000 in
set_option maxHeartbeats 4000000 in
attribute [-go_sem] Instr.loadAt in
theorem rCut_any {t : Tr} {L : List En} (hG : Good t L) (hL : L.length ≤ 1000) (hb : ∀ x ∈ L, x.path.length ≤ 1000000) {ao : Option Addr} {c : Nat} {l : List HProp} (hk : Knows l (reads (.slice ao L.length c) L.length (L.flatMap enC))) {w : World} (hE : Ent l w) :
    Calls Tryd.prog 14 #[.agg #[.slice ao L.length c]] w
      (Ret fun v w' => ∃ (a : Option Addr) (c' : Nat) (m : List HProp), v = .slice a (nodeC 6 t).1.length c' ∧ Ent (row 9 1 (.slice a (nodeC 6 t).1.length c') (nodeC 6 t).1.length ((nodeC 6 t).1.map txB) :: (m ++ l)) w') := by
  have hfd := field_top (node_fit 6 t (Nat.le_refl _) hG.2.1).1
  have HD := SL.hid (fun (L' : List HProp) (w : World) (hs : l <:+ L') (hE : Ent L' w) => rDir_any hG hL hb hk hs hE)
  have HT := SL.hid (fun (L' : List HProp) (w : World) (hE : Ent L' w) => Tables_is hE)
  clear hG hL hb hk
  generalize (tabV (tabH hFirst)) = tv at *
  generalize (nodeC 6 t).1.map txB = tx at *
  generalize (nodeC 6 t).1.length = n at *
  generalize (nodeC 6 t).2 = kk at *
  go_enter Tryd.func14, Tryd.ntmps14
  go_wp2_with (first
    | go_skip
    | (refine bxX hE ?_; clear hE; intro b1 w hE))
  have hO := hE.drew
  refine wp_region_held_drew (S := fun _ => True) (by kernel_rfl) trivial (fun hS => ?_)
  refine wpAnyH_ready (rs := [0, 1]) (by kernel_rfl) (by simp) ?_
  refine (AllReadyH.cons (o := ⟨some 3, .call { callee := .value (.func 28), args := #[], argTypes := #[] }, _, _, _, none⟩) rfl (fun K hK => ?_) (AllReadyH.cons (o := ⟨some 4, .load 37 (.tmp 1), _, _, _, none⟩) rfl (fun K hK => ?_) AllReadyH.nil))
  focus
    (go_simp; refine (HT.out _ _ hO).mono ?_; clear hO; rintro e w5 ⟨v, h1, h2, hO⟩; cases h1; cases h2)
    refine tK hK trivial (fun hS => ?_); clear hK K
    refine tO 1 (fun K hK => ?_)
    (first | refine step_loadW hO 0 rfl rfl (by rfl) (by rfl) Tryd.isAgg37 Tryd.sizeOf37 rfl ?_)
    refine tK hK trivial (fun hS => ?_); clear hK K
    refine tO 2 (fun K hK => ?_)
    (go_simp; refine (HD.out _ _ sfx hO).mono ?_; clear hO; rintro e w5 ⟨v, h1, a, c', m, h2, hO⟩; cases h1; cases h2)
    refine tK hK trivial (fun hS => ?_); clear hK K
    refine tV 3 hS ?_; refine tV 4 hS ?_
    refine wpAnyH_done (by kernel_rfl) ?_ _
  rotate_right
  focus
    (first | refine step_loadW hO 0 rfl rfl (by rfl) (by rfl) Tryd.isAgg37 Tryd.sizeOf37 rfl ?_)
    refine tK hK trivial (fun hS => ?_); clear hK K
    refine tO 0 (fun K hK => ?_)
    (go_simp; refine (HT.out _ _ hO).mono ?_; clear hO; rintro e w5 ⟨v, h1, h2, hO⟩; cases h1; cases h2)
    refine tK hK trivial (fun hS => ?_); clear hK K
    refine tO 2 (fun K hK => ?_)
    (go_simp; refine (HD.out _ _ sfx hO).mono ?_; clear hO; rintro e w5 ⟨v, h1, a, c', m, h2, hO⟩; cases h1; cases h2)
    refine tK hK trivial (fun hS => ?_); clear hK K
    refine tV 3 hS ?_; refine tV 4 hS ?_
    refine wpAnyH_done (by kernel_rfl) ?_ _
  all_goals
    clear hS hE
    go_wp2
    refine bodyPost_ret (results_tmp rfl _ _ _) rfl ?_
    exact ⟨_, rfl, a, c', m ++ [pt b1 (.cells #[.slice ao L.length c] 37)], rfl, by simpa using hO⟩
end Go.Proofs.YtehfbokkcamliaaDoor
namespace Go.SL
section
variable {P : Program} {ops : Array Oper} {rest : List Oper} {o : Oper} {a : Act} {Q : Exit → Act → World → Prop} {w : World} {l : List HProp}

/-- an entry with a new key is put -/
theorem wpl_insertS (hE : Ent l w) (i : Nat) {r : Nat} {es : List MapEntry} {clock : Nat} (hi : l[i]? = some (pt r (.map es.toArray clock)))
    {t kt et : TypeId} {x y z : Operand} (ho : o.op = .insert t x y z) (hw : Region.wanted o (yielded ops a.tmps) = true) (hx : a.eval x = .map (some r)) {s : ByteArray} (hy : a.eval y = .string s) {v : Value} (hz : a.eval z = v)
    (ht : P.underlying t = some (.map kt et)) (hk : P.underlying kt = some .string) (hnew : Instr.findNow .string (.string s) es 0 = some none)
    (h : ∀ w', Ent (l.set i (pt r (.map (es ++ [mEnt (.string s) v clock]).toArray (clock + 1)))) w' → wpList P ops Q rest (a.put o.dst undef) w') : wpList P ops Q (o :: rest) a w := by
  have hb := hE.at i hi
  have hc : ∀ m, (Instr.checkKey false (m + 1) kt (.string s)).run P w = .ok () w := fun m => by
    unfold Instr.checkKey
    simp [run_underlying hk]
  have hf : (Instr.findKey kt (.string s) es).run P w = .ok none w := by
    unfold Instr.findKey
    simp [run_underlying hk, hnew]
  refine wpl_run_skip hw (w' := { w with heap := w.heap.setIfInBounds r (.map (es ++ [mEnt (.string s) v clock]).toArray (clock + 1)) }) ?_ (h _ (hE.setMap i hi))
  have hg := MapKept.run_getObj_map (P := P) hb
  have hs := MapKept.run_setObj_map (P := P) (.map (es.toArray.push (mEnt (.string s) v clock)) (clock + 1)) hb
  have e : es.toArray.push (mEnt (.string s) v clock) = (es ++ [mEnt (.string s) v clock]).toArray := by simp
  rw [e] at hs
  simp [execOp, ho, hx, hy, hz, Instr.mapUpdate, run_underlying ht, hg, hc 9999, hf, e, hs]

/-- an entry with a new key is put, by an assignment -/
theorem wpl_updS (hE : Ent l w) (i : Nat) {r : Nat} {es : List MapEntry} {clock : Nat} (hi : l[i]? = some (pt r (.map es.toArray clock)))
    {t kt et : TypeId} {x y z : Operand} (ho : o.op = .mapUpdate t x y z) (hw : Region.wanted o (yielded ops a.tmps) = true) (hx : a.eval x = .map (some r)) {s : ByteArray} (hy : a.eval y = .string s) {v : Value} (hz : a.eval z = v)
    (ht : P.underlying t = some (.map kt et)) (hk : P.underlying kt = some .string) (hnew : Instr.findNow .string (.string s) es 0 = some none)
    (h : ∀ w', Ent (l.set i (pt r (.map (es ++ [mEnt (.string s) v clock]).toArray (clock + 1)))) w' → wpList P ops Q rest (a.put o.dst undef) w') : wpList P ops Q (o :: rest) a w := by
  have hb := hE.at i hi
  have hc : ∀ m, (Instr.checkKey false (m + 1) kt (.string s)).run P w = .ok () w := fun m => by
    unfold Instr.checkKey
    simp [run_underlying hk]
  have hf : (Instr.findKey kt (.string s) es).run P w = .ok none w := by
    unfold Instr.findKey
    simp [run_underlying hk, hnew]
  refine wpl_run_skip hw (w' := { w with heap := w.heap.setIfInBounds r (.map (es ++ [mEnt (.string s) v clock]).toArray (clock + 1)) }) ?_ (h _ (hE.setMap i hi))
  have hg := MapKept.run_getObj_map (P := P) hb
  have hs := MapKept.run_setObj_map (P := P) (.map (es.toArray.push (mEnt (.string s) v clock)) (clock + 1)) hb
  have e : es.toArray.push (mEnt (.string s) v clock) = (es ++ [mEnt (.string s) v clock]).toArray := by simp
  rw [e] at hs
  simp [execOp, ho, hx, hy, hz, Instr.mapUpdate, run_underlying ht, hg, hc 9999, hf, e, hs]

/-- a key is looked up -/
theorem wpl_lookS (hE : Ent l w) (i : Nat) {r : Nat} {es : List MapEntry} {clock : Nat} (hi : l[i]? = some (pt r (.map es.toArray clock)))
    {t kt et : TypeId} {x y : Operand} (ho : o.op = .lookup t x y false) (hw : Region.wanted o (yielded ops a.tmps) = true) (hx : a.eval x = .map (some r)) {s : ByteArray} (hy : a.eval y = .string s)
    (ht : P.underlying t = some (.map kt et)) (hk : P.underlying kt = some .string) {v : Value} {j : Nat} (hfind : Instr.findNow .string (.string s) es 0 = some (some (j, v)))
    (h : wpList P ops Q rest (a.put o.dst v) w) : wpList P ops Q (o :: rest) a w := by
  have hb := hE.at i hi
  have hc : ∀ e m, (Instr.checkKey e (m + 1) kt (.string s)).run P w = .ok () w := fun e m => by
    unfold Instr.checkKey
    simp [run_underlying hk]
  have hf : (Instr.findKey kt (.string s) es).run P w = .ok (some (j, v)) w := by
    unfold Instr.findKey
    simp [run_underlying hk, hfind]
  have hg := MapKept.run_getObj_map (P := P) hb
  refine wpl_run hw (w' := w) (v := v) ?_ h
  simp [execOp, ho, hx, hy, Instr.lookup, run_underlying ht, hg, hc _ 9999, hf]
/-- a key that is not there -/
theorem wpl_lookNotS (hE : Ent l w) (i : Nat) {r : Nat} {es : List MapEntry} {clock : Nat} (hi : l[i]? = some (pt r (.map es.toArray clock)))
    {t kt et : TypeId} {x y : Operand} (ho : o.op = .lookup t x y false) (hw : Region.wanted o (yielded ops a.tmps) = true) (hx : a.eval x = .map (some r)) {s : ByteArray} (hy : a.eval y = .string s)
    (ht : P.underlying t = some (.map kt et)) (hk : P.underlying kt = some .string) {v : Value} (hz : ∀ w, (zeroValue et).run P w = .ok v w) (hfind : Instr.findNow .string (.string s) es 0 = some none)
    (h : wpList P ops Q rest (a.put o.dst v) w) : wpList P ops Q (o :: rest) a w := by
  have hb := hE.at i hi
  have hc : ∀ e m, (Instr.checkKey e (m + 1) kt (.string s)).run P w = .ok () w := fun e m => by
    unfold Instr.checkKey
    simp [run_underlying hk]
  have hf : (Instr.findKey kt (.string s) es).run P w = .ok none w := by
    unfold Instr.findKey
    simp [run_underlying hk, hfind]
  have hg := MapKept.run_getObj_map (P := P) hb
  refine wpl_run hw (w' := w) (v := v) ?_ h
  simp [execOp, ho, hx, hy, Instr.lookup, run_underlying ht, hg, hc _ 9999, hf, hz]
/-- entries with these keys and values -/
def entsT (kvs : List (List UInt8 × Value)) (es : List MapEntry) : Prop := es.map (fun e => (e.key, e.val)) = kvs.map fun p => (.string ⟨p.1.toArray⟩, p.2)
def mapT (r : Nat) (kvs : List (List UInt8 × Value)) : HProp := ex fun x : { x : List MapEntry × Nat // entsT kvs x.1 } => [pt r (.map x.1.1.toArray x.1.2)]
def lookT (kvs : List (List UInt8 × Value)) (n : List UInt8) (z : Value) : Value := match kvs.find? (fun p => n == p.1) with | some p => p.2 | none => z

theorem keyT_beq (a b : List UInt8) : ((⟨a.toArray⟩ : ByteArray) == ⟨b.toArray⟩) = (a == b) := by
  rw [beq_toListBytes, ByteArray.toList_eq, ByteArray.toList_eq]
theorem findT_new (n : List UInt8) : ∀ (kvs : List (List UInt8 × Value)) (es : List MapEntry) (i : Nat), entsT kvs es → (kvs.all fun p => !(n == p.1)) = true → Instr.findNow .string (.string ⟨n.toArray⟩) es i = some none
  | [], es, i, h, _ => by
    have : es = [] := by simpa [entsT] using h
    subst this
    rfl
  | p :: kvs, [], i, h, _ => by simp [entsT] at h
  | p :: kvs, e :: es, i, h, hn => by
    simp only [entsT, List.map_cons, List.cons.injEq, Prod.mk.injEq] at h
    simp only [List.all_cons, Bool.and_eq_true, Bool.not_eq_true'] at hn
    unfold Instr.findNow
    rw [h.1.1]
    simp only [Instr.sameNow, if_true, keyT_beq, hn.1]
    exact findT_new n kvs es (i + 1) h.2 hn.2
theorem findT_old (n : List UInt8) : ∀ (kvs : List (List UInt8 × Value)) (es : List MapEntry) (i : Nat) (p : List UInt8 × Value), entsT kvs es → kvs.find? (fun p => n == p.1) = some p → ∃ j, Instr.findNow .string (.string ⟨n.toArray⟩) es i = some (some (j, p.2))
  | [], es, i, p, h, hf => by simp at hf
  | q :: kvs, [], i, p, h, _ => by simp [entsT] at h
  | q :: kvs, e :: es, i, p, h, hf => by
    simp only [entsT, List.map_cons, List.cons.injEq, Prod.mk.injEq] at h
    unfold Instr.findNow
    rw [h.1.1]
    simp only [Instr.sameNow, if_true, keyT_beq]
    cases hq : (n == q.1) with
    | true =>
      simp only [List.find?_cons, hq] at hf
      cases hf
      exact ⟨i, by rw [h.1.2]⟩
    | false =>
      simp only [List.find?_cons, hq] at hf
      exact findT_old n kvs es (i + 1) p h.2 hf

theorem wpl_makeMapT (hE : Ent l w) {t : TypeId} (ho : o.op = .makeMap t none) (hw : Region.wanted o (yielded ops a.tmps) = true)
    (h : ∀ r w', Ent (mapT r [] :: l) w' → wpList P ops Q rest (a.put o.dst (.map (some r))) w') : wpList P ops Q (o :: rest) a w :=
  wpl_makeMap hE ho hw fun r w' hE' => h r w' (Ent.pack ⟨([], 0), rfl⟩ hE')

theorem wpl_insertT (hE : Ent l w) (i : Nat) {r : Nat} {kvs : List (List UInt8 × Value)} (hi : l[i]? = some (mapT r kvs))
    {t kt et : TypeId} {x y z : Operand} (ho : o.op = .insert t x y z) (hw : Region.wanted o (yielded ops a.tmps) = true) (hx : a.eval x = .map (some r)) {n : List UInt8} (hy : a.eval y = (.string ⟨n.toArray⟩)) {v : Value} (hz : a.eval z = v)
    (ht : P.underlying t = some (.map kt et)) (hk : P.underlying kt = some .string) (hnew : (kvs.all fun p => !(n == p.1)) = true)
    (h : ∀ w', Ent (l.set i (mapT r (kvs ++ [(n, v)]))) w' → wpList P ops Q rest (a.put o.dst undef) w') : wpList P ops Q (o :: rest) a w := by
  obtain ⟨⟨⟨es, c⟩, he⟩, hE1⟩ := Ent.unpack (hE.front i hi)
  refine wpl_insertS hE1 0 rfl ho hw hx hy hz ht hk (findT_new n kvs es 0 he hnew) fun w' hE' => h w' ?_
  refine Ent.put ?_ (List.getElem?_eq_some_iff.1 hi).1
  refine Ent.pack ⟨(es ++ [mEnt (.string ⟨n.toArray⟩) v c], c + 1), ?_⟩ hE'
  unfold entsT at he ⊢
  simp only [List.map_append, he, List.map_cons, List.map_nil]

theorem wpl_updT (hE : Ent l w) (i : Nat) {r : Nat} {kvs : List (List UInt8 × Value)} (hi : l[i]? = some (mapT r kvs))
    {t kt et : TypeId} {x y z : Operand} (ho : o.op = .mapUpdate t x y z) (hw : Region.wanted o (yielded ops a.tmps) = true) (hx : a.eval x = .map (some r)) {n : List UInt8} (hy : a.eval y = (.string ⟨n.toArray⟩)) {v : Value} (hz : a.eval z = v)
    (ht : P.underlying t = some (.map kt et)) (hk : P.underlying kt = some .string) (hnew : (kvs.all fun p => !(n == p.1)) = true)
    (h : ∀ w', Ent (l.set i (mapT r (kvs ++ [(n, v)]))) w' → wpList P ops Q rest (a.put o.dst undef) w') : wpList P ops Q (o :: rest) a w := by
  obtain ⟨⟨⟨es, c⟩, he⟩, hE1⟩ := Ent.unpack (hE.front i hi)
  refine wpl_updS hE1 0 rfl ho hw hx hy hz ht hk (findT_new n kvs es 0 he hnew) fun w' hE' => h w' ?_
  refine Ent.put ?_ (List.getElem?_eq_some_iff.1 hi).1
  refine Ent.pack ⟨(es ++ [mEnt (.string ⟨n.toArray⟩) v c], c + 1), ?_⟩ hE'
  unfold entsT at he ⊢
  simp only [List.map_append, he, List.map_cons, List.map_nil]

theorem wpl_lookupT (hE : Ent l w) (i : Nat) {r : Nat} {kvs : List (List UInt8 × Value)} (hi : l[i]? = some (mapT r kvs))
    {t kt et : TypeId} {x y : Operand} (ho : o.op = .lookup t x y false) (hw : Region.wanted o (yielded ops a.tmps) = true) (hx : a.eval x = .map (some r)) {n : List UInt8} (hy : a.eval y = (.string ⟨n.toArray⟩))
    (ht : P.underlying t = some (.map kt et)) (hk : P.underlying kt = some .string) {z : Value} (hz : ∀ w, (zeroValue et).run P w = .ok z w)
    (h : wpList P ops Q rest (a.put o.dst (lookT kvs n z)) w) : wpList P ops Q (o :: rest) a w := by
  obtain ⟨⟨⟨es, c⟩, he⟩, hE1⟩ := Ent.unpack (hE.front i hi)
  unfold lookT at h
  cases hf : kvs.find? (fun p => n == p.1) with
  | some p =>
    rw [hf] at h
    obtain ⟨j, hj⟩ := findT_old n kvs es 0 p he hf
    exact wpl_lookS hE1 0 rfl ho hw hx hy ht hk hj h
  | none =>
    rw [hf] at h
    refine wpl_lookNotS hE1 0 rfl ho hw hx hy ht hk hz (findT_new n kvs es 0 he ?_) h
    rw [List.all_eq_true]
    intro p hp
    have := List.find?_eq_none.1 hf p hp
    simpa using this
/-- how many entries -/
theorem wpl_lenMapT (hE : Ent l w) (i : Nat) {r : Nat} {kvs : List (List UInt8 × Value)} (hi : l[i]? = some (mapT r kvs))
    {t kt et : TypeId} {x : Operand} (ho : o.op = .call { callee := .builtin .len, args := #[x], argTypes := #[t] }) (hw : Region.wanted o (yielded ops a.tmps) = true) (hx : a.eval x = .map (some r))
    (ht : P.underlying t = some (.map kt et)) (h : wpList P ops Q rest (a.put o.dst (.int .i64 (kvs.length : Nat))) w) : wpList P ops Q (o :: rest) a w := by
  obtain ⟨⟨⟨es, c⟩, he⟩, hE1⟩ := Ent.unpack (hE.front i hi)
  have hg := MapKept.run_getObj_map (P := P) (hE1.at 0 rfl)
  have hl : es.length = kvs.length := by
    have := congrArg List.length he
    simpa using this
  refine wpl_run hw (w' := w) (v := .int .i64 (kvs.length : Nat)) ?_ h
  simp [execOp, ho, resolve, invoke, builtin, Builtin.len_, hx, run_underlying ht, hg, hl, goInt]
end
attribute [irreducible] mapT
end Go.SL
namespace Go.Proofs.YtehfbokkcamliaaDoor
open Go.RowKit Go.SL

/-- texts, each once, as they come first -/
def onceT (l : List (List UInt8)) : List (List UInt8) := l.foldl (fun acc s => if acc.contains s = true then acc else acc ++ [s]) []
def needN (l : List (List UInt8)) : Nat := ((onceT l).map fun s => 34 + s.length).sum
def needK (l : List (List UInt8)) : Nat := (onceT l).length
theorem once_go : ∀ (l acc : List (List UInt8)) (s : List UInt8), s ∈ l.foldl (fun acc s => if acc.contains s = true then acc else acc ++ [s]) acc ↔ s ∈ acc ∨ s ∈ l
  | [], acc, s => by simp
  | x :: l, acc, s => by
    rw [List.foldl_cons, once_go l]
    split
    · next h =>
      rw [List.contains_iff_mem] at h
      simp only [List.mem_cons]
      constructor
      · rintro (h1 | h1)
        · exact .inl h1
        · exact .inr (.inr h1)
      · rintro (h1 | rfl | h1)
        · exact .inl h1
        · exact .inl h
        · exact .inr h1
    · simp only [List.mem_append, List.mem_cons, List.not_mem_nil, or_false]
      constructor
      · rintro ((h1 | h1) | h1)
        · exact .inl h1
        · exact .inr (.inl h1)
        · exact .inr (.inr h1)
      · rintro (h1 | h1 | h1)
        · exact .inl (.inl h1)
        · exact .inl (.inr h1)
        · exact .inr h1
theorem once_mem {l : List (List UInt8)} {s : List UInt8} : s ∈ onceT l ↔ s ∈ l := by
  rw [onceT, once_go]
  simp
theorem once_step {l : List (List UInt8)} {k : Nat} (h : k < l.length) : onceT (l.take (k + 1)) = if (l.take k).contains l[k] = true then onceT (l.take k) else onceT (l.take k) ++ [l[k]] := by
  have e : (onceT (l.take k)).contains l[k] = (l.take k).contains l[k] := by
    rw [Bool.eq_iff_iff, List.contains_iff_mem, List.contains_iff_mem, once_mem]
  rw [List.take_succ_eq_append_getElem h, onceT, List.foldl_append, ← e]
  rfl
theorem once_len : ∀ (l : List (List UInt8)), (onceT l).length ≤ l.length := by
  have go : ∀ (l acc : List (List UInt8)), (l.foldl (fun acc s => if acc.contains s = true then acc else acc ++ [s]) acc).length ≤ acc.length + l.length := by
    intro l
    induction l with
    | nil => intro acc; simp
    | cons x l ih =>
      intro acc
      rw [List.foldl_cons]
      split
      · have := ih acc
        simp only [List.length_cons]
        omega
      · have := ih (acc ++ [x])
        simp only [List.length_cons, List.length_append, List.length_nil] at this ⊢
        omega
  intro l
  have := go l []
  simpa [onceT] using this
end Go.Proofs.YtehfbokkcamliaaDoor
namespace Go.Proofs.YtehfbokkcamliaaDoor
open Go.RowKit Go.SL

def txv (s : List UInt8) : Value := .string ⟨s.toArray⟩
def seenL (xs : List (List UInt8)) : List (List UInt8 × Value) := (onceT xs).map fun s => (s, .int .i64 1)
theorem seen_look (xs : List (List UInt8)) (s : List UInt8) (z : Value) : lookT (seenL xs) s z = if xs.contains s = true then .int .i64 1 else z := by
  unfold lookT seenL
  have go : ∀ ys : List (List UInt8), (match (ys.map fun s => (s, Value.int .i64 1)).find? (fun p => s == p.1) with | some p => p.2 | none => z) = if ys.contains s = true then .int .i64 1 else z := by
    intro ys
    induction ys with
    | nil => rfl
    | cons y ys ih =>
      rw [List.map_cons, List.find?_cons, List.contains_cons]
      cases h : s == y with
      | true => simp
      | false => simpa [h] using ih
  refine (go (onceT xs)).trans ?_
  have e : (onceT xs).contains s = xs.contains s := by rw [Bool.eq_iff_iff, List.contains_iff_mem, List.contains_iff_mem, once_mem]
  rw [e]
theorem seen_new {xs : List (List UInt8)} {s : List UInt8} (h : xs.contains s = false) : ((seenL xs).all fun p => !(s == p.1)) = true := by
  have e : (onceT xs).contains s = false := by
    rw [← h, Bool.eq_iff_iff, List.contains_iff_mem, List.contains_iff_mem, once_mem]
  rw [List.all_eq_true]
  intro p hp
  rw [seenL, List.mem_map] at hp
  obtain ⟨y, hy, rfl⟩ := hp
  simp only [Bool.not_eq_true', beq_eq_false_iff_ne]
  rintro rfl
  rw [List.contains_iff_mem.2 hy] at e
  cases e
theorem need_bound {xs : List (List UInt8)} {B : Nat} (hb : ∀ s ∈ xs, s.length ≤ B) (k : Nat) : needN (xs.take k) ≤ (xs.take k).length * (34 + B) := by
  have go : ∀ ys : List (List UInt8), (∀ s ∈ ys, s.length ≤ B) → (ys.map fun s => 34 + s.length).sum ≤ ys.length * (34 + B) := by
    intro ys
    induction ys with
    | nil => intro _; simp
    | cons y ys ih =>
      intro h
      have h1 := h y (List.mem_cons_self ..)
      have h2 := ih fun s hs => h s (List.mem_cons_of_mem _ hs)
      rw [List.map_cons, List.sum_cons, List.length_cons, Nat.add_mul]
      omega
  have h1 := go (onceT (xs.take k)) fun s hs => hb s (List.mem_of_mem_take (once_mem.1 hs))
  exact Nat.le_trans h1 (Nat.mul_le_mul_right _ (once_len _))
theorem need_yes {xs : List (List UInt8)} {k : Nat} (hk : k < xs.length) (h : (xs.take k).contains xs[k] = true) : needN (xs.take (k + 1)) = needN (xs.take k) ∧ needK (xs.take (k + 1)) = needK (xs.take k) ∧ seenL (xs.take (k + 1)) = seenL (xs.take k) := by
  unfold needN needK seenL
  rw [once_step hk, if_pos h]
  exact ⟨rfl, rfl, rfl⟩
theorem need_no {xs : List (List UInt8)} {k : Nat} (hk : k < xs.length) (h : (xs.take k).contains xs[k] = false) : needN (xs.take (k + 1)) = needN (xs.take k) + (34 + xs[k].length) ∧ needK (xs.take (k + 1)) = needK (xs.take k) + 1 ∧ seenL (xs.take (k + 1)) = seenL (xs.take k) ++ [(xs[k], .int .i64 1)] := by
  unfold needN needK seenL
  rw [once_step hk, if_neg (by rw [h]; simp)]
  simp
theorem seen_len (xs : List (List UInt8)) : (seenL xs).length = needK xs := by rw [seenL, List.length_map, needK]
/-- where a text of a row lies -/
theorem tx_at {w : World} {ao : Option Addr} {c : Nat} {xs : List (List UInt8)} (hr : reads (.slice ao xs.length c) xs.length (xs.map fun s => .string ⟨s.toArray⟩) w) {k : Nat} (hk : k < xs.length) : ∃ b off, ao = some ⟨b, off, none⟩ ∧ w.cell? ⟨b, off + k, none⟩ = some (.string ⟨xs[k].toArray⟩) := by
  obtain ⟨b, off, rfl, h⟩ := reads_form hr (by omega) (by rw [List.length_map]; omega)
  exact ⟨b, off, rfl, h k _ (by rw [List.getElem?_map, List.getElem?_eq_getElem hk]; rfl)⟩
def NdRel (xs : List (List UInt8)) (r : Nat) (l : List HProp) (n i : Value) (wr : World) : Prop := ∃ k : Nat, k ≤ xs.length ∧ i = .int .i64 k ∧ n = .int .i64 (needN (xs.take k) : Nat) ∧ Ent (mapT r (seenL (xs.take k)) :: l) wr

set_option maxRecDepth 100000 in
set_option maxHeartbeats 4000000 in
theorem Need_any {xs : List (List UInt8)} (hn : xs.length ≤ 1000000000000) (hb : ∀ s ∈ xs, s.length ≤ 1000000) {ao : Option Addr} {c : Nat} {l : List HProp} {w : World} (hk : Knows l (reads (.slice ao xs.length c) xs.length (xs.map fun s => .string ⟨s.toArray⟩))) (hE : Ent l w) :
    Calls Tryd.prog 7 #[.slice ao xs.length c] w (Ret fun v w' => v = .tuple #[.int .i64 (needN xs : Nat), .int .i64 (needK xs : Nat)] ∧ Ent l w') := by
  have Hb := SL.hid hb
  have Hk := SL.hid hk
  have Hn := SL.hid hn
  clear hb hk hn
  go_enter Tryd.func7, Tryd.ntmps7
  go_wp2_with (first
    | go_skip
    | ((with_reducible (show Go.wpList _ _ _ (Go.Oper.mk _ (.makeMap _ _) _ _ _ _ :: _) _ _)); refine wpl_makeMapT hE rfl rfl ?_; clear hE; intro r w1 hE))
  go_loopw [5, 11] (fun n i wr => NdRel xs r l n i wr) (fun _ i _ => xs.length - (intOf i).toNat)
  case atStart => exact ⟨0, Nat.zero_le _, rfl, rfl, hE⟩
  case round =>
    clear hE
    obtain ⟨k, hkn, rfl, rfl, hE⟩ := hrel
    have hN := need_bound Hb.out k
    rw [List.length_take] at hN
    have hmin : min k xs.length ≤ 1000000000000 := by have := Hn.out; omega
    have hn := Hn.out
    by_cases hlt : k < xs.length
    · obtain ⟨b, off, rfl, hcell⟩ := tx_at (Hk.out _ hE.tail) hlt
      have hxl := Hb.out _ (List.getElem_mem hlt)
      have hN2 : needN (xs.take k) ≤ 2000000000000000000 := by omega
      have Hm := SL.hid hmin
      clear hN hmin
      cases hc : (xs.take k).contains xs[k] with
      | true =>
        obtain ⟨q1, q2, q3⟩ := need_yes hlt hc
        have HL := SL.hid (show lookT (seenL (xs.take k)) xs[k] (.int .i64 0) = .int .i64 1 by rw [seen_look, if_pos hc])
        have Q1 := SL.hid q1
        have Q3 := SL.hid q3
        clear q1 q2 q3 hc
        generalize xs[k] = x at *
        go_wp2_with (first
          | go_skip
          | ((with_reducible (show Go.wpList _ _ _ (Go.Oper.mk _ (.lookup _ _ _ _) _ _ _ _ :: _) _ _)); refine wpl_lookupT hE 0 rfl rfl rfl rfl rfl Tryd.underlying67 Tryd.underlying9 (z := .int .i64 0) (fun w => by simp [go_sem]) ?_; rw [HL.out]))
        go_roundw
        case rel => exact ⟨k + 1, hlt, by first | rfl | simp, by rw [Q1.out], by rw [Q3.out]; exact hE⟩
        case measure => simp [intOf] <;> omega
      | false =>
        obtain ⟨q1, q2, q3⟩ := need_no hlt hc
        have HL := SL.hid (show lookT (seenL (xs.take k)) xs[k] (.int .i64 0) = .int .i64 0 by rw [seen_look, if_neg (by rw [hc]; simp)])
        have HM := SL.hid (seen_new hc)
        have Q1 := SL.hid q1
        have Q3 := SL.hid q3
        clear q1 q2 q3 hc
        generalize xs[k] = x at *
        generalize needN (xs.take k) = nn at *
        have w1 : wrap64 (34 + (x.length : Int)) = ((34 + x.length : Nat) : Int) := by unfold wrap64; omega
        have w2 : wrap64 ((nn : Int) + ((34 + x.length : Nat) : Int)) = ((nn + (34 + x.length) : Nat) : Int) := by unfold wrap64; omega
        go_wp2_with (first
          | go_skip
          | ((with_reducible (show Go.wpList _ _ _ (Go.Oper.mk _ (.lookup _ _ _ _) _ _ _ _ :: _) _ _)); refine wpl_lookupT hE 0 rfl rfl rfl rfl rfl Tryd.underlying67 Tryd.underlying9 (z := .int .i64 0) (fun w => by simp [go_sem]) ?_; rw [HL.out])
          | ((with_reducible (show Go.wpList _ _ _ (Go.Oper.mk _ (.mapUpdate _ _ _ _) _ _ _ _ :: _) _ _)); refine wpl_updT hE 0 rfl rfl rfl rfl rfl rfl Tryd.underlying67 Tryd.underlying9 HM.out ?_; clear hE; intro w4 hE; simp only [List.set_cons_zero] at hE))
        go_roundw
        case rel => exact ⟨k + 1, hlt, by first | rfl | simp, by first | (rw [Q1.out]; rfl) | (rw [Q1.out]; simp), by rw [Q3.out]; exact hE⟩
        case measure => simp [intOf] <;> omega
    · obtain rfl : k = xs.length := by omega
      have e : xs.take xs.length = xs := List.take_length
      rw [e] at hE hN
      have Hl := SL.hid (seen_len xs)
      clear hN hmin
      rw [e]
      clear e
      go_wp2_with (first
        | go_skip
        | ((with_reducible (show Go.wpList _ _ _ (Go.Oper.mk _ (.call { callee := .builtin .len, args := _, argTypes := _ }) _ _ _ _ :: _) _ _)); refine wpl_lenMapT hE 0 rfl rfl rfl rfl Tryd.underlying67 ?_; rw [Hl.out]))
      refine bodyPost_ret (results_tmp2 rfl _ _ _) rfl ?_
      exact ⟨_, rfl, rfl, hE.tail⟩
end Go.Proofs.YtehfbokkcamliaaDoor
namespace Go.Proofs.YtehfbokkcamliaaDoor
open Go.RowKit Go.SL

theorem first_step {xs : List (List UInt8)} {j : Nat} (hj : j < xs.length) (x : List UInt8) : (!(xs.take (j + 1)).contains x) = ((!(xs.take j).contains x) && !(xs[j] == x)) := by
  have e : (xs.take (j + 1)).contains x = ((xs.take j).contains x || (xs[j] == x)) := by
    rw [List.take_succ_eq_append_getElem hj, Bool.eq_iff_iff, List.contains_iff_mem, Bool.or_eq_true, List.contains_iff_mem, List.mem_append, List.mem_singleton, beq_iff_eq]
    constructor
    · rintro (h | h)
      · exact .inl h
      · exact .inr h.symm
    · rintro (h | h)
      · exact .inl h
      · exact .inr h.symm
  rw [e, Bool.not_or]
def RnRel (xs : List (List UInt8)) (l : List HProp) (n m i : Value) (wr : World) : Prop := ∃ k : Nat, k ≤ xs.length ∧ i = .int .i64 k ∧ n = .int .i64 (needN (xs.take k) : Nat) ∧ m = .int .i64 (needK (xs.take k) : Nat) ∧ Ent l wr
def RiRel (xs : List (List UInt8)) (x : List UInt8) (k : Nat) (l : List HProp) (f j : Value) (wr : World) : Prop := ∃ i : Nat, i ≤ k ∧ j = .int .i64 i ∧ f = .bool (!(xs.take i).contains x) ∧ Ent l wr

set_option maxRecDepth 100000 in
set_option maxHeartbeats 4000000 in
theorem rNeed_any {xs : List (List UInt8)} (hn : xs.length ≤ 1000000000000) (hb : ∀ s ∈ xs, s.length ≤ 1000000) {ao : Option Addr} {c : Nat} {l : List HProp} {w : World} (hk : Knows l (reads (.slice ao xs.length c) xs.length (xs.map fun s => .string ⟨s.toArray⟩))) (hE : Ent l w) :
    Calls Tryd.prog 8 #[.slice ao xs.length c] w (Ret fun v w' => v = .tuple #[.int .i64 (needN xs : Nat), .int .i64 (needK xs : Nat)] ∧ Ent l w') := by
  have Hb := SL.hid hb
  have Hk := SL.hid hk
  have Hn := SL.hid hn
  clear hb hk hn
  go_enter Tryd.func8, Tryd.ntmps8
  go_wp2
  go_loopw [4, 5, 6] (fun n m i wr => RnRel xs l n m i wr) (fun _ _ i _ => xs.length - (intOf i).toNat)
  case atStart => exact ⟨0, Nat.zero_le _, rfl, rfl, rfl, hE⟩
  case round =>
    clear hE
    obtain ⟨k, hkn, rfl, rfl, rfl, hE⟩ := hrel
    have hN := need_bound Hb.out k
    rw [List.length_take] at hN
    have hn := Hn.out
    have hmin : min k xs.length ≤ 1000000000000 := by omega
    have hK : needK (xs.take k) ≤ 1000000000000 := Nat.le_trans (once_len _) (by rw [List.length_take]; omega)
    have hd : ((k : Int) < (xs.length : Int)) = (k < xs.length) := by simp
    by_cases hlt : k < xs.length
    · obtain ⟨b, off, rfl, _⟩ := tx_at (Hk.out _ hE) hlt
      have HC := SL.hid (show ∀ (i : Nat) (h : i < xs.length) (W : World), Ent l W → W.cell? ⟨b, off + i, none⟩ = some (.string ⟨xs[i].toArray⟩) from fun i h W hW => by
        obtain ⟨b', off', e, hc⟩ := tx_at (Hk.out W hW) h
        cases e
        exact hc)
      have hxl := Hb.out _ (List.getElem_mem hlt)
      have hN2 : needN (xs.take k) ≤ 2000000000000000000 := by omega
      have HN2 := SL.hid hN2
      have HK := SL.hid hK
      have Hxl := SL.hid hxl
      clear hN hmin hN2 hK hxl
      have HCk := SL.hid (HC.out k hlt)
      have Hyes := SL.hid (need_yes (k := k) hlt)
      have Hno := SL.hid (need_no (k := k) hlt)
      generalize xs[k] = x at *
      go_wp2
      go_loopw [7, 8] (fun f j wr => RiRel xs x k l f j wr) (fun _ j _ => k - (intOf j).toNat)
      case atStart => exact ⟨0, Nat.zero_le _, rfl, by simp, hE⟩
      case round =>
        clear hE
        obtain ⟨i, hik, rfl, rfl, hE⟩ := hrel
        by_cases hli : i < k
        · have hil : i < xs.length := by omega
          have hst := first_step hil x
          have HCi := SL.hid (HC.out i (by omega))
          have hmb : ((⟨xs[i].toArray⟩ : ByteArray) != ⟨x.toArray⟩) = !(xs[i] == x) := by rw [bne, beq_toListBytes, ByteArray.toList_eq, ByteArray.toList_eq]
          have Hst := SL.hid hst
          clear hst
          generalize xs[i] = y at *
          have hO := hE.drew
          cases hf : (xs.take i).contains x with
          | true =>
            rw [hf] at Hst
            go_wp2
            refine wp_region_held_drew (S := (fun w' => (w'.cell? ⟨b, off + k, none⟩ = some (.string ⟨x.toArray⟩)))) (by kernel_rfl) (HCk.out _ hO) (fun hS => ?_)
            refine tV 0 hS ?_; refine tV 1 hS ?_; refine tU 2 hS ?_; refine tU 3 hS ?_; refine tU 4 hS ?_; refine tU 5 hS ?_; refine tU 6 hS ?_; refine tU 7 hS ?_; refine tU 8 hS ?_; refine tU 9 hS ?_; refine tU 10 hS ?_; refine tV 11 hS ?_; refine tV 12 hS ?_
            refine wpAnyH_done (by kernel_rfl) ?_ _
            all_goals
              go_wp2
              go_roundw
              case rel => exact ⟨i + 1, hli, by first | rfl | simp, by rw [Hst.out]; rfl, hO⟩
              case measure => simp [intOf] <;> omega
          | false =>
            rw [hf] at Hst
            go_wp2
            refine wp_region_held_drew (S := (fun w' => (w'.cell? ⟨b, off + k, none⟩ = some (.string ⟨x.toArray⟩)) ∧ (w'.cell? ⟨b, off + i, none⟩ = some (.string ⟨y.toArray⟩)))) (by kernel_rfl) ⟨(HCk.out _ hO), (HCi.out _ hO)⟩ (fun hS => ?_)
            refine tV 0 hS ?_; refine tV 1 hS ?_; refine tV 2 hS ?_; refine tV 3 hS ?_; refine tV 4 hS ?_; refine tL 5 hS ?_; refine tV 6 hS ?_; refine tV 7 hS ?_; refine tV 8 hS ?_; refine tL 9 hS ?_; refine tV 10 hS ?_; refine tV 11 hS ?_; refine tV 12 hS ?_
            refine wpAnyH_done (by kernel_rfl) ?_ _
            all_goals
              go_wp2
              go_roundw
              case rel => exact ⟨i + 1, hli, by first | rfl | simp, by rw [Hst.out]; rfl, hO⟩
              case measure => simp [intOf] <;> omega
        · obtain rfl : i = k := by omega
          have hck := HCk.out _ hE
          cases hf : (xs.take i).contains x with
          | true =>
            obtain ⟨q1, q2, _⟩ := Hyes.out hf
            have Q1 := SL.hid q1
            have Q2 := SL.hid q2
            clear q1 q2 Hyes Hno
            go_wp2
            go_roundw
            case rel => exact ⟨i + 1, hlt, by first | rfl | simp, by rw [Q1.out], by rw [Q2.out], hE⟩
            case measure => simp [intOf] <;> omega
          | false =>
            obtain ⟨q1, q2, _⟩ := Hno.out hf
            have Q1 := SL.hid q1
            have Q2 := SL.hid q2
            have hK := HK.out
            have hN2 := HN2.out
            have hxl := Hxl.out
            clear q1 q2 Hyes Hno HN2 HK Hxl
            generalize needN (xs.take i) = nn at *
            generalize needK (xs.take i) = kk at *
            have w1 : wrap64 ((nn : Int) + 34) = ((nn + 34 : Nat) : Int) := by unfold wrap64; omega
            have w2 : wrap64 (((nn + 34 : Nat) : Int) + (x.length : Int)) = ((nn + (34 + x.length) : Nat) : Int) := by unfold wrap64; omega
            have w3 : wrap64 ((kk : Int) + 1) = ((kk + 1 : Nat) : Int) := by unfold wrap64; omega
            go_wp2
            go_roundw
            case rel => exact ⟨i + 1, hlt, by first | rfl | simp, by rw [Q1.out]; congr 1; push_cast; omega, by first | (rw [Q2.out]; rfl) | (rw [Q2.out]; simp), hE⟩
            case measure => simp [intOf] <;> omega
    · obtain rfl : k = xs.length := by omega
      have e : xs.take xs.length = xs := List.take_length
      rw [e]
      clear hN hmin hK e
      go_wp2
      refine bodyPost_ret (results_tmp2 rfl _ _ _) rfl ?_
      exact ⟨_, rfl, rfl, hE⟩
end Go.Proofs.YtehfbokkcamliaaDoor
namespace Go.Proofs.YtehfbokkcamliaaDoor
open Go.RowKit Go.SL

set_option maxRecDepth 100000 in
set_option maxHeartbeats 4000000 in
theorem row_same {xs : List (List UInt8)} {a b : Option Addr} {c d : Nat} {l : List HProp} {w : World} (hn : xs.length ≤ 1000000000000) (ha : Knows l (reads (.slice a xs.length c) xs.length (xs.map fun s => .string ⟨s.toArray⟩))) (hb : Knows l (reads (.slice b xs.length d) xs.length (xs.map fun s => .string ⟨s.toArray⟩))) (hE : Ent l w) :
    Calls Tryd.prog 15 #[.slice a xs.length c, .slice b xs.length d] w (Ret fun v w' => v = .bool true ∧ Ent l w') := by
  have Ha := SL.hid ha
  have Hb := SL.hid hb
  clear ha hb
  go_enter Tryd.func15, Tryd.ntmps15
  go_wp2
  go_loopw [5] (fun i wr => CntRel xs.length l i wr) (fun i _ => xs.length - (intOf i).toNat)
  case atStart => exact ⟨0, Nat.zero_le _, rfl, hE⟩
  case round =>
    clear hE
    obtain ⟨k, hkn, rfl, hE⟩ := hrel
    by_cases hlt : k < xs.length
    · obtain ⟨p, o, rfl, h1⟩ := tx_at (Ha.out _ hE) hlt
      obtain ⟨q, r, rfl, h2⟩ := tx_at (Hb.out _ hE) hlt
      have H1 := SL.hid (show ∀ W, Ent l W → W.cell? ⟨p, o + k, none⟩ = some (.string ⟨xs[k].toArray⟩) from fun W hW => by
        obtain ⟨p', o', e, h⟩ := tx_at (Ha.out W hW) hlt
        cases e
        exact h)
      have H2 := SL.hid (show ∀ W, Ent l W → W.cell? ⟨q, r + k, none⟩ = some (.string ⟨xs[k].toArray⟩) from fun W hW => by
        obtain ⟨p', o', e, h⟩ := tx_at (Hb.out W hW) hlt
        cases e
        exact h)
      clear h1 h2
      generalize xs[k] = x at *
      have hO := hE.drew
      go_wp2
      refine wp_region_held_drew (S := (fun w' => (w'.cell? ⟨p, o + k, none⟩ = some (.string ⟨x.toArray⟩)) ∧ (w'.cell? ⟨q, r + k, none⟩ = some (.string ⟨x.toArray⟩)))) (by kernel_rfl) ⟨(H1.out _ hO), (H2.out _ hO)⟩ (fun hS => ?_)
      refine tV 0 hS ?_; refine tV 1 hS ?_; refine tV 2 hS ?_; refine tL 3 hS ?_; refine tV 4 hS ?_; refine tV 5 hS ?_; refine tV 6 hS ?_; refine tL 7 hS ?_; refine tV 8 hS ?_
      refine wpAnyH_done (by kernel_rfl) ?_ _
      all_goals
        go_wp2
        go_roundw
        case rel => exact ⟨k + 1, hlt, by first | rfl | simp, hO⟩
        case measure => simp [intOf] <;> omega
    · obtain rfl : k = xs.length := by omega
      go_wp2
      refine bodyPost_ret (results_tmp rfl _ _ _) rfl ?_
      exact ⟨_, rfl, rfl, hE⟩
end Go.Proofs.YtehfbokkcamliaaDoor
namespace Go.Proofs.YtehfbokkcamliaaDoor
open Go.RowKit Go.SL

def totN (es : List En) : Nat := (es.map fun x => x.data.length).sum
theorem tot_step {es : List En} {k : Nat} (h : k < es.length) : totN (es.take (k + 1)) = totN (es.take k) + es[k].data.length := by
  rw [totN, List.take_succ_eq_append_getElem h, List.map_append, List.sum_append]; simp [totN]
theorem tot_le {es : List En} (hb : ∀ x ∈ es, x.data.length ≤ 9000) : ∀ k, k ≤ es.length → totN (es.take k) ≤ k * 9000
  | 0, _ => by simp [totN]
  | k + 1, h => by
    rw [tot_step (show k < es.length by omega)]
    have := tot_le hb k (by omega)
    have := hb _ (List.getElem_mem (show k < es.length by omega))
    omega
def ToRel (es : List En) (l : List HProp) (n i : Value) (wr : World) : Prop := ∃ k : Nat, k ≤ es.length ∧ i = .int .i64 k ∧ n = .int .i64 (totN (es.take k) : Nat) ∧ Ent l wr
set_option maxRecDepth 100000 in
set_option maxHeartbeats 4000000 in
theorem total_any {es : List En} (hn : es.length ≤ 100) (hb : ∀ x ∈ es, x.data.length ≤ 9000) {ao : Option Addr} {c : Nat} {l : List HProp} {w : World} (hk : Knows l (reads (.slice ao es.length c) es.length (es.flatMap enC))) (hE : Ent l w) :
    Calls Tryd.prog 10 #[.slice ao es.length c] w (Ret fun v w' => v = .int .i64 (totN es : Nat) ∧ Ent l w') := by
  have Hk := SL.hid hk
  have Hb := SL.hid hb
  have Hn := SL.hid hn
  clear hk hb hn
  go_enter Tryd.func10, Tryd.ntmps10
  go_wp2
  go_loopw [3, 4] (fun n i wr => ToRel es l n i wr) (fun _ i _ => es.length - (intOf i).toNat)
  case atStart => exact ⟨0, Nat.zero_le _, rfl, rfl, hE⟩
  case round =>
    clear hE
    obtain ⟨k, hkn, rfl, rfl, hE⟩ := hrel
    have hn := Hn.out
    have hT := tot_le Hb.out k hkn
    by_cases hlt : k < es.length
    · obtain ⟨b, off, rfl, h⟩ := en_at (Hk.out _ hE) hlt
      have hc := h 2 (.string ⟨es[k].data.toArray⟩) rfl
      have hx := Hb.out _ (List.getElem_mem hlt)
      have Hst := SL.hid (tot_step hlt)
      clear h
      generalize es[k] = x at *
      obtain ⟨xp, xd, xb⟩ := x
      simp only at hc hx Hst
      generalize totN (es.take k) = tn at *
      go_wp2
      go_roundw
      case rel => exact ⟨k + 1, hlt, by first | rfl | simp, by rw [Hst.out]; first | rfl | simp, hE⟩
      case measure => simp [intOf] <;> omega
    · obtain rfl : k = es.length := by omega
      rw [List.take_length]
      clear hT
      go_wp2
      refine bodyPost_ret (results_tmp rfl _ _ _) rfl ?_
      exact ⟨_, rfl, rfl, hE⟩
end Go.Proofs.YtehfbokkcamliaaDoor
namespace Go.Proofs.YtehfbokkcamliaaDoor
open Go.RowKit Go.SL

set_option maxRecDepth 100000 in
set_option maxHeartbeats 4000000 in
theorem Cut_any {d : Nat} {t : Tr} (h6 : d ≤ 6) (hw : Tr.Wf d t) {v : Value} {l : List HProp} {w : World} (ht : Knows l KTab) (hf : Knows l FTab) (hk : KidsAt l v t.kids) (hE : Ent l w) :
    Calls Tryd.prog 13 #[.agg #[.bool t.dir, .string ⟨t.data.toArray⟩, v]] w (Ret fun u w' => ∃ ao c, u = .slice ao ((nodeC d t).1.map putC).length c ∧ Ent (rowT ao c ((nodeC d t).1.map putC) :: l) w') := by
  have hl : (nodeC d t).1.length ≤ 800000000000 := by
    have h1 := (node_fit d t h6 hw).2.2
    have h2 : 7 ^ d ≤ 7 ^ 6 := Nat.pow_le_pow_right (by omega) h6
    omega
  have HN := SL.hid (fun (bx : Nat) (L : List HProp) (w : World) (h : l <:+ L) (hE : Ent (xOut bx [] :: L) w) => node_any d t h6 hw bx [] L w v (by simpa using hl) (ht.suf h) (hf.suf h) (hk.suf h) hE)
  obtain ⟨av, cv, rfl⟩ := hk.slice
  clear hl hw ht hf hk
  simp only [List.nil_append] at HN
  generalize kcells (nodeC d t).2 = kx at *
  generalize (nodeC d t).1.map putC = out at *
  generalize t.kids.length = nk at *
  go_enter Tryd.func13, Tryd.ntmps13
  have A1 := SL.hid True.intro
  go_wp2_with (first
    | go_skip
    | ((with_reducible (show Go.wpList _ _ _ (Go.Oper.mk _ (.box 32 _) _ _ _ _ :: _) _ _)); refine wpl_box hE rfl rfl rfl ?_; clear hE; intro b1 w hE; simp only [Act.eval, Act.put, List.setIfInBounds_toArray, List.set_cons_zero, List.set_cons_succ, getD_lit, List.getD_cons_succ, List.getD_cons_zero, Value.cells] at hE)
    | ((with_reducible (show Go.wpList _ _ _ (Go.Oper.mk _ (.box 76 _) _ _ _ _ :: _) _ _)); refine wpl_box hE rfl rfl rfl ?_; clear hE; intro bx w hE; simp only [Act.eval, Act.put, List.setIfInBounds_toArray, List.set_cons_zero, List.set_cons_succ, getD_lit, List.getD_cons_succ, List.getD_cons_zero, Value.cells] at hE; have hE := Ent.pack (f := fun z : Option Addr × Nat => [pt bx (.cells #[.slice z.1 ([] : List (List UInt8)).length z.2, .bool false] 76), rowT z.1 z.2 []]) (none, 0) ((hE.nil 9 1).front 1 rfl))
    | (refine lwX (t := 32) hE Tryd.isAgg32 Tryd.sizeOf32 ?_)
    | (go_at_call 26; clear A1; refine (HN.out bx _ _ sfx hE).mono ?_; clear hE; rintro e w5 ⟨v, rfl, rfl, hE⟩; obtain ⟨⟨ao, c⟩, hE'⟩ := Ent.unpack hE; replace hE : Ent (pt bx (.cells #[.slice ao out.length c, .bool false] 76) :: rowT ao c out :: pt b1 (.cells #[.bool t.dir, .string ⟨t.data.toArray⟩, .slice av nk cv] 32) :: l) _ := hE'; clear hE')
    | (refine ldX hE ?_))
  go_ret
  exact ⟨_, rfl, ao, c, rfl, hE.tail.erase 1⟩
end Go.Proofs.YtehfbokkcamliaaDoor
namespace Go.Proofs.YtehfbokkcamliaaDoor
open Go.RowKit Go.SL

def wT1 : Tr := .nd true [] [([120], .nd false [97] []), ([121], .nd false [97] [])]
def wK (n : List UInt8) : Kid := dirKid n (.nd false [97] []) (kidOf ⟨1, [97], []⟩)
theorem wT1_chunks : (nodeC 1 wT1).1 = [⟨1, [97], []⟩, ⟨1, [97], []⟩, ⟨3, [], [wK [120], wK [121]]⟩] := rfl
theorem wT1_wf : Tr.Wf 1 wT1 := by
  refine ⟨by simp [wT1, Tr.dir], by simp [wT1, Tr.data], ?_, by decide, by decide, ?_⟩
  · intro i hi
    have : i = 0 := by simp [wT1, Tr.names, Tr.kids] at hi; omega
    subst this
    show Op.bytesLess [120] [121] = true
    decide
  · intro k hk
    simp only [wT1, Tr.kids, List.mem_cons, List.not_mem_nil, or_false] at hk
    rcases hk with rfl | rfl
    · exact ⟨by decide, rfl, by simp [Tr.dir], by decide⟩
    · exact ⟨by decide, rfl, by simp [Tr.dir], by decide⟩
theorem wT1_out : ∃ cd : List UInt8, cd.length = 82 ∧ (nodeC 1 wT1).1.map putC = [[1, 97], [1, 97], cd] := by
  refine ⟨putC ⟨3, [], [wK [120], wK [121]]⟩, ?_, by rw [wT1_chunks]; rfl⟩
  simp [putC, kidsB, kidB, wK, dirKid, kidOf, sha_len, be_length, Tr.dir, Tr.data]
theorem w_need {cd : List UInt8} (h : cd.length = 82) : needN [[1, 97], [1, 97], cd] = 152 ∧ needK [[1, 97], [1, 97], cd] = 2 := by
  have e : onceT [[1, 97], [1, 97], cd] = [[1, 97], cd] := by
    have hne : ¬ cd = [1, 97] := by
      rintro rfl
      simp at h
    simp [onceT, hne]
  unfold needN needK
  rw [e]
  simp [h]
def wT2 (zs : List UInt8) : Tr := .nd false zs []
theorem wT2_out {zs : List UInt8} (h : zs.length = 241) : ∃ a b c : List UInt8, a.length = 241 ∧ b.length = 2 ∧ c.length = 76 ∧ (nodeC 0 (wT2 zs)).1.map putC = [a, b, c] := by
  have e : blobs zs = [⟨1, zs.take 240, []⟩, ⟨1, (zs.drop 240).take 240, []⟩] := by
    rw [blobs, pcsL, h]
    rfl
  have e2 : (nodeC 0 (wT2 zs)).1 = [⟨1, zs.take 240, []⟩, ⟨1, (zs.drop 240).take 240, []⟩, ⟨2, [], [kidOf ⟨1, zs.take 240, []⟩, kidOf ⟨1, (zs.drop 240).take 240, []⟩]⟩] := by
    rw [nodeC_file (d := 0) (t := wT2 zs) rfl, fileC]
    show blobs zs ++ (tower (blobs zs).length ((blobs zs).map kidOf)).1 = _
    rw [e]
    simp [tower, level, pcsL, pcN, pcAt]
  rw [e2]
  refine ⟨_, _, _, ?_, ?_, ?_, rfl⟩
  · simp [putC, h]
  · simp [putC, h]
  · simp [putC, kidsB, kidB, kidOf, sha_len, be_length]
theorem wT2_wf {zs : List UInt8} (h : zs.length = 241) : Tr.Wf 0 (wT2 zs) := ⟨rfl, by simp [wT2, Tr.dir], by show zs.length ≤ _; omega⟩
end Go.Proofs.YtehfbokkcamliaaDoor
namespace Go.Proofs.YtehfbokkcamliaaDoor
open Go.RowKit Go.SL

theorem zs_fkid : zeroSize Tryd.prog 66 = some 4 := by kernel_rfl
theorem w_mk {ops : Array Oper} {rest : List Oper} {o : Oper} {a : Act} {Q : Exit → Act → World → Prop} {w : World} {l : List HProp} (hE : Ent l w) {x y : Operand} (ho : o.op = .makeSlice 52 x y) (hw : Region.wanted o (yielded ops a.tmps) = true) {kl kc : IntKind} (n : Nat) (hn : n ≤ 1000000)
    (hx : a.eval x = .int kl (n : Int)) (hy : a.eval y = .int kc (n : Int))
    (h : ∀ g w' (zs : List UInt8), zs.length = n → Ent (rowB (some ⟨g, 0, none⟩) n zs :: l) w' → wpList Tryd.prog ops Q rest (a.put o.dst (.slice (some ⟨g, 0, none⟩) n n)) w') : wpList Tryd.prog ops Q (o :: rest) a w := by
  refine wpl_make hE ho hw Tryd.underlying52 (zs := [.int .u8 0]) (size := 1) (bytes := 1) (by kernel_rfl) rfl (by decide) n hx hy (by omega) (by omega) ?_
  intro g w' hE'
  refine h g w' (List.replicate n 0) (List.length_replicate ..) ?_
  have e : (List.replicate n [Value.int IntKind.u8 0]).flatten = bvals (List.replicate n 0) := by
    induction n with
    | zero => rfl
    | succ n ih => simp [List.replicate_succ, bvals, bval] at ih ⊢
  rw [e] at hE'
  simp only [rowB, List.length_replicate]
  exact hE'
theorem w_three {w : World} {b o c : Nat} {x y z : List UInt8} (h : reads (.slice (some ⟨b, o, none⟩) 3 c) 3 [.string ⟨x.toArray⟩, .string ⟨y.toArray⟩, .string ⟨z.toArray⟩] w) :
    w.cell? ⟨b, o, none⟩ = some (.string ⟨x.toArray⟩) ∧ w.cell? ⟨b, o + 1, none⟩ = some (.string ⟨y.toArray⟩) ∧ w.cell? ⟨b, o + 2, none⟩ = some (.string ⟨z.toArray⟩) := by
  obtain ⟨b', o', e, hc⟩ := reads_form h (by decide) (by simp)
  cases e
  exact ⟨hc 0 _ rfl, hc 1 _ rfl, hc 2 _ rfl⟩
theorem w_kids {l : List HProp} {b : Nat} : KidsAt (pt b (.cells #[.string ⟨#[120]⟩, .bool false, .string ⟨#[97]⟩, .slice none 0 0, .string ⟨#[121]⟩, .bool false, .string ⟨#[97]⟩, .slice none 0 0] 66) :: l) (.slice (some ⟨b, 0, none⟩) 2 2) wT1.kids := by
  refine .mk (some ⟨b, 0, none⟩) 2 wT1.kids [.slice none 0 0, .slice none 0 0] (by decide) rfl ?_ ?_
  · exact fun w h => reads_pt h 0 rfl (off := 0) (fun j u hu => by rw [Nat.zero_add, List.getElem?_toArray]; exact hu)
  · intro i h h'
    match i, h with
    | 0, _ => exact KidsAt.nil _
    | 1, _ => exact KidsAt.nil _

set_option maxRecDepth 100000 in
set_option maxHeartbeats 8000000 in
theorem wakes_any {l : List HProp} {w : World} (ht : Knows l KTab) (hf : Knows l FTab) (hE : Ent l w) : Calls Tryd.prog 6 #[] w (Ret fun v w' => v = .bool true ∧ Ent l w') := by
  obtain ⟨cd, hcd, hout⟩ := wT1_out
  have hnd := w_need hcd
  have H1 := SL.hid (fun (L : List HProp) (w : World) (b : Nat) (h : l <:+ L) (hE : Ent (pt b (.cells #[.string ⟨#[120]⟩, .bool false, .string ⟨#[97]⟩, .slice none 0 0, .string ⟨#[121]⟩, .bool false, .string ⟨#[97]⟩, .slice none 0 0] 66) :: L) w) =>
    show Calls Tryd.prog 13 #[.agg #[.bool true, .string ⟨#[]⟩, .slice (some ⟨b, 0, none⟩) 2 2]] w (Ret fun u w' => ∃ ao c, u = .slice ao 3 c ∧ Ent (row 9 1 (.slice ao 3 c) 3 [.string ⟨#[1, 97]⟩, .string ⟨#[1, 97]⟩, .string ⟨cd.toArray⟩] :: pt b (.cells #[.string ⟨#[120]⟩, .bool false, .string ⟨#[97]⟩, .slice none 0 0, .string ⟨#[121]⟩, .bool false, .string ⟨#[97]⟩, .slice none 0 0] 66) :: L) w') from by
      have h1 := Cut_any (d := 1) (t := wT1) (by decide) wT1_wf (ht.suf (h.trans (List.suffix_cons _ _))) (hf.suf (h.trans (List.suffix_cons _ _))) (w_kids (l := L) (b := b)) hE
      rw [hout] at h1
      exact h1)
  have H2 := SL.hid (fun (zs : List UInt8) (hz : zs.length = 241) => wT2_out hz)
  have H3 := SL.hid (fun (zs : List UInt8) (hz : zs.length = 241) (x y z : List UInt8) (ho : (nodeC 0 (wT2 zs)).1.map putC = [x, y, z]) (L : List HProp) (w : World) (h : l <:+ L) (hE : Ent L w) =>
    show Calls Tryd.prog 13 #[.agg #[.bool false, .string ⟨zs.toArray⟩, .slice none 0 0]] w (Ret fun u w' => ∃ ao c, u = .slice ao 3 c ∧ Ent (row 9 1 (.slice ao 3 c) 3 [.string ⟨x.toArray⟩, .string ⟨y.toArray⟩, .string ⟨z.toArray⟩] :: L) w') from by
      have h1 := Cut_any (d := 0) (t := wT2 zs) (by decide) (wT2_wf hz) (ht.suf h) (hf.suf h) (KidsAt.nil L) hE
      rw [ho] at h1
      exact h1)
  have H4 := SL.hid (fun (L : List HProp) (w : World) (ao : Option Addr) (c : Nat) (hr : Knows L (reads (.slice ao 3 c) 3 [.string ⟨#[1, 97]⟩, .string ⟨#[1, 97]⟩, .string ⟨cd.toArray⟩])) (hE : Ent L w) =>
    show Calls Tryd.prog 7 #[.slice ao 3 c] w (Ret fun v w' => v = .tuple #[.int .i64 152, .int .i64 2] ∧ Ent L w') from by
      have h1 := Need_any (xs := [[1, 97], [1, 97], cd]) (by simp) (by
        intro s hs
        simp only [List.mem_cons, List.not_mem_nil, or_false] at hs
        rcases hs with rfl | rfl | rfl
        · decide
        · decide
        · omega) hr hE
      rw [hnd.1, hnd.2] at h1
      exact h1)
  clear hout hnd ht hf
  have Hcd := SL.hid hcd
  clear hcd
  have A1 := SL.hid True.intro
  go_enter Tryd.func6, Tryd.ntmps6
  go_wp2_with (first
    | go_skip
    | ((with_reducible (show Go.wpList _ _ _ (Go.Oper.mk _ (.buildSlice _ _ _) _ _ _ _ :: _) _ _)); refine wpl_build2 hE rfl rfl (xs := [.string ⟨#[120]⟩, .bool false, .string ⟨#[97]⟩, .slice none 0 0]) (ys := [.string ⟨#[121]⟩, .bool false, .string ⟨#[97]⟩, .slice none 0 0]) rfl rfl Tryd.underlying30 zs_fkid Tryd.sizeOf66 (by decide) (by decide) rfl rfl ?_; clear hE; intro b w1 hE; simp only [List.cons_append, List.nil_append] at hE)
    | (go_at_call 13; clear A1; refine (H1.out _ _ b sfx hE).mono ?_; clear hE H1; rintro e w5 ⟨v, rfl, a1, c1, rfl, hE⟩)
    | ((with_reducible (show Go.wpList _ _ _ (Go.Oper.mk _ (.makeSlice _ _ _) _ _ _ _ :: _) _ _)); refine w_mk hE rfl rfl 241 (by decide) rfl rfl ?_; clear hE; intro g w6 zs hz hE; obtain ⟨x, y, z, hx, hy, hzl, hout⟩ := H2.out zs hz)
    | ((with_reducible (show Go.wpList _ _ _ (Go.Oper.mk _ (.convert 52 9 _) _ _ _ _ :: _) _ _)); refine wpl_bytesStr (bs := zs) rfl rfl rfl Tryd.underlying52 Tryd.underlying5 Tryd.underlying9 (by have h := reads_row hE 0 rfl; rw [hz] at h; exact h) hz.symm ?_)
    | (go_at_call 13; refine (H3.out zs hz x y z hout _ _ sfx hE).mono ?_; clear hE H3; rintro e w5 ⟨v, rfl, a2, c2, rfl, hE⟩)
    | (go_at_call 7; refine (H4.out _ _ a1 c1 (fun w h => reads_row h 2 rfl) hE).mono ?_; clear hE H4; rintro e w5 ⟨v, rfl, rfl, hE⟩))
  obtain ⟨p1, o1, rfl, _⟩ := reads_form (reads_row hE 2 rfl) (by decide) (by simp)
  obtain ⟨p2, o2, rfl, _⟩ := reads_form (reads_row hE 0 rfl) (by decide) (by simp)
  have hcd := Hcd.out
  have hO := hE.drew
  clear hz hout H2
  refine wp_region_held_drew (S := (fun w' => (w'.cell? ⟨p1, o1, none⟩ = some (.string ⟨#[1, 97]⟩)) ∧ (w'.cell? ⟨p1, o1 + 1, none⟩ = some (.string ⟨#[1, 97]⟩)) ∧ (w'.cell? ⟨p1, o1 + 2, none⟩ = some (.string ⟨cd.toArray⟩)) ∧ (w'.cell? ⟨p2, o2, none⟩ = some (.string ⟨x.toArray⟩)) ∧ (w'.cell? ⟨p2, o2 + 1, none⟩ = some (.string ⟨y.toArray⟩)) ∧ (w'.cell? ⟨p2, o2 + 2, none⟩ = some (.string ⟨z.toArray⟩)))) (by kernel_rfl) ⟨(w_three (x := [1, 97]) (y := [1, 97]) (z := cd) (reads_row hO 2 rfl)).1, (w_three (x := [1, 97]) (y := [1, 97]) (z := cd) (reads_row hO 2 rfl)).2.1, (w_three (x := [1, 97]) (y := [1, 97]) (z := cd) (reads_row hO 2 rfl)).2.2, (w_three (reads_row hO 0 rfl)).1, (w_three (reads_row hO 0 rfl)).2.1, (w_three (reads_row hO 0 rfl)).2.2⟩ (fun hS => ?_)
  refine tV 0 hS ?_; refine tV 1 hS ?_; refine tV 2 hS ?_; refine tV 3 hS ?_; refine tV 4 hS ?_; refine tV 5 hS ?_; refine tL 6 hS ?_; refine tV 7 hS ?_; refine tV 8 hS ?_; refine tV 9 hS ?_; refine tV 10 hS ?_; refine tV 11 hS ?_; refine tL 12 hS ?_; refine tV 13 hS ?_; refine tV 14 hS ?_; refine tL 15 hS ?_; refine tV 16 hS ?_; refine tV 17 hS ?_; refine tV 18 hS ?_; refine tV 19 hS ?_; refine tV 20 hS ?_
  refine tL 21 hS ?_; refine tV 22 hS ?_; refine tV 23 hS ?_; refine tV 24 hS ?_; refine tV 25 hS ?_; refine tV 26 hS ?_; refine tV 27 hS ?_; refine tV 28 hS ?_; refine tV 29 hS ?_; refine tV 30 hS ?_; refine tV 31 hS ?_; refine tV 32 hS ?_; refine tL 33 hS ?_; refine tV 34 hS ?_; refine tV 35 hS ?_; refine tV 36 hS ?_; refine tV 37 hS ?_; refine tV 38 hS ?_; refine tV 39 hS ?_; refine tL 40 hS ?_
  refine tV 41 hS ?_; refine tV 42 hS ?_; refine tV 43 hS ?_; refine tV 44 hS ?_; refine tV 45 hS ?_; refine tV 46 hS ?_; refine tL 47 hS ?_; refine tV 48 hS ?_; refine tV 49 hS ?_; refine tV 50 hS ?_; refine tV 51 hS ?_; refine tV 52 hS ?_; refine tV 53 hS ?_; refine tV 54 hS ?_; refine tV 55 hS ?_; refine tV 56 hS ?_; refine tV 57 hS ?_; refine tV 58 hS ?_; refine tV 59 hS ?_
  refine wpAnyH_done (by kernel_rfl) ?_ _
  all_goals
    go_wp2
    refine bodyPost_ret (results_tmp rfl _ _ _) rfl ?_
    exact ⟨_, rfl, rfl, hO.tail.tail.tail.tail⟩
end Go.Proofs.YtehfbokkcamliaaDoor
namespace Go.Proofs.YtehfbokkcamliaaDoor
open Go.RowKit Go.SL

theorem node_may : ∀ (d : Nat) (t : Tr), d ≤ 6 → Tr.Wf d t → ∀ c ∈ (nodeC d t).1, mayC c = true ∧ c.good
  | 0, t, _, h => by
    cases hd : t.dir with
    | false =>
      rw [nodeC_file hd]
      exact (file_fit t.data (by have := h.2.2; omega)).1
    | true =>
      rw [nodeC_dir0 hd h.1 (nodeC 0), dirC]
      have hm := (dir_ok0 h.1 (nodeC 0)).may
      intro c hc
      rw [List.mem_append, List.mem_singleton] at hc
      rcases hc with hc | rfl
      · rw [h.1] at hc; cases hc
      · exact hm
  | d + 1, t, h6, h => by
    cases hd : t.dir with
    | false =>
      rw [nodeC_file hd]
      exact (file_fit t.data (by have := h.2.2.2.2.1; omega)).1
    | true =>
      rw [nodeC_dir hd, dirC]
      have hm := (dir_ok (show d ≤ 6 by omega) h).may
      intro c hc
      rw [List.mem_append, List.mem_singleton] at hc
      rcases hc with hc | rfl
      · rw [List.mem_flatMap] at hc
        obtain ⟨k, hk, hc⟩ := hc
        exact node_may d k.2 (by omega) (h.2.2.2.2.2 k hk).2 c hc
      · exact hm
theorem node_texts {t : Tr} (h : Tr.Wf 6 t) : ((nodeC 6 t).1.map putC).length ≤ 1000000000000 ∧ ∀ s ∈ (nodeC 6 t).1.map putC, s.length ≤ 1000000 := by
  refine ⟨?_, ?_⟩
  · have h1 := (node_fit 6 t (by omega) h).2.2
    have h2 : 7 ^ 6 = 117649 := by decide
    rw [h2] at h1
    rw [List.length_map]
    omega
  · intro s hs
    rw [List.mem_map] at hs
    obtain ⟨c, hc, rfl⟩ := hs
    have hm := node_may 6 t (by omega) h c hc
    have := put_len hm.2 hm.1
    omega

set_option maxRecDepth 100000 in
set_option maxHeartbeats 8000000 in
attribute [-go_sem] Instr.loadAt in
theorem CutCuts_any {es : List En} {ao : Option Addr} {c : Nat} {l : List HProp} {w : World} (ht : Knows l KTab) (hf : Knows l FTab) (hk : Knows l (reads (.slice ao es.length c) es.length (es.flatMap enC))) (hE : Ent l w) :
    Calls Tryd.prog 4 #[.slice ao es.length c] w (Ret fun v w' => v = .bool true ∧ Ent l w') := by
  have HGr := SL.hid (show ∀ w, Ent l w → Calls Tryd.prog 9 #[.slice ao es.length c] w (Ret fun v w' => v = .bool (great es) ∧ Ent l w') from fun w h => Great_any hk h)
  have HWk := SL.hid (fun (L : List HProp) (w : World) (hs : l <:+ L) (h : Ent L w) => wakes_any (ht.suf hs) (hf.suf hs) h)
  cases hgr : great es with
  | true =>
    rw [hgr] at HGr
    clear hgr ht hf hk
    go_enter Tryd.func4, Tryd.ntmps4
    go_wp2_with (first
      | go_skip
      | (go_at_call 9; refine (HGr.out _ hE).mono ?_; clear hE; rintro e w2 ⟨v, rfl, rfl, hE⟩)
      | (go_at_call 6; refine (HWk.out _ _ sfx hE).mono ?_; clear hE; rintro e w3 ⟨v, rfl, rfl, hE⟩))
    go_ret
    exact ⟨_, rfl, rfl, hE⟩
  | false =>
    rw [hgr] at HGr
    obtain ⟨hle, hbd⟩ := great_not.1 hgr
    clear hgr
    have HTo := SL.hid (fun (w : World) (h : Ent l w) => total_any hle (fun x hx => (hbd x hx).2) hk h)
    cases h20 : decide ((20000 : Int) < ((totN es : Nat) : Int)) with
    | true =>
      generalize totN es = tn at *
      clear ht hf hk
      go_enter Tryd.func4, Tryd.ntmps4
      go_wp2_with (first
        | go_skip
        | (go_at_call 9; refine (HGr.out _ hE).mono ?_; clear hE; rintro e w2 ⟨v, rfl, rfl, hE⟩)
        | (go_at_call 10; refine (HTo.out _ hE).mono ?_; clear hE; rintro e w2 ⟨v, rfl, rfl, hE⟩)
        | (go_at_call 6; refine (HWk.out _ _ sfx hE).mono ?_; clear hE; rintro e w3 ⟨v, rfl, rfl, hE⟩))
      go_ret
      exact ⟨_, rfl, rfl, hE⟩
    | false =>
      generalize totN es = tn at *
      have hbs := (build_same es).1
      have HB2 := SL.hid (fun (L2 : List HProp) (w : World) (hs : l <:+ L2) (h : Ent L2 w) => rBuild_any (es := es) (by omega) (fun x hx => ⟨by have := (hbd x hx).1; omega, by have := (hbd x hx).2; omega⟩) (hk.suf hs) h)
      cases he : ((buildT es).1 == 0) with
      | false =>
        have HBu := SL.hid (show ∀ w, Ent l w → Calls Tryd.prog 11 #[.slice ao es.length c] w (Ret fun v w' => ∃ m a c, v = .tuple #[.agg #[.bool false, .string ⟨#[]⟩, .slice a 0 c], .int .i64 (buildT es).1] ∧ Ent (m ++ l) w') from fun w h => by
          refine (Build_any (by omega) (fun x hx => ⟨by have := (hbd x hx).1; omega, by have := (hbd x hx).2; omega⟩) hk h).mono ?_
          rintro e w' ⟨v, rfl, m, kv, h, hE, hK⟩
          rw [buildT_zero (by simpa using he)] at h hK
          obtain ⟨a, c', rfl⟩ := hK.slice
          exact ⟨_, rfl, m, a, c', h, hE⟩)
        have HRb := SL.hid (show ∀ (A : HProp) (m : List HProp) (w : World), Ent (A :: (m ++ l)) w → Calls Tryd.prog 12 #[.slice ao es.length c] w (Ret fun v w' => ∃ m2 a n c, v = .tuple #[.agg #[.slice a n c], .int .i64 (buildT es).1] ∧ Ent (A :: (m2 ++ (m ++ l))) w') from fun A m w h => by
          refine (HB2.out _ _ ((List.suffix_append m l).trans (List.suffix_cons _ _)) h).mono ?_
          rintro e w' ⟨v, rfl, m2, a, c', rfl, hE, _⟩
          exact ⟨_, rfl, m2, a, _, c', by rw [hbs], Ent.swap (a := m2) (b := [A]) hE⟩)
        have hne : ((buildT es).1 != 0) = true := by rw [bne, he]; rfl
        clear he hbs hbd HB2 hk ht hf
        generalize (buildT es).1 = er at *
        have Tok := SL.hid True.intro
        go_enter Tryd.func4, Tryd.ntmps4
        go_wp2_with (first
          | go_skip
          | (go_at_call 9; refine (HGr.out _ hE).mono ?_; clear hE; rintro e w2 ⟨v, rfl, rfl, hE⟩)
          | (go_at_call 10; refine (HTo.out _ hE).mono ?_; clear hE; rintro e w2 ⟨v, rfl, rfl, hE⟩)
          | (go_at_call 11; refine (HBu.out _ hE).mono ?_; clear hE; rintro e w3 ⟨v, rfl, m, a, c', rfl, hE⟩)
          | (go_at_call 12; refine (HRb.out _ _ _ hE).mono ?_; clear hE; rintro e w3 ⟨v, rfl, m2, a2, n2, c2, rfl, hE⟩)
          | (go_at_call 6; refine (HWk.out _ _ sfx hE).mono ?_; clear hE; rintro e w3 ⟨v, rfl, rfl, hE⟩)
          | ((with_reducible (show Go.wpList _ _ _ (Go.Oper.mk _ (.alloc _) _ _ _ _ :: _) _ _)); clear Tok; (refine alX hE ?_; clear hE; intro b3 w hE))
          | (refine alX hE ?_; clear hE; intro b5 w hE)
          | (refine swX (t := 32) hE [.bool false, .string ⟨#[]⟩, .slice a 0 c'] Tryd.sizeOf32 ?_; clear hE; intro w hE)
          | (refine swX (t := 37) hE [.slice a2 n2 c2] Tryd.sizeOf37 ?_; clear hE; intro w hE)
          | (refine ldX hE ?_))
        go_ret
        exact ⟨_, rfl, rfl, hE.tail.tail.drop.drop⟩
      | true =>
        have he0 : (buildT es).1 = 0 := by simpa using he
        have hG := ((build_same es).2 he0).1
        have hes := ((build_same es).2 he0).2
        rw [hes] at hG
        have hdir : (buildT es).2.dir = true := hG.2.2.1
        have HBu := SL.hid (show ∀ w, Ent l w → Calls Tryd.prog 11 #[.slice ao es.length c] w (Ret fun v w' => ∃ m a c, v = .tuple #[.agg #[.bool true, .string ⟨(buildT es).2.data.toArray⟩, .slice a (buildT es).2.kids.length c], .int .i64 0] ∧ Ent (m ++ l) w' ∧ KidsAt (m ++ l) (.slice a (buildT es).2.kids.length c) (buildT es).2.kids) from fun w h => by
          refine (Build_any (by omega) (fun x hx => ⟨by have := (hbd x hx).1; omega, by have := (hbd x hx).2; omega⟩) hk h).mono ?_
          rintro e w' ⟨v, rfl, m, kv, h, hE, hK⟩
          rw [he0] at h
          obtain ⟨a, c', rfl⟩ := hK.slice
          exact ⟨_, rfl, m, a, c', by rw [← hdir]; exact h, hE, hK⟩)
        have HRb := SL.hid (show ∀ (A : HProp) (m : List HProp) (w : World), Ent (A :: (m ++ l)) w → Calls Tryd.prog 12 #[.slice ao es.length c] w (Ret fun v w' => ∃ m2 a c, v = .tuple #[.agg #[.slice a es.length c], .int .i64 0] ∧ Ent (A :: (m2 ++ (m ++ l))) w' ∧ Knows (m2 ++ (A :: (m ++ l))) (reads (.slice a es.length c) es.length (es.flatMap enC))) from fun A m w h => by
          refine (HB2.out _ _ ((List.suffix_append m l).trans (List.suffix_cons _ _)) h).mono ?_
          rintro e w' ⟨v, rfl, m2, a, c', rfl, hE, hkn⟩
          rw [hes] at hkn
          exact ⟨_, rfl, m2, a, c', by rw [← hbs, he0, hes], Ent.swap (a := m2) (b := [A]) hE, hkn⟩)
        clear he he0 hes hbs HB2
        generalize (buildT es).2 = t at *
        have Ht := SL.hid ht
        have Hf := SL.hid hf
        have HG := SL.hid hG
        clear ht hf hG hk
        have Tok := SL.hid True.intro
        go_enter Tryd.func4, Tryd.ntmps4
        go_wp2_with (first
          | go_skip
          | (go_at_call 9; refine (HGr.out _ hE).mono ?_; clear hE; rintro e w2 ⟨v, rfl, rfl, hE⟩)
          | (go_at_call 10; refine (HTo.out _ hE).mono ?_; clear hE; rintro e w2 ⟨v, rfl, rfl, hE⟩)
          | (go_at_call 11; refine (HBu.out _ hE).mono ?_; clear hE; rintro e w3 ⟨v, rfl, m, a, c', rfl, hE, hKA⟩)
          | (go_at_call 12; refine (HRb.out _ _ _ hE).mono ?_; clear hE; rintro e w3 ⟨v, rfl, m2, a2, c2, rfl, hE, hKn⟩)
          | ((with_reducible (show Go.wpList _ _ _ (Go.Oper.mk _ (.alloc _) _ _ _ _ :: _) _ _)); clear Tok; (refine alX hE ?_; clear hE; intro b3 w hE))
          | (refine alX hE ?_; clear hE; intro b5 w hE)
          | (refine swX (t := 32) hE [.bool true, .string ⟨t.data.toArray⟩, .slice a t.kids.length c'] Tryd.sizeOf32 ?_; clear hE; intro w hE)
          | (refine swX (t := 37) hE [.slice a2 es.length c2] Tryd.sizeOf37 ?_; clear hE; intro w hE)
          | (refine ldX hE ?_))
        clear HBu HRb HGr HTo h20
        obtain ⟨N, hN⟩ : ∃ N, N = pt b3 (.cells #[.bool true, .string ⟨t.data.toArray⟩, .slice a t.kids.length c'] 32) := ⟨_, rfl⟩
        have HKn := SL.hid (show Knows (pt b3 (.cells #[.bool true, .string ⟨t.data.toArray⟩, .slice a t.kids.length c'] 32) :: (m2 ++ (m ++ l))) _ from fun w h => hKn w (Ent.swap (a := [pt b3 (.cells #[.bool true, .string ⟨t.data.toArray⟩, .slice a t.kids.length c'] 32)]) (b := m2) h))
        clear hN N hKn
        have hw := HG.out.2.1
        have hnt := node_texts hw
        have hb2 : ∀ x ∈ es, x.path.length ≤ 1000000 := fun x hx => by have := (hbd x hx).1; omega
        obtain ⟨xs, hxs⟩ : ∃ xs, (nodeC 6 t).1.map putC = xs := ⟨_, rfl⟩
        rw [hxs] at hnt
        have HC := SL.hid (fun (L : List HProp) (w : World) (hs : (m ++ l) <:+ L) (hE : Ent L w) =>
          show Calls Tryd.prog 13 #[.agg #[.bool true, .string ⟨t.data.toArray⟩, .slice a t.kids.length c']] w (Ret fun v w' => ∃ a' c', v = .slice a' xs.length c' ∧ Ent (rowT a' c' xs :: L) w') from by
            have hsl : l <:+ L := (List.suffix_append m l).trans hs
            have h1 := Cut_any (d := 6) (by omega) hw (Ht.out.suf hsl) (Hf.out.suf hsl) (hKA.suf hs) hE
            rw [hdir, hxs] at h1
            exact h1)
        have HRC := SL.hid (fun (L : List HProp) (w : World) (hs : _ <:+ L) (hE : Ent L w) =>
          show Calls Tryd.prog 14 #[.agg #[.slice a2 es.length c2]] w (Ret fun v w' => ∃ a' c' m, v = .slice a' xs.length c' ∧ Ent (rowT a' c' xs :: (m ++ L)) w') from by
            refine (rCut_any HG.out (by omega) hb2 (HKn.out.suf hs) hE).mono ?_
            rintro e w' ⟨v, rfl, a', c', m', rfl, hE⟩
            have e1 : (nodeC 6 t).1.length = xs.length := by rw [← hxs, List.length_map]
            have e2 : (nodeC 6 t).1.map txB = xs.map txv := by rw [← hxs, List.map_map]; rfl
            rw [e1, e2] at hE
            exact ⟨_, rfl, a', c', m', by rw [e1], hE⟩)
        have HN := SL.hid (fun (a4 : Option Addr) (c4 : Nat) (L : List HProp) (w : World) (hr : Knows L (reads (.slice a4 xs.length c4) xs.length (xs.map fun s => .string ⟨s.toArray⟩))) (hE : Ent L w) => Need_any hnt.1 hnt.2 hr hE)
        have HRN := SL.hid (fun (a4 : Option Addr) (c4 : Nat) (L : List HProp) (w : World) (hr : Knows L (reads (.slice a4 xs.length c4) xs.length (xs.map fun s => .string ⟨s.toArray⟩))) (hE : Ent L w) => rNeed_any hnt.1 hnt.2 hr hE)
        have HRw := SL.hid (fun (a4 a5 : Option Addr) (c4 c5 : Nat) (L : List HProp) (w : World) (h1 : Knows L (reads (.slice a4 xs.length c4) xs.length (xs.map fun s => .string ⟨s.toArray⟩))) (h2 : Knows L (reads (.slice a5 xs.length c5) xs.length (xs.map fun s => .string ⟨s.toArray⟩))) (hE : Ent L w) => row_same (a := a4) (b := a5) (c := c4) (d := c5) hnt.1 h1 h2 hE)
        clear hxs hw hb2 hbd hnt HG Ht Hf
        generalize needN xs = nn at *
        generalize needK xs = nk at *
        have hO := hE.drew
        clear hE
        refine wp_region_held_drew (S := (fun w' => ((Instr.loadAt 32 (.pointer (some ⟨b3, 0, none⟩))).run Tryd.prog w' = .ok (.agg [.bool true, .string ⟨t.data.toArray⟩, .slice a t.kids.length c'].toArray) w') ∧ ((Instr.loadAt 37 (.pointer (some ⟨b5, 0, none⟩))).run Tryd.prog w' = .ok (.agg [.slice a2 es.length c2].toArray) w'))) (by kernel_rfl) ⟨(atWq hO Tryd.isAgg32 Tryd.sizeOf32), (atWq hO Tryd.isAgg37 Tryd.sizeOf37)⟩ (fun hS => ?_)
        refine tL 0 hS ?_; refine tL 2 hS ?_
        refine tO 1 (fun K hK => ?_)
        (go_simp; refine (HC.out _ _ sfx hO).mono ?_; clear hO; rintro e w5 ⟨v, rfl, a6, c6, rfl, hO⟩)
        refine tK hK ⟨(atWq hO Tryd.isAgg32 Tryd.sizeOf32), (atWq hO Tryd.isAgg37 Tryd.sizeOf37)⟩ (fun hS => ?_); clear hK K
        refine tO 3 (fun K hK => ?_)
        (go_simp; refine (HRC.out _ _ sfx hO).mono ?_; clear hO; rintro e w6 ⟨v, rfl, a7, c7, m7, rfl, hO⟩)
        refine tK hK ⟨(atWq hO.tail.drop Tryd.isAgg32 Tryd.sizeOf32), (atWq hO.tail.drop Tryd.isAgg37 Tryd.sizeOf37)⟩ (fun hS => ?_); clear hK K
        refine tV 4 hS ?_; refine tV 5 hS ?_
        refine wpAnyH_done (by kernel_rfl) ?_ _
        all_goals
          clear hS
          go_wp2_with (first
            | go_skip
            | (go_at_call 7; refine (HN.out a6 c6 _ _ (fun w h => reads_row h.tail.drop 0 rfl) hO).mono ?_; clear hO HN; rintro e w7 ⟨v, rfl, rfl, hO⟩)
            | (go_at_call 8; refine (HRN.out a7 c7 _ _ (fun w h => reads_row h 0 rfl) hO).mono ?_; clear hO HRN; rintro e w7 ⟨v, rfl, rfl, hO⟩)
            | (go_at_call 15; refine (HRw.out a6 a7 c6 c7 _ _ (fun w h => reads_row h.tail.drop 0 rfl) (fun w h => reads_row h 0 rfl) hO).mono ?_; clear hO HRw; rintro e w7 ⟨v, rfl, rfl, hO⟩)
            | (go_at_call 6; refine (HWk.out _ _ sfx hO).mono ?_; clear hO; rintro e w3 ⟨v, rfl, rfl, hO⟩))
          refine bodyPost_ret (results_tmp rfl _ _ _) rfl ?_
          exact ⟨_, rfl, rfl, hO.tail.drop.tail.tail.tail.drop.drop⟩
end Go.Proofs.YtehfbokkcamliaaDoor
namespace Go.Proofs.YtehfbokkcamliaaDoor
open Go.RowKit Go.SL Go.ChangeShapes Go.WideShapes Go.Deep

set_option maxRecDepth 100000 in
theorem open_ens {H : Type} {enc : TypeId × Value → H} {w : World} {held : Bool} {r : Reach} {b0 : Nat} {v : Value} {d : DataW H} {ps : List MemPlace}
    (hval : Value.okWide Tryd.prog w r b0 27 v) (h : DataW.Trod enc Tryd.prog w 0 (fun _ => true) held 27 v d ps) :
    ∃ (ao : Option Addr) (c : Nat) (xs : List En), v = .slice ao xs.length c ∧ xs.length ≤ c ∧ c ≤ maxLen ∧ (∀ x ∈ xs, True) ∧ reads v xs.length (xs.flatMap enC) w :=
  open_row Tryd.underlying27 enC (fun _ => True) enC_len (by omega) (by kernel_rfl) hval h (fun m cs y hl hy => by
    obtain ⟨ys, n, _, _, _, hyl, hg⟩ := DataW.trod_struct Tryd.underlying69 hy
    match cs, hl with
    | [c0, c1, c2], _ =>
      have g0 := hg 0 _ rfl
      have g1 := hg 1 _ rfl
      have g2 := hg 2 _ rfl
      match ys, hyl with
      | [y0, y1, y2], _ =>
        obtain ⟨a, q0, _, _⟩ := DataW.trod_string Tryd.underlying9 (show DataW.trod enc Tryd.prog w 0 (fun _ => true) held n 9 [c0] = some y0 from g0)
        obtain ⟨b, q1, _⟩ := DataW.trod_bool Tryd.underlying4 (show DataW.trod enc Tryd.prog w 0 (fun _ => true) held n 4 [c1] = some y1 from g1)
        obtain ⟨c, q2, _, _⟩ := DataW.trod_string Tryd.underlying9 (show DataW.trod enc Tryd.prog w 0 (fun _ => true) held n 9 [c2] = some y2 from g2)
        simp only [List.cons.injEq, and_true] at q0 q1 q2
        subst q0 q1 q2
        exact ⟨⟨a.data.toList, b, c.data.toList⟩, trivial, rfl⟩)
end Go.Proofs.YtehfbokkcamliaaDoor
namespace Go.Proofs.YtehfbokkcamliaaDoor
open Go.RowKit Go.SL

theorem laidMet_tail {P : Program} {x : String × DataW Unit} {rest : List (String × DataW Unit)} {W : World} (h : laidMet P (x :: rest) W) : laidMet P rest W := by
  obtain ⟨ps, ⟨g, t, cs, fuel, p, q, h1, h2, h3, h4, hq, rfl⟩, hnd, hrows⟩ := h
  exact ⟨q, hq, (List.nodup_append.1 hnd).2.1, fun b off hp => hrows b off (List.mem_append_right _ hp)⟩

def kI : List Int := [1116352408, 1899447441, 3049323471, 3921009573, 961987163, 1508970993, 2453635748, 2870763221, 3624381080, 310598401, 607225278, 1426881987, 1925078388, 2162078206, 2614888103, 3248222580, 3835390401, 4022224774, 264347078, 604807628, 770255983, 1249150122, 1555081692, 1996064986, 2554220882, 2821834349, 2952996808, 3210313671, 3336571891, 3584528711, 113926993, 338241895, 666307205, 773529912, 1294757372, 1396182291, 1695183700, 1986661051, 2177026350, 2456956037, 2730485921, 2820302411, 3259730800, 3345764771, 3516065817, 3600352804, 4094571909, 275423344, 430227734, 506948616, 659060556, 883997877, 958139571, 1322822218, 1537002063, 1747873779, 1955562222, 2024104815, 2227730452, 2361852424, 2428436474, 2756734187, 3204031479, 3329325298]
def firstI : List Int := [1779033703, 3144134277, 1013904242, 2773480762, 1359893119, 2600822924, 528734635, 1541459225]
theorem kI_same : ∀ i, i < 64 → kI.getD i 0 = ((kTab.getD i 0 : Nat) : Int) := by decide
theorem firstI_same : ∀ i, i < 8 → firstI.getD i 0 = ((hFirst.list.getD i 0 : Nat) : Int) := by decide

theorem ktab_of {W : World} (h : Lib.TabIs Tryd.prog W "armarium/sha.k" .u32 kI) (hg : Tryd.prog.globalNamed "armarium/sha.k" = some 1) : KTab W := fun i hi => by
  have := h.cell hg i (by simpa [kI] using hi)
  rwa [kI_same i hi] at this
theorem ftab_of {W : World} (h : Lib.TabIs Tryd.prog W "armarium/sha.first" .u32 firstI) (hg : Tryd.prog.globalNamed "armarium/sha.first" = some 0) : FTab W := fun i u hu => by
  have hi : i < 8 := by simpa [W8.list] using (List.getElem?_eq_some_iff.1 hu).1
  have := h.cell hg i (by simpa [firstI] using hi)
  rw [firstI_same i hi] at this
  rw [Addr.add_lit, Nat.zero_add, this]
  have h2 := u32_cell (r := hFirst.list) (k := i) hi
  rw [List.getElem?_toArray, hu] at h2
  exact h2.symm

theorem knows_ktab {W : World} (h : KTab W) : Knows [rest W fun _ => False] KTab := fun w hE i hi => by
  rw [(hE.below 0 rfl).cell (cell_lt (h i hi))]
  exact h i hi
theorem knows_ftab {W : World} (h : FTab W) : Knows [rest W fun _ => False] FTab := fun w hE i u hu => by
  rw [(hE.below 0 rfl).cell (cell_lt (h i u hu))]
  exact h i u hu
section
open Go.ChangeShapes Go.WideShapes Go.Deep
variable {H : Type} {enc : TypeId × Value → H} {w : World} {held : Bool}

set_option maxRecDepth 100000 in
theorem open_texts {r : Reach} {b0 : Nat} {v : Value} {d : DataW H} {ps : List MemPlace} (hval : Value.okWide Tryd.prog w r b0 22 v) (h : DataW.Trod enc Tryd.prog w 0 (fun _ => true) held 22 v d ps) :
    ∃ (ao : Option Addr) (c : Nat) (xs : List (List UInt8)), v = .slice ao xs.length c ∧ xs.length ≤ c ∧ c ≤ maxLen ∧ (∀ x ∈ xs, (fun _ => True) x) ∧ reads v xs.length (xs.map txv) w := by
  obtain ⟨ao, c, xs, h1, h2, h3, h4, h5⟩ := open_row Tryd.underlying22 (fun x : List UInt8 => [txv x]) (fun _ => True) (k := 1) (fun _ => rfl) (by omega) (by kernel_rfl) hval h (fun m cs y hl hy => by
    obtain ⟨s, e0, _, _⟩ := DataW.trod_string Tryd.underlying9 hy
    subst e0
    exact ⟨s.data.toList, trivial, rfl⟩)
  refine ⟨ao, c, xs, h1, h2, h3, h4, ?_⟩
  have e : ∀ l : List (List UInt8), l.flatMap (fun x => [txv x]) = l.map txv := by
    intro l
    induction l with
    | nil => rfl
    | cons x l ih => simp [List.flatMap_cons, ih]
  rwa [e] at h5
end

end Go.Proofs.YtehfbokkcamliaaDoor
